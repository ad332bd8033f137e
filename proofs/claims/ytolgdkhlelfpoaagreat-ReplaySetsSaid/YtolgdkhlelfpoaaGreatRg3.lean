/- Part 3 of what the laws' proofs lean on: states of the walk, typed functions of the program and their laws (short forms written by wip/shrink.py; no condition). -/
import Derived.Test.YtolgdkhlelfpoaaGreatRg2
set_option linter.defProp false
set_option linter.unnecessarySimpa false
set_option linter.unusedVariables false
set_option linter.unusedSimpArgs false
section
namespace Go.Proofs.YtolgdkhlelfpoaaGreat
open Go.RowKit Go.Sort
section
variable {α : Type}
def Yl (le:α→α→Bool) (x:α):List α→List α
 | []=>[x]
 |y::l=>bif le x y then x::y::l else y::Yl le x l
def QA (le:α→α→Bool) (l:List α):List α:=l.foldr (Yl le) []
def aOc (le:α→α→Bool) (x:α):∀l,(Yl le x l).Perm (x::l)
 | []=>.refl _
 |y::l=>by
  unfold Yl;cases h:le x y with
  |true=>exact .refl _
  |false=>exact((aOc le x l).cons y).trans (.swap x y l)
def kU (le:α→α→Bool):∀l,(QA le l).Perm l
 | []=>.refl _
 |x::l=>(aOc le x (QA le l)).trans ((kU le l).cons x)
def aci {le:α→α→Bool} (m:∀x y z,le x y=true→le y z=true→le x z=true) (n:∀x y,le x y=false→le y x=true) (x:α):∀l,l.Pairwise (fun a b=>le a b=true)→(Yl le x l).Pairwise (fun a b=>le a b=true)
 | [],_=>by simp[Yl]
 |y::l,h=>by
  have h':=Ol.1 h;unfold Yl;cases j:le x y with
  |true=>
   refine Ol.2 ⟨fun z f=>?_,h⟩;rcases F6.1 f with rfl|f
   ·exact j
   exact m x y z j (h'.1 z f)
  |false=>
   refine Ol.2 ⟨fun z f=>?_,aci m n x l h'.2⟩;rcases F6.1 ((aOc le x l).mem_iff.1 f)with rfl|f
   ·exact n _ _ j
   exact h'.1 z f
def aRt {le:α→α→Bool} (f:∀x y z,le x y=true→le y z=true→le x z=true) (h:∀x y,le x y=false→le y x=true):∀l:List α,(QA le l).Pairwise (fun a b=>le a b=true)
 | []=>.nil
 |x::l=>aci f h x _ (aRt f h l)
def aRV {le:α→α→Bool} (f:∀x y z,le x y=true→le y z=true→le x z=true) (h:∀x y,le x y=false→le y x=true) (ha:∀x y,le x y=true→le y x=true→x=y) {l m:List α} (j:m.Perm l) (n:m.Pairwise (fun a b=>le a b=true)):m=QA le l:=
 (j.trans (kU le l).symm).eq_of_pairwise (fun a b _ _ q s=>ha a b q s) n (aRt f h l)
def aJh {e:α→D} {enc:α→List Value} (f:∀x,(e x).cells=(enc x).map .lit):∀l:List α,flat (l.map e)=(l.flatMap enc).map fun v=>.d (.lit v)
 | []=>rfl
 |x::l=>by rw[Ko,V4,aJh f l,f,Nw,Jo,su];rfl
def aA6 {enc:α→List Value} {k:Nat} (f:∀x,(enc x).length=k):∀l:List α,(l.flatMap enc).length=l.length*k
 | []=>BU
 |x::l=>by rw[Nw,EL,f,aA6 f l,Fp,Xl,aFI,Ph]
def aTV {e:α→D} {enc:α→List Value} {k:Nat} (m:∀x,(e x).cells=(enc x).map .lit) (z:∀x,(enc x).length=k) (M:∀x,∀v∈enc x,v.oneCell'=true) {ok:Nat→Prop} {w:World} {H:List Bo} {h:Bo} {T:TypeId} {l:List α}:
 Em ok w H h (.arr T k (l.map e))↔h.size=k∧nD w T k h.v l.length (l.flatMap enc):=by
 have O:=aA6 z l;constructor
 ·rintro⟨q,_,xs,j,s,I⟩;refine⟨q,?_⟩;rw[D6]at j
  have :xs=l.flatMap enc:=by
   rw[aJh m]at s I;rw[D6]at s;refine ng s fun i hi J=>?_;have L:=(I i (by simpa using J)).2;simp only[List.getD,J9,Dn J,IB,MC,Dn hi]at L;cases L with |d _ _ h=>rw[Du.ahj h]
  rw[←this];exact j
 rintro⟨q,j⟩;refine⟨q,fun x u=>?_,l.flatMap enc,by rw[D6];exact j,?_⟩
 ·obtain⟨n,_,rfl⟩:=Fh.1 u;rw[m,D6,z]
 rw[aJh m];refine⟨BU,fun i hi=>?_⟩;have f:i<(l.flatMap enc).length:=Fj
 simp only[List.getD,J9,Dn f,IB,MC];refine⟨?_,.d _ _ (.lit _)⟩;obtain⟨x,_,u⟩:=UG.1 (ET f);exact M x _ u
def ag9 {f:Array Value} (h:f.size=2):f= #[f.getD 0 undef,f.getD 1 undef]:=by
 refine ZV jL fun i m j=>?_;simp at j;have :i=0∨i=1:=AA
 rcases this with rfl|rfl<;>simp[Array.getD,h]
def Ap.azs {P:Program} {f g:FuncId} {T:TypeId} {k:Nat} {e:α→D} {enc:α→List Value} (I:∀x,(e x).cells=(enc x).map .lit) (hk:∀x,(enc x).length=k) (h1:∀x,∀v∈enc x,v.oneCell'=true) {l r:List α}
 (h:∀(v:Value) (w:World),nD w T k v l.length (l.flatMap enc)→Calls P f #[v,.func (.func g) #[] #[]] w fun x w'=>x=.returned (.tuple #[])∧nD w' T k v r.length (r.flatMap enc)∧Turns v w w'):
 Ap P f [.aO 0,.d (.fn (.func g) [] [])] [.arr T k (l.map e)] (.fP []) [.arr T k (r.map e)]:=by
 intro ok X H w q J hs ha;have h0:=ha 0 BU;have L:=ha 1 BU;rw[ag9 hs];obtain⟨hd,U,Y⟩:=G7 J.ent J.hlen (k:=0) rfl;obtain hv:=P9 h0 U
 have hf:q.getD 1 undef=.func (.func g) #[] #[]:=by
  simp only[List.getD,aGZ,aMI,MC]at L;generalize q.getD 1 undef=u at L;cases L with
  |d _ _ L=>
   cases L with
   |fn _ _ _ vs us hl Z=>
    have e1:vs= #[]:=Zf (by simpa using hl);have e2:us= #[]:=Zf kG;rw[e1,e2]
 rw[hv,hf];obtain⟨hz,how⟩:=(aTV I hk h1).1 Y;refine(h hd.v w how).mono ?_;rintro x w' ⟨rfl,M,z⟩;have n:=fun b O=>J.blk 0 _ hd b rfl rfl U O
 have hg:=J.change (ok':=ok) (H':=H) (w':=w') (es':=[.arr T k (r.map e)]) (fun c=>DX hd.v=some c) z.os z.tape z.output z.size z.block (fun c I _=>⟨(n c I).1,(n c I).2.2⟩) (fun _ h=>h) (fun _ h=>.inl h) (.refl _) J.hlen (by
  intro j e' h' m S
  match j,m with
  |0,m=>
   simp at m;subst m;rw[U]at S;obtain rfl:=Cm S;refine .inr ⟨(aTV I hk h1).2 ⟨hz,M⟩,fun _ b O=>⟨(n b O).1,Uz (n b O).2.1 z.size,(n b O).2.2,fun k' e'' h'' hne s=>?_⟩⟩
   match k',s with
   |0,_=>exact absurd rfl hne
   |k'+1,s=>simp at s
  |k+1,m=>simp at m)
 exact⟨_,ok,H,rfl,hg.1,.fP [] #[] rfl (fun i hi=>Ns)⟩
end
section
variable {α : Type} [Inhabited α]
def aaZ {enc:α→List Value} {k:Nat} (j:∀x,(enc x).length=k) (l:List α):(flatK enc k l.toArray).toList=l.flatMap enc:=by
 have key:∀(l:List α) (t:Nat),t<l.length*k→(enc (l[t/k]?.getD default))[t % k]? =(l.flatMap enc)[t]? :=by
  intro l
  induction l with
  |nil=>intro t f;simp at f
  |cons x l q=>
   intro t f;rw[Fp,Xl,aFI]at f;rw[Nw];by_cases h:t<k
   ·rw[Nat.div_eq_of_lt h,Nat.mod_eq_of_lt h,GH (by rw[j];exact h)];rfl
   have h':k≤t:=Tq h;rcases YD k with m|m
   ·subst m;simp at f
   have s:t/k=(t-k)/k+1:=Nat.div_eq_sub_div m h';rw[s,Nat.mod_eq_sub_mod h',Jd (by rw[j];exact h'),j,←q (t-k) AA,aGZ]
 refine ng (by simp[aA6 j]) fun t u z=>?_;have f:t<l.length*k:=Rh
 have :=key l t f;rw[Dn z]at this;have n:=get_flatK enc k l.toArray t KZ;rw[wX _ _ KZ]at n;rw[Array.getElem_toList,n];have I:(l.toArray)[t/k]! =l[t/k]?.getD default:=BU
 rw[I];simp[List.getElem!_eq_getElem?_getD,this]
end
def SG (a b:Int):Int:=if a<b then -1 else if a>b then 1 else 0
def XO (p q:Int×Int×Int):Int:=if p.2.1=q.2.1 then(if p.2.2=q.2.2 then SG p.1 q.1 else SG p.2.2 q.2.2)else SG q.2.1 p.2.1
def aOY (a b:Int):SG a b<0↔a<b:=by
 unfold SG;split
 ·omega
 split<;>omega
def apR (p q:Int×Int×Int):XO p q<0↔q.2.1<p.2.1∨p.2.1=q.2.1∧(p.2.2<q.2.2∨p.2.2=q.2.2∧p.1<q.1):=by
 unfold XO;split
 ·split
  ·rw[aOY];omega
  rw[aOY];omega
 rw[aOY];omega
def aec (a b:Int) (W:World):Calls Tryz.prog 423 #[.int .i64 a,.int .i64 b] W fun e w'=>e=.returned (.int .i64 (SG a b))∧w'=W:=by
 unfold SG
 go_enter Tryz.func423,Tryz.ntmps423
 go_wp2
 all_goals (go_ret;exact⟨rfl,rfl⟩)
set_option maxHeartbeats 1000000 in
def agN (r p1 p2 p3 q1 q2 q3:Int) (hr:r=if p2=q2 then(if p3=q3 then SG p1 q1 else SG p3 q3)else SG q2 p2) (W:World):Calls Tryz.prog 422 #[.agg #[.int .i64 p1,.int .i64 p2,.int .i64 p3],.agg #[.int .i64 q1,.int .i64 q2,.int .i64 q3]] W fun e w'=>e=.returned (.int .i64 r)∧∃q j,w'=grow (W.drewN q) j:=by
 have f:=aec;generalize SG=c at f hr;have m:p2≠q2→c q2 p2=r:=fun h=>by rw[hr,DF h]
 have n:p2=q2→p3≠q3→c p3 q3=r:=fun h k=>by rw[hr,D7 h,DF k]
 have s:p2=q2→p3=q3→c p1 q1=r:=fun h k=>by rw[hr,D7 h,D7 k]
 clear hr
 go_enter Tryz.func422,Tryz.ntmps422
 go_wp2_with (go_at_call 423;refine(f _ _ _).mono ?_;rintro e w' ⟨rfl,rfl⟩)
 all_goals go_ret
 ·rename_i h;rw[m JB];exact⟨rfl,0,_,aNG⟩
 ·rename_i h k;rw[n JB (by simpa using k)];exact⟨rfl,0,_,aNG⟩
 rename_i h k;rw[s JB (by simpa using k)];exact⟨rfl,0,_,aNG⟩
def KL (p q:Int×Int×Int):Bool:= !decide (XO q p<0)
def oP (p q:Int×Int×Int):KL p q=true↔¬(p.2.1<q.2.1∨q.2.1=p.2.1∧(q.2.2<p.2.2∨q.2.2=p.2.2∧q.1<p.1)):=by
 unfold KL;rw[RZ,iG,apR]
def aKi (x y z:Int×Int×Int) (h:KL x y=true) (k:KL y z=true):KL x z=true:=by
 rw[oP]at *;omega
def aTs (x y:Int×Int×Int) (h:KL x y=false):KL y x=true:=by
 have h:¬KL x y=true:=by rw[h];decide
 rw[oP]at *;omega
def ac3 (x y:Int×Int×Int) (h:KL x y=true) (k:KL y x=true):x=y:=by
 rw[oP]at *;obtain⟨f,j,m⟩:=x;obtain⟨n,q,s⟩:=y;simp only[Qc]at *;omega
def acC (p q:Int×Int×Int):KL p q=false↔(p.2.1<q.2.1∨q.2.1=p.2.1∧(q.2.2<p.2.2∨q.2.2=p.2.2∧q.1<p.1)):=by
 rw[←Kz,oP,Decidable.not_not]
def aoJ (x y z:Int×Int×Int) (h:KL y x=false) (k:KL z y=false):KL z x=false:=by
 rw[acC]at *;omega
section
variable {α : Type}
def aA4 (f:α→Int×Int×Int) (l:List α):Option (List α):=if l.length≤1099511627776 then some (QA (fun x y=>KL (f x) (f y)) l)else none
def O4 (f:α→Int×Int×Int) (x:α):List Value:=[.int .i64 (f x).1,.int .i64 (f x).2.1,.int .i64 (f x).2.2]
def arD (f:α→Int×Int×Int) (x:α):(O4 f x).length=3:=rfl
def aQw (f:α→Int×Int×Int) (x:α):∀v∈O4 f x,v.oneCell'=true:=fun v h=>by
 simp[O4]at h;rcases h with rfl|rfl|rfl<;>rfl
def aCn (f:α→Int×Int×Int) (x y:α):ltOf (fun x y=>XO (f x) (f y)) x y= !KL (f y) (f x):=by simp[ltOf,KL]
def aoh (f:α→Int×Int×Int):SWO (ltOf fun x y:α=>XO (f x) (f y)):=by
 refine⟨fun x=>?_,fun x y z h k=>?_,fun x y z h k=>?_⟩
 ·rw[aCn,(oP (f x) (f x)).2 AA];rfl
 ·rw[aCn,RZ]at *;exact aoJ _ _ _ h k
 rw[aCn,Bool.not_eq_false']at *;exact aKi _ _ _ k h
variable [Inhabited α]
def ao1 (f:α→Int×Int×Int) (blk off size:Nat) (w:World):CmpLays Tryz.prog 422 #[] (O4 f) 3 (fun x y=>XO (f x) (f y)) blk off size w:=
 fun m os h _ x y=>agN (XO (f x) (f y)) (f x).1 (f x).2.1 (f x).2.2 (f y).1 (f y).2.1 (f y).2.2 rfl (sortWorldK (O4 f) 3 w blk off m h os)
set_option maxHeartbeats 2000000 in
def arC (f:α→Int×Int×Int) (hf:∀x y,f x=f y→x=y) (e:α→D) (he:∀x,e x=.agg [AZ (f x).1,AZ (f x).2.1,AZ (f x).2.2]) (l r:List α) (h:aA4 f l=some r):
 BD 421 [.aO 0,.d (.fn (.func 422) [] [])] [.arr 351 3 (l.map e)] (.fP []) [.arr 351 3 (r.map e)]:=by
 unfold aA4 at h;split at h
 ·rename_i hn;obtain rfl:=Cm h;have O:=arD f;refine Ap.azs (enc:=O4 f) (fun x=>by rw[he];rfl) O (aQw f) fun v w how=>?_;generalize hr:QA (fun x y=>KL (f x) (f y)) l=r;have s:r.length=l.length:=by rw[←hr];exact(kU _ l).length_eq
  rcases how.2 with⟨rfl,h0⟩|⟨g,cap,u,rfl,hbase,Z,hnc,hcm,hcs,I⟩
  ·have hl:l=[]:=Gt h0;have hl':r=[]:=Gt (by rw[s,h0]);subst hl;subst hl';refine(AnyF.slices_SortFunc_none (P:=Tryz.prog) (ρ:=Tryz.YW) { Tryz.arw with } none 0 _ w).mono ?_;rintro e w' ⟨rfl,h⟩;subst h;exact⟨rfl,nD.nil _ _ _,Turns.refl _ _⟩
  have S:g<w.heap.size:=(Fq.1 Z).1;have m:=aaZ (enc:=O4 f) O l
  have hH:HoldsK (O4 f) 3 w g 0 l.toArray:=by
   unfold HoldsK;have J:(flatK (O4 f) 3 l.toArray).size=l.length*3:=BU
   generalize flatK (O4 f) 3 l.toArray=F at m J;intro j L;refine⟨?_,by simp[World.frozen?,Z]⟩;have e0:(u.toList.take (l.length*3))[j]? =(l.flatMap (O4 f))[j]? :=by rw[I]
   rw[NI AA,←m]at e0;simp only[World.cell?,Z,J4];simp only[Option.isSome_none,RG,Jg];rw[←oH,e0,oH,wX F j L,lG L];rfl
  have eg:∀args w,(callFunc 422 args).run Tryz.prog w=.ok (.enter 422 args) w:=enters_of Tryz.func422 A8 rfl;have :=AnyQ.slices_SortFunc (P:=Tryz.prog) (ρ:=Tryz.YW) Tryz.arw 3 Tryz.isAgg351 Tryz.sizeOf351 (O4 f) O (aQw f) (fun x y=>XO (f x) (f y)) (aoh f) 422 #[] g 0 cap l.toArray w eg (ao1 f _ _ _ _) hH S Dy;refine this.mono ?_;rintro e' w' ⟨rfl,M,n,os,hp,hs,rfl⟩;obtain⟨U,_,q⟩:=hp;have Y:M.size=l.length:=oM
  have e1:M.extract 0 l.toArray.size=M:=by rw[←U];exact Array.extract_size
  rw[e1,Array.extract_size]at q
  have hm:M.toList=r:=by
   rw[←hr];refine aRV (le:=fun x y=>KL (f x) (f y)) (fun x y z=>aKi (f x) (f y) (f z)) (fun x y=>aTs (f x) (f y)) (fun x y h k=>hf _ _ (ac3 (f x) (f y) h k)) q ?_;refine KY.2 fun i j hi L hij=>?_;have :=hs i j (EY _) hij (by simpa[Y]using L);rw[aCn,wX M i Fj,wX M j aGb]at this;simpa using this
  obtain rfl:M=r.toArray:=by rw[←hm]
  have hF:=aaZ (enc:=O4 f) O r;have J:(flatK (O4 f) 3 r.toArray).size=l.length*3:=by simp[s]
  generalize hFF:flatK (O4 f) 3 r.toArray=F at hF J;refine⟨rfl,⟨by rw[aA6 O],.inr ⟨g,cap,putCells id 0 F u,by rw[s],EY _,?_,AA,hcm,by simpa[putCells]using hcs,?_⟩⟩,⟨rfl,rfl,rfl,by simp[sortWorldK,putRowK],fun c hc hne=>?_⟩⟩
  ·unfold sortWorldK putRowK;rw[hFF,heap_grow_old _ _ ZP];simp[putRow,mapBlock,Sort.ahead,OC,Z,onCells]
  ·rw[←hF,s];apply jg;intro j;by_cases L:j<l.length*3
   ·have hjc:j<u.size:=by have :=Ja 3 hnc;omega
    rw[NI L,oH,oH];have hjF:j<F.size:=AA
    simp[putCells,hjF,hjc]
   rw[List.getElem?_take_eq_none AA,II Dy]
  unfold sortWorldK putRowK;rw[heap_grow_old _ _ (by simpa using hc)];have :g≠c:=fun e=>hne mJ;simp[putRow,mapBlock,Sort.ahead,OC,this]
 cases h
end
end Go.Proofs.YtolgdkhlelfpoaaGreat
end
section
namespace Go.Proofs.YtolgdkhlelfpoaaGreat
open Go.RowKit
def D5.freeze {C:EI} {ok:Nat→Prop} {H:List Bo} {es:List BQ} {w:World} (h:D5 C ok H es w) {k:Nat} {e:BQ} {hd:Bo} (S:es[k]? =some e) (hl:e.live=true) (I:H[k]? =some hd):D5 C (fun b=>ok b∨DX hd.v=some b) H (es.set k .dead) w:=by
 have n:k<es.length:=(FV.1 S).1;have u:=fun b f=>h.blk k _ hd b S hl I f;have hg:EO ok w (fun b=>ok b∨DX hd.v=some b) w:=fun b f=>⟨.inl f,rfl⟩
 refine⟨h.fr,fun b f=>.inl (h.yA b f),?_,?_,h.names,by simp[h.hlen],?_,?_,?_⟩
 ·rintro b (f|f)
  ·exact h.yB b f
  exact .inr (u b f).2.2
 ·rintro b (f|f)
  ·exact h.kL b f
  exact(u b f).2.1
 ·intro j e' h' U q;rcases Ls n U with⟨rfl,rfl⟩|⟨_,s⟩
  ·trivial
  exact(h.ent j e' h' s q).mono hg (.refl _) (fun _ _ _=>rfl)
 ·intro j e' h' b U z q f;rcases Ls n U with⟨rfl,rfl⟩|⟨Y,s⟩
  ·cases z
  have h3:=h.blk j e' h' b s z q f;refine⟨fun m=>?_,h3.2⟩;rcases m with m|m
  ·exact h3.1 m
  exact Y (h.EJ j k e' _ h' hd b s S z hl q I f m)
 intro i j e1 e2 h1 h2 b Z he2 J L hh1 hh2 hb1 hb2;rcases Ls n Z with⟨rfl,rfl⟩|⟨_,M⟩
 ·cases J
 rcases Ls n he2 with⟨rfl,rfl⟩|⟨_,O⟩
 ·cases L
 exact h.EJ i j e1 e2 h1 h2 b M O J L hh1 hh2 hb1 hb2
section
variable {P : Program} {o : Oper} {es : List BQ}
def aif {t z I:TypeId} {x:Operand} {k:Nat} {m:List (Value×D)} (Y:P.underlying t=some (.map z I)) (J:es[k]? =some (.map m)) (Z:o.op=.range t x):Bq P o [(x,.mp k)] es (.ptr es.length 0) (es.set k .dead++[.iter m []]):=
 .eff fun C ok H a w f hn=>by
  obtain⟨hd,L,n⟩:=G7 f.ent f.hlen J;obtain⟨b,ms,clock,M,q,h3⟩:=n;have O:=SI (hn (x,.mp k) BU) L;simp only at O;have hb:b<w.heap.size:=(Fq.1 q).1;have S:=f.freeze J rfl L;have U:EO ok w (fun c=>ok c∨DX hd.v=some c) w:=fun c h=>⟨.inl h,rfl⟩
  have s:DX hd.v=some b:=by rw[M];rfl
  have g1:EO (fun c=>ok c∨DX hd.v=some c) w (fun c=>ok c∨DX hd.v=some c) (w.alloc (.mapIter (some b) clock #[] clock)):=fun c h=>⟨h,JY _ _ _ (S.kL c h)⟩
  have u:Em (fun c=>ok c∨DX hd.v=some c) (w.alloc (.mapIter (some b) clock #[] clock)) (H++[⟨.pointer (some ⟨w.heap.size,0,none⟩),0⟩]) ⟨.pointer (some ⟨w.heap.size,0,none⟩),0⟩ (.iter m []):=
   ⟨w.heap.size,b,ms,clock, #[],rfl,kN _ _,.inr s,(JY _ _ _ hb).trans q,(h3.mono U).mono g1,rfl,fun j i hj=>by simp at hj⟩
  obtain⟨m1,g2⟩:=S.push (.mapIter (some b) clock #[] clock) ⟨.pointer (some ⟨w.heap.size,0,none⟩),0⟩ _ (aCm w) u;refine⟨.pointer (some ⟨w.heap.size,0,none⟩),_,_,_,.inl ?_,U.trans g2,Names.push _ _,m1,.ptr _ _ w.heap.size 0 aEx⟩;have hr:=run_range_map (P:=P) w t z I b ms clock Y q;simp[execOp,Z,O,M,hr]
def born_inj {ok:Nat→Prop} {w:World} {es:List (Value×D)} {ms:Array MapEntry} {clock:Nat} (h:KI ok w es ms clock) {i j:Nat} {m n:MapEntry} (hi:ms[i]? =some m) (q:ms[j]? =some n) (s:m.born=n.born):i=j:=by
 rcases aAw i j with f|f|f
 ·have :=h.inc i j m n f hi q;omega
 ·exact f
 have :=h.inc j i n m f q hi;omega
def ajP {ok:Nat→Prop} {w:World} {es:List (Value×D)} {ms:Array MapEntry} {clock:Nat} (h:KI ok w es ms clock):(ms.toList.map (·.born)).Nodup:=by
 unfold List.Nodup;rw[KY];intro i j hi f m;simp only[D6,Ry]at hi f;have n:ms[i]? =some ms[i]:=QE
 have q:ms[j]? =some ms[j]:=Vk
 simp only[UC,Array.getElem_toList];intro e;have :=born_inj h n q e;omega
def afe {K V:Type} {x:Operand} {n i:Nat} {ek:K→Value} {ev:V→D} {m:List (K×V)} {vis:List Nat} {p:K×V} (U:m[i]? =some p) (Y:es[n]? =some (.iter (m.map (BJ ek ev)) (vis++[i]))) (Z:o.op=.entry x):
 Bq P o [(x,.ptr n 0)] es (.fP [.d (.lit (ek p.1)),.d (ev p.2)]) es:=
 .pure fun ok H a w h hl hn=>by
  obtain⟨hd,hh,u⟩:=G7 h hl Y;obtain⟨bi,J,ms,clock,seen,L,h2,h3,h4,M,h6,h7⟩:=u;have z:=hn (x,.ptr n 0) BU;simp only at z;generalize hv:a.eval x=v at z;cases z with
  |ptr _ _ b' s O=>
   rw[hh]at O;obtain rfl:=Cm O;simp only[Value.pointer.injEq,LJ,Addr.mk.injEq]at L;obtain⟨rfl,_⟩:=L;obtain⟨e,S,q2⟩:=h7 vis.length i BU;have I:(m.map (BJ ek ev))[i]? =some (BJ ek ev p):=by rw[J9,U];rfl
   obtain⟨r1,r2,_⟩:=M.ent i _ e I S;refine⟨.tuple #[e.key,e.val],?_,.fP _ _ rfl fun j hj=>?_⟩
   ·have f:seen.back?=some e.born:=by
     rw[Array.back?_eq_getElem?,h6];simpa using q2
    have q:e∈ms.toList:=by
     rw[Array.mem_toList_iff];exact Array.mem_of_getElem? S
    have hf:ms.find? (·.born==e.born)=some e:=by rw[←Array.find?_toList];exact find_born e ms.toList (ajP M) q
    have g1:(getObj b').run P w=.ok (.mapIter (some J) clock seen clock) w:=by simp[getObj,Sem.run,h2]
    have g2:(getObj J).run P w=.ok (.map ms clock) w:=Qa h4;simp[execOp,Z,hv,Instr.entry,g1,g2,f,hf]
   match j,hj with
   |0,_=>rw[show([Ag.d (.lit (ek p.1)),.d (ev p.2)]:List Ag).getD 0 .junk=.d (.lit (ek p.1))from rfl,show(#[e.key,e.val]:Array Value).getD 0 undef=e.key from rfl,r1];exact .d _ _ (.lit _)
   |1,_=>exact .d _ _ r2
end
def ase {P:Program} {w:World} {ok:Nat→Prop} {ty:TypeId} {bi I clock:Nat} {seen:Array Nat} {ms:Array MapEntry} {es:List (Value×D)} (hi:w.heap[bi]? =some (.mapIter (some I) clock seen clock)) (hb:w.heap[I]? =some (.map ms clock)) (Y:KI ok w es ms clock):
 ((leftOf ms seen).size=0∧(Instr.next (.pointer (some ⟨bi,0,none⟩)) false ty).run P w=.ok (.tuple #[.bool false]) w)∨
 ∃e∈(leftOf ms seen).toList,∃f:World,(f=w∨f=w.drew)∧(Instr.next (.pointer (some ⟨bi,0,none⟩)) false ty).run P w=.ok (.tuple #[.bool true,e.key,e.val]) (f.putObj bi (.mapIter (some I) clock (seen.push e.born) clock)):=by
 have m:∀x∈ms.toList,x.born<clock:=fun x n=>by
  obtain⟨i,hi,rfl⟩:=Ii n;have q:i<ms.size:=Fj
  have J:i<es.length:=by rw[←Y.len];exact q
  have :=(Y.ent i es[i] ms[i] (by simp[J]) (by simp[q])).2.2;simpa using this
 simp only[Instr.next,getObj,F7,Sem.run,hi,hb,Result.andThen,next_test_false seen ms clock clock m (E9 _),RG,Jg];unfold leftOf;have h:∀x∈(Array.filter (fun e=> !seen.contains e.born) ms).toList,x.born<clock:=fun x n=>m x (by simp at n ⊢;exact n.1);generalize Array.filter (fun e=> !seen.contains e.born) ms=L at h ⊢;have e1:L.filter (fun x=>decide (x.born<clock))=L:=Array.filter_eq_self.2 (fun x n=>by simpa using h x Nj)
 have e2:L.filter (fun x=>decide (x.born≥clock))= #[]:=by
  rw[Array.filter_eq_empty_iff];intro x n;have :=h x Nj;simp;omega
 simp only[e1,e2,Array.append_empty];by_cases Z:L.size=0
 ·left;have :L= #[]:=Zf Z;subst this;refine⟨rfl,?_⟩;simp[choose,Sem.run,Question.forced]
 right;have M:L.isEmpty=false:=by simp[Array.isEmpty,Z]
 simp only[M,RG,Jg,Array.empty_append,Array.size_map]
 have O:∃(j:Nat) (f:World),j<L.size∧(f=w∨f=w.drew)∧(choose (Question.mapNext L.size)).run P w=.ok j f:=by
  by_cases hf:L.size≤1
  ·exact⟨0,w,AA,.inl rfl,by simp[choose,Sem.run,Question.forced,hf]⟩
  exact⟨_,w.drew,kD _ AA,.inr rfl,by
   simp only[choose,Sem.run,Question.forced,Gi,hf,Jg,Question.cut]
   rfl⟩
 obtain⟨j,f,hj,s,u⟩:=O;refine⟨L[j],BU,f,s,?_⟩;have S:f.heap[bi]? =some (.mapIter (some I) clock seen clock):=by rcases s with rfl|rfl<;>exact hi
 have z:∀(U:Obj),(setObj bi U).run P f=.ok () (f.putObj bi U):=fun U=>by simp[setObj,Sem.run,S,World.putObj]
 simp only[u,Array.getElem?_map,lG hj,IB,F7,z,Result.andThen];rfl
section
variable {P : Program} {ops : Array Oper} {o : Oper} {rest l : List Oper} {σ : BL} {Q : Exit → BL → Prop} {K V : Type}
def at7 {ms:Array MapEntry} {seen:Array Nat} {e:MapEntry} (h:e∈(leftOf ms seen).toList):e∈ms.toList∧e.born∉seen:=by
 unfold leftOf at h;simp at h;exact⟨by simpa using h.1,h.2⟩
def DR.next {ek:K→Value} {ev:V→D} {x:Operand} {ty:Bool} (n:Nat) (m:List (K×V)) (vis:List Nat) (hn:σ.ents[n]? =some (.iter (m.map (BJ ek ev)) vis)) (ho:o.op=.next x false) (hx:σ.get x=.ptr n 0) (hg:KJ ops σ o.guard=some true)
 (h0:(∀i,i<m.length→i∈vis)→DR P ops rest (σ.rG o.dst (.fP [.d (DT false)])) Q)
 (h1:∀i p,m[i]? =some p→i∉vis→DR P ops rest (σ.put o.dst (.fP [.d (DT true),.d (.lit (ek p.1)),.d (ev p.2)]) (σ.ents.set n (.iter (m.map (BJ ek ev)) (vis++[i])))) Q):DR P ops (o::rest) σ Q:=by
 refine⟨fun ro l2 Q' C ok H a w u hk=>?_⟩;show wpListIn (Io ro) 0 P ops Q' (o::(rest++l2)) a w;unfold wpListIn;rw[D7 (Ox u (Ln hg))];have hv:=hx▸u.get x;obtain⟨hd,U,Y⟩:=G7 u.mem.ent u.mem.hlen hn;obtain⟨bi,J,ms,clock,seen,q1,q2,q3,q4,Z,q6,q7⟩:=Y
 have I:a.eval x=.pointer (some ⟨bi,0,none⟩):=by
  generalize a.eval x=v at hv;cases hv with
  |ptr _ _ b' s hH=>
   rw[U]at hH;obtain rfl:=Cm hH;simp only[Value.pointer.injEq,LJ,Addr.mk.injEq]at q1;obtain⟨rfl,_⟩:=q1;rfl
 have hlen:ms.size=m.length:=by rw[Z.len,D6]
 unfold Oper.wpIn;rw[kE _ _ _ (by rw[ho];intro c h;cases h)];rcases ase (P:=P) (ty:=o.type) q2 q4 Z with⟨hs,hr⟩|⟨e,L,w1,hw1,hr⟩
 ·have he:(execOp a.eval o).run P w=.ok (.value (.tuple #[.bool false])) w:=by simp[execOp,ho,I,hr]
  rw[he];refine⟨fun _ _=>trivial,?_⟩
  refine(h0 fun i hi=>?_).run ro l2 Q' C ok H _ w (u.put o.dst (.refl _ _) (.refl _) u.mem (.fP _ _ rfl fun j f=>by
   match j,f with
   |0,_=>exact .d _ _ (.lit _))) hk
  have M:i<ms.size:=AA
  have hnot:ms[i]∉(leftOf ms seen).toList:=by
   have :leftOf ms seen= #[]:=Zf hs;rw[this];simp
  have hin:ms[i].born∈seen:=by
   apply Xu;intro hc;refine hnot ?_;unfold leftOf;simp[hc]
  obtain⟨j,f,O⟩:=Array.getElem_of_mem hin;have hjv:j<vis.length:=AA
  obtain⟨e,r1,r2⟩:=q7 j vis[j] (by simp[hjv])
  have hb:e.born=ms[i].born:=by
   have e3:seen[j]? =some seen[j]:=Vk
   rw[e3,O]at r2;exact(Cm r2).symm
  have :=born_inj Z r1 (show ms[i]? =some ms[i] by simp[M]) hb;rw[←this];simp
 have he:(execOp a.eval o).run P w=.ok (.value (.tuple #[.bool true,e.key,e.val])) (w1.putObj bi (.mapIter (some J) clock (seen.push e.born) clock)):=by simp[execOp,ho,I,hr]
 rw[he];refine⟨fun _ _=>trivial,?_⟩;obtain⟨aEJ,hes⟩:=at7 L;obtain⟨i,hi,hie⟩:=Ii aEJ;have M:i<ms.size:=Fj
 have S:ms[i]? =some e:=by rw[←hie];simp[M]
 have him:i<m.length:=AA
 have hpe:(m.map (BJ ek ev))[i]? =some (BJ ek ev m[i]):=by simp[him]
 obtain⟨r1,r2,_⟩:=Z.ent i _ e hpe S
 have aEK:i∉vis:=fun hc=>by
  obtain⟨j,f,O⟩:=Ii hc;obtain⟨e2,s1,s2⟩:=q7 j i (by simp[←O,f]);rw[S]at s1;obtain rfl:=Cm s1;exact hes (Array.mem_of_getElem? s2)
 have z:D5 C ok H σ.ents w1∧EO ok w ok w1:=by
  rcases hw1 with rfl|rfl
  ·exact⟨u.mem,.refl _ _⟩
  exact u.mem.drew
 have hi1:w1.heap[bi]? =some (.mapIter (some J) clock seen clock):=by rcases hw1 with rfl|rfl<;>exact q2
 have q:w1.heap[J]? =some (.map ms clock):=(z.2 J q3).2.trans q4;have hne:J≠bi:=fun e=>by rw[e,hi1]at q;cases q
 obtain⟨m2,g2⟩:=z.1.ajr (o:=.mapIter (some J) clock (seen.push e.born) clock) (e':=.iter (m.map (BJ ek ev)) (vis++[i])) hn rfl U (by rw[q1];rfl)
  (fun g=>⟨bi,J,ms,clock,seen.push e.born,q1,VP (Fq.1 hi1).1,q3,(Xy hne).trans q,(Z.mono z.2).mono g,by simp[q6],fun j i' f=>by
   by_cases hjl:j<vis.length
   ·rw[GH hjl]at f;obtain⟨e2,s1,s2⟩:=q7 j i' f;exact⟨e2,s1,by rw[Array.getElem?_push_lt AA];simpa[lG (show j<seen.size by omega)]using s2⟩
   have hj2:j=vis.length:=by
    have :=(FV.1 f).1;simp at this;omega
   subst hj2;simp at f;subst f
   exact⟨e,S,by rw[←q6];simp⟩⟩)
 have g3:=z.2.trans g2
 have hp:=(h1 i m[i] (by simp[him]) aEK).run ro l2 Q' C ok H (a.put o.dst (.tuple #[.bool true,e.key,e.val])) _ (u.put o.dst (x:=.fP [.d (DT true),.d (.lit (ek m[i].1)),.d (ev m[i].2)]) g3 (.refl _) m2 (.fP _ _ rfl fun j f=>by
  match j,f with
  |0,_=>exact .d _ _ (.lit _)
  |1,_=>
   show R ok _ H (.d (.lit (ek m[i].1))) e.key;rw[r1];exact .d _ _ (.lit _)
  |2,_=>exact .d _ _ (r2.mono g3))) hk
 exact hp
def AB.aBp {A Rr:Type} {cd:Code} (S:List Nat→A→BL) (m:List (K×V)) (step:A→K×V→Option A) (Kf:A→Option Rr) (r:Rr) (a0:A) (hs:Bz σ (S [] a0))
 (I:∀vis:List Nat,vis.Nodup→(∀i,i∈vis↔i<m.length)→((vis.filterMap fun(i:Nat)=>m[i]?).foldlM step a0).bind Kf=some r)
 (round:∀(J:BL→Prop) (vis:List Nat) (a:A),((∀i,i<m.length→i∈vis)→Kf a=some r)→(∀i p,m[i]? =some p→i∉vis→∃a',step a p=some a'∧∀s,Bz s (S (vis++[i]) a')→J s)→AB P cd (S vis a) (Kq J Q)):AB P (.loop cd) σ Q:=by
 have O:∀vis:List Nat,vis.Nodup→(∀i∈vis,i<m.length)→∃rest,(vis++rest).Nodup∧(∀i,i∈vis++rest↔i<m.length):=fun vis f q=>by
  refine⟨(List.range m.length).filter fun i=> !vis.contains i,?_,fun i=>?_⟩
  ·refine aEl.2 ⟨f,List.Pairwise.filter _ List.nodup_range,fun a ha b U e=>?_⟩;subst e;rw[Gn]at U;simp[ha]at U
  rw[I8,Gn];constructor
  ·rintro(h|h)
   ·exact q i h
   simpa using h.1
  intro h;by_cases Z:i∈vis
  ·exact .inl Z
  exact .inr ⟨JB,by simp[Z]⟩
 refine AB.loop (fun n s=>∃vis a,n=m.length-vis.length∧vis.Nodup∧(∀i∈vis,i<m.length)∧(vis.filterMap fun(i:Nat)=>m[i]?).foldlM step a0=some a∧Bz s (S vis a)) (m.length) ⟨[],a0,BU,aY,fun i h=>Hl,rfl,hs⟩ ?_;rintro n s ⟨vis,a,rfl,f,q,hf,L⟩;refine CS L (round _ vis a (fun Z=>?_) (fun i p hp hi=>?_))
 ·have :=I vis f (fun i=>⟨q i,Z i⟩);rw[hf]at this;exact this
 have him:i<m.length:=(FV.1 hp).1;have u:(vis++[i]).Nodup:=aEl.2 ⟨f,BU,fun a ha b U e=>by simp at U;subst U;subst e;exact hi ha⟩
 have z:∀j∈vis++[i],j<m.length:=fun j Y=>by
  rcases I8.1 Y with h|h
  ·exact q j h
  simp at h;subst h;exact him
 obtain⟨rest,h1,h2⟩:=O (vis++[i]) u z;have h3:=I _ h1 h2;rw[ZQ,ZQ]at h3;simp only[RN,List.filterMap_nil,hp,List.foldlM_append,TU,List.foldlM_nil,hf,bind,pure,Ac]at h3;cases hst:step a p with
 |none=>rw[hst]at h3;simp at h3
 |some a'=>
  refine⟨a',rfl,fun s hs=>⟨m.length-(vis++[i]).length,?_,vis++[i],a',rfl,u,z,?_,hs⟩⟩
  ·have :vis.length<m.length:=by
    have L:vis.length≤(List.range m.length).length:=by
     refine aaI f ?_;intro j Y;simpa using q j Y
    have M:(vis++[i]).length≤(List.range m.length).length:=by
     refine aaI u ?_;intro j Y;simpa using z j Y
    simp at M;omega
   simp;omega
  rw[ZQ,List.foldlM_append,hf];simp[hp,hst]
end
def arE {α:Type}:∀(m:List α) (vis:List Nat),vis.Nodup→(∀i,i∈vis↔i<m.length)→(vis.filterMap fun(i:Nat)=>m[i]?).Perm m:=fun m vis f h=>by
 have j:vis.Perm (List.range m.length):=by
  rw[List.perm_iff_count];intro a;rw[f.count,List.nodup_range.count];simp[h a]
 have q:((List.range m.length).filterMap fun(i:Nat)=>m[i]?)=m:=by
  apply jg;intro i
  have :∀(n:Nat),n≤m.length→((List.range n).filterMap fun(i:Nat)=>m[i]?)=m.take n:=by
   intro n
   induction n with
   |zero=>intro _;simp
   |succ n s=>
    intro I;rw[List.range_succ,ZQ,s AA];have u:n<m.length:=AA
    simp[u]
  rw[this m.length (E9 _),GY]
 have z:=j.filterMap (fun(i:Nat)=>m[i]?)
 rwa [q]at z
def aKM {α β:Type} {c:α→Bool} {f:α→β} {b:Nat}:∀(l:List α) (v:List β),
 l.foldlM (fun v p=>bif c p then(CZ b v [f p]).bind fun x=>some x else some v) v=if(v.length+(l.filter c).length)*b≤140737488355328∨l.filter c=[]then some (v++(l.filter c).map f)else none
 | [],v=>BU
 |p::l,v=>by
  rw[TU];cases n:c p with
  |false=>
   have m:=aKM (c:=c) (f:=f) (b:=b) l v;simp only[BZ,bind,Ac,m,RJ,n,RG,Jg]
  |true=>
   simp only[Bg,RJ,n,JQ];have u:CZ b v [f p]=if(v.length+[f p].length)*b≤140737488355328 then some (v++[f p])else none:=rfl
   rw[u];by_cases j:(v.length+[f p].length)*b≤140737488355328
   ·rw[D7 j];have m:=aKM (c:=c) (f:=f) (b:=b) l (v++[f p]);simp only[Ac,bind,m];have q:(v++[f p]).length+(l.filter c).length=v.length+(p::l.filter c).length:=Dy
    rw[q];by_cases s:l.filter c=[]
    ·rw[s]at q ⊢;simp only[Fp,Lm]at j ⊢;simp[j]
    simp[s]
   rw[DF j];simp only[Option.bind_none,bind];rw[DF];rintro(h|h)
   ·refine j (Ej (Ja _ ?_) h);simp
   cases h
def am7 {α β Rr:Type} {c:α→Bool} {f:α→β} {b:Nat} {n m:List α} {v:List β} {Kf:List β→Option Rr} {r:Rr} (s:n.Perm m) (u:∀x y,x.Perm y→Kf x=Kf y)
 (h:(m.foldlM (fun v p=>bif c p then(CZ b v [f p]).bind fun x=>some x else some v) v).bind Kf=some r):
 (n.foldlM (fun v p=>bif c p then(CZ b v [f p]).bind fun x=>some x else some v) v).bind Kf=some r:=by
 rw[aKM]at h ⊢;have j:=s.filter c
 have e:((v.length+(n.filter c).length)*b≤140737488355328∨n.filter c=[])↔((v.length+(m.filter c).length)*b≤140737488355328∨m.filter c=[]):=by
  rw[j.length_eq];constructor
  ·rintro(h|h)
   ·exact .inl h
   exact .inr (by rw[h]at j;exact j.symm.eq_nil)
  rintro(h|h)
  ·exact .inl h
  exact .inr (by rw[h]at j;exact j.eq_nil)
 by_cases q:((v.length+(m.filter c).length)*b≤140737488355328∨m.filter c=[])
 ·rw[D7 q]at h;rw[D7 (e.2 q)];simp only[Ac]at h ⊢;rw[←h];exact u _ _ ((j.map f).append_left v)
 rw[DF q]at h;cases h
section
variable {K V : Type} [BEq K]
def FT :List (K×V)→K→Nat
 | [],_=>0
 |p::m,k=>bif k==p.1 then 0 else FT m k+1
def abG {ek:K→Value} {kd:TypeDesc} (j:∀a b,Instr.sameNow kd (ek a) (ek b)=some (a==b)) (k:K) (v:V):∀(m:List (K×V)) (l:List MapEntry) (i:Nat),l.map (·.key)=m.map (fun p=>ek p.1)→
 (Instr.findNow kd (ek k) l i=some none∧CX m k=none∧Dl m k v=m++[(k,v)]∧FT m k=m.length)∨
 ∃e p,Instr.findNow kd (ek k) l i=some (some (i+FT m k,e.val))∧l[FT m k]? =some e∧m[FT m k]? =some p∧CX m k=some p.2∧(k==p.1)=true∧Dl m k v=m.set (FT m k) (k,v)
 | [],[],_,_=>.inl ⟨rfl,rfl,rfl,rfl⟩
 | [],_::_,_,h=>Hl
 |_::_,[],_,h=>Hl
 |p::m,e::l,i,h=>by
  simp only[Ko,aKJ]at h;cases f:(k==p.1)with
  |true=>
   refine .inr ⟨e,p,?_,?_,?_,?_,f,?_⟩
   ·simp[Instr.findNow,h.1,j,f,FT]
   ·simp[FT,f]
   ·simp[FT,f]
   ·simp[CX,f]
   simp[Dl,FT,f]
  |false=>
   rcases abG j k v m l (i+1) h.2 with⟨n,q,s,u⟩|⟨e',z,n,q,s,u,I,J⟩
   ·refine .inl ⟨?_,?_,?_,?_⟩
    ·simp[Instr.findNow,h.1,j,f,n]
    ·simp[CX,f,q]
    ·simp[Dl,f,s]
    simp[FT,f,u]
   refine .inr ⟨e',z,?_,by simpa[FT,f]using q,by simpa[FT,f]using s,?_,I,?_⟩
   ·simp[Instr.findNow,h.1,j,f,n,FT];omega
   ·simp[CX,f,u]
   simp[Dl,f,J,FT]
def aae (k:K) (v:V):∀m:List (K×V),(Dl m k v)[FT m k]? =some (k,v)
 | []=>rfl
 |p::m=>by
  cases f:(k==p.1)with
  |true=>simp[Dl,FT,f]
  |false=>simp[Dl,FT,f,aae k v m]
def aTZ (k:K) (v u:V):∀m:List (K×V),(Dl m k v).set (FT m k) (k,u)=Dl m k u
 | []=>rfl
 |p::m=>by
  cases f:(k==p.1)with
  |true=>simp[Dl,FT,f]
  |false=>simp[Dl,FT,f,aTZ k v u m]
end
section
variable {ok : Nat → Prop} {w : World} {es : List (Value × D)} {ms : Array MapEntry} {clock : Nat}
def Rf.nil:Rf #[] 0:=⟨rfl,fun i e h=>Hl⟩
def Rf.push (h:Rf ms clock) {k v:Value}:Rf (ms.push { key:=k,val:=v,born:=clock }) (clock+1):=by
 refine⟨by simp[h.1],fun i e f=>?_⟩;rw[aIZ]at f;split at f
 ·rename_i j;obtain rfl:=Cm f;rw[j];exact h.1
 exact h.2 i e f
def Rf.modify (h:Rf ms clock) (j:Nat) (f:MapEntry→MapEntry) (n:∀e,(f e).born=e.born):Rf (ms.modify j f) clock:=by
 refine⟨by simp[h.1],fun i e m=>?_⟩;rw[OC]at m;split at m
 ·rw[Td]at m;obtain⟨q,s,rfl⟩:=m;rw[n];exact h.2 i q s
 exact h.2 i e m
def Rf.find (h:Rf ms clock) {n:Nat} (f:n<ms.size):ms.findIdx? (fun e=>(e.born:Int)==(n:Int))=some n:=by
 rw[Array.findIdx?_eq_some_iff_getElem];refine⟨f,?_,fun j m=>?_⟩
 ·have :=h.2 n ms[n] Vk;simp[this]
 have :=h.2 j ms[j] (by simp[Nat.lt_trans m f]);simp[this];omega
def akj (ms:Array MapEntry) (j:Nat) (k v:Value) (f:∀e,ms[j]? =some e→e.key=k):(ms.modify j fun e=>{ e with val:=v })=ms.modify j fun e=>{ e with key:=k,val:=v }:=by
 apply uz;intro i;rw[OC,OC];split
 ·rename_i e;subst e;cases h:ms[j]? with
  |none=>rfl
  |some e=>simp[f e h]
 rfl
def amv (ms:Array MapEntry) (j:Nat) (k v:Value) (f:∀e,ms[j]? =some e→e.val=v):(ms.modify j fun e=>{ e with key:=k })=ms.modify j fun e=>{ e with key:=k,val:=v }:=by
 apply uz;intro i;rw[OC,OC];split
 ·rename_i e;subst e;cases h:ms[j]? with
  |none=>rfl
  |some e=>simp[f e h]
 rfl
end
section
variable {P : Program} {o : Oper} {es : List BQ} {K V : Type} [BEq K]
def afP {t:TypeId} {f:Array (Nat×Operand)} {h:List (Nat×Nat)} {z:Value} {cs:List Ag} (j:Il P t h z) (vs:List Ag) (m:Jj (fun(i:Nat)=>h[i]?) (FH z) f.toList vs=cs) (n:MQ (fun(i:Nat)=>h[i]?) (FH z).length f.toList vs=true) (q:o.op=.build t f):
 Bq P o (Mc f.toList vs) es (.ag cs) es:=m▸ahw j vs n q
def WI (x y:Int):Int:=bif decide (y>x)then y else x
def aqU {x y:Operand} {ats:Array TypeId} {kd:IntKind} {a b:Int} (n:o.op=.call { callee:=.builtin .max,args:= #[x,y],argTypes:=ats }):
 Bq P o [(x,.d (.lit (.int kd a))),(y,.d (.lit (.int kd b)))] es (.d (.lit (.int kd (WI a b)))) es:=
 .pure fun ok H c w _ _ f=>by
  have j:=(Ee f).1.lit;have m:=(Ee f).2.lit;simp only at j m;have e:WI a b=if b>a then b else a:=by unfold WI;by_cases h:b>a<;>simp[h]
  refine⟨.int kd (WI a b),?_,.d _ _ (.lit _)⟩;rw[e];simp[execOp,n,resolve,invoke,builtin,j,m,Go.run_max_int2]
def aIx {t:TypeId} (q:o.op=.makeMap t none):Bq P o [] es (.mp es.length) (es++[.bQ []]):=
 .eff fun C ok H a w f J=>by
  have h:Em ok (w.alloc (.map #[] 0)) (H++[⟨.map (some w.heap.size),0⟩]) ⟨.map (some w.heap.size),0⟩ (.bQ []):=
   ⟨w.heap.size, #[],0,rfl,(aNB w _).1,⟨rfl,fun i e m s=>mW,fun i j m n _ f=>UF⟩,.nil⟩
  obtain⟨u,z⟩:=f.push (.map #[] 0) ⟨.map (some w.heap.size),0⟩ _ (fun b h=>aOP) h;refine⟨.map (some w.heap.size),_,ok,_,.inl ?_,z,Names.push _ _,u,.mp _ _ 0 rfl aEx⟩;have I:(newObj (.map #[] 0)).run P w=.ok w.heap.size (w.alloc (.map #[] 0)):=rfl;simp[execOp,q,Instr.makeMap,I]
def XD {t q s:TypeId} {x y:Operand} {k:Nat} {ek:K→Value} (ev:V→D) (u:V) {z:Value} {m:List (K×V)} {key:K} (M:P.underlying t=some (.map q s)) (O:KeyTy P q ek) (S:(P.info? s).bind (·.zero)=some z) (h:Y5 z=ev u) (j:z.cells.all (·.oneCell')=true)
 (U:es[k]? =some (.bQ (m.map (BJ ek ev)))) (Y:o.op=.lookup t x y false):Bq P o [(x,.mp k),(y,.d (.lit (ek key)))] es (.d (ev ((CX m key).getD u))) es:=
 .pure fun ok H a w f Z I=>by
  obtain⟨hd,hh,n⟩:=G7 f Z U;obtain⟨b,ms,clock,h1,h2,h3,_⟩:=n;have J:=SI (Ee I).1 hh;have L:=(Ee I).2.lit;simp only at J L;obtain⟨v,hr,hv⟩:=aBi (key:=key) ev M O S h j h2 h3 false;refine⟨v,?_,.d _ _ hv⟩;simp[execOp,Y,J,L,h1,hr]
def afK {t q s:TypeId} {x y:Operand} {k:Nat} {ek:K→Value} (ev:V→D) (u:V) {z:Value} {m:List (K×V)} {key:K} (M:P.underlying t=some (.map q s)) (O:KeyTy P q ek) (S:(P.info? s).bind (·.zero)=some z) (h:Y5 z=ev u) (j:z.cells.all (·.oneCell')=true)
 (U:es[k]? =some (.bQ (m.map (BJ ek ev)))) (Y:o.op=.lookup t x y true):Bq P o [(x,.mp k),(y,.d (.lit (ek key)))] es (.fP [.d (ev ((CX m key).getD u)),.d (DT (CX m key).isSome)]) es:=
 .pure fun ok H a w f Z I=>by
  obtain⟨hd,hh,n⟩:=G7 f Z U;obtain⟨b,ms,clock,h1,h2,h3,_⟩:=n;have J:=SI (Ee I).1 hh;have L:=(Ee I).2.lit;simp only at J L;obtain⟨v,hr,hv⟩:=aBi (key:=key) ev M O S h j h2 h3 true;refine⟨.tuple #[v,.bool (CX m key).isSome],?_,.fP _ _ rfl fun i hi=>?_⟩
  ·simp[execOp,Y,J,L,h1,hr]
  match i,hi with
  |0,_=>exact .d _ _ hv
  |1,_=>exact .d _ _ (.lit _)
def mG {C:EI} {ok:Nat→Prop} {H:List Bo} {w:World} (q:D5 C ok H es w) {k:Nat} {es0 j:List (Value×D)} {b clock f:Nat} {ms h:Array MapEntry} {hd:Bo} (s:es[k]? =some (.bQ es0)) (u:H[k]? =some hd) (m:hd.v=.map (some b)) (n:w.heap[b]? =some (.map ms clock))
 (z:KI ok w j h f) (I:Rf h f):(setObj b (.map h f)).run P w=.ok () (w.putObj b (.map h f))∧D5 C ok H (es.set k (.bQ j)) (w.putObj b (.map h f))∧EO ok w ok (w.putObj b (.map h f)):=by
 refine⟨by simp[setObj,Sem.run,n,World.putObj],q.ajr s rfl u (by rw[m];rfl) fun J=>⟨b,h,f,m,VP (Fq.1 n).1,z.mono J,I⟩⟩
def akX {t kt vt:TypeId} {x y u:Operand} {k:Nat} {ek:K→Value} (ev:V→D) {m:List (K×V)} {key:K} {val:V} (ht:P.underlying t=some (.map kt vt)) (s:KeyTy P kt ek) (M:es[k]? =some (.bQ (m.map (BJ ek ev)))) (ho:o.op=.mapUpdate t x y u):
 Bq P o [(x,.mp k),(y,.d (.lit (ek key))),(u,.d (ev val))] es .junk (es.set k (.bQ ((Dl m key val).map (BJ ek ev)))):=
 .eff fun C ok H a w z O=>by
  obtain⟨hd,S,U⟩:=G7 z.ent z.hlen M;obtain⟨b,ms,clock,I,J,L,h4⟩:=U;have Y:=SI (O (x,.mp k) BU) S;have Z:=(O (y,.d (.lit (ek key))) BU).lit;have hu:Du ok w (ev val) (a.eval u):=by have :=O (u,.d (ev val)) BU;cases this with |d _ _ h=>exact h
  simp only at Y Z;obtain⟨kd,f,hs⟩:=s.same;have hks:ms.toList.map (·.key)=m.map (fun p=>ek p.1):=by rw[L.keys];simp[BJ,wG]
  have n:=s.check;rcases yJ (i:=0) hs key val m ms.toList hks with⟨q1,_,q3⟩|⟨j,e,p,q1,q2,q3,_,q5,q6⟩
  ·have hM:=L.push (k:=ek key) hu;obtain⟨r1,r2,r3⟩:=mG (P:=P) z M S I J hM h4.push;refine⟨undef,_,ok,H,.inr ⟨rfl,?_⟩,r3,.refl _,?_,.junk _⟩
   ·simp[execOp,ho,Y,Z,I,Instr.mapUpdate,underlying,ht,Qa J,n,Instr.findKey,f,q1,r1]
   rw[q3,Jo];exact r2
  have hM:=L.modify (k:=ek key) hu j;obtain⟨r1,r2,r3⟩:=mG (P:=P) z M S I J hM (h4.modify j _ fun _=>rfl)
  have q:e.key=ek key:=by
   have h5:(m.map (BJ ek ev))[j]? =some (BJ ek ev p):=by rw[J9,q3];rfl
   rw[(L.ent j _ e h5 lM).1,s.eq _ _ q5];rfl
  have hst:∀w,(Instr.keyThatStays (ek key) (ek key)).run P w=.ok (ek key) w:=fun w=>by simp[Instr.keyThatStays,s.bits]
  have hms:ms[j]? =some e:=lM
  refine⟨undef,_,ok,H,.inr ⟨rfl,?_⟩,r3,.refl _,?_,.junk _⟩
  ·simp[execOp,ho,Y,Z,I,Instr.mapUpdate,underlying,ht,Qa J,n,Instr.findKey,f,q1,hms,q,hst,r1]
  rw[q6,aAG];exact r2
def aMo {t kt vt:TypeId} {x y:Operand} {k:Nat} {ek:K→Value} (ev:V→D) (q:V) {z:Value} {m:List (K×V)} {key:K} (ht:P.underlying t=some (.map kt vt)) (S:KeyTy P kt ek) (hz:(P.info? vt).bind (·.zero)=some z) (hzv:Y5 z=ev q) (hzl:z.cells.all (·.oneCell')=true)
 (he:es[k]? =some (.bQ (m.map (BJ ek ev)))) (ho:o.op=.mapEntry t x y):
 Bq P o [(x,.mp k),(y,.d (.lit (ek key)))] es (.fP [.d (ev ((CX m key).getD q)),.d (AZ (FT m key:Nat))]) (es.set k (.bQ ((Dl m key ((CX m key).getD q)).map (BJ ek ev)))):=
 .eff fun C ok H a w U hn=>by
  obtain⟨hd,hh,hok⟩:=G7 U.ent U.hlen he;obtain⟨b,ms,clock,Y,Z,s,h4⟩:=hok;have hx:=SI (Ee hn).1 hh;have hy:=(Ee hn).2.lit;simp only at hx hy;obtain⟨kd,u,hs⟩:=S.same;have hks:ms.toList.map (·.key)=m.map (fun p=>ek p.1):=by rw[s.keys];simp[BJ,wG]
  have I:=S.check;have hml:ms.size=m.length:=by have :=s.len;simpa using this
  obtain⟨i0,hi0,hz'⟩:=bY.1 hz;rcases abG (i:=0) hs key ((CX m key).getD q) m ms.toList hks with⟨q1,q2,q3,q4⟩|⟨e,p,q1,q2,q3,q4,q5,q6⟩
  ·have J:Du ok w (ev ((CX m key).getD q)) z:=by
    rw[q2];have :=adY (ok:=ok) (w:=w) hzl;rw[hzv]at this;exact this
   have hM:=s.push (k:=ek key) J;obtain⟨r1,r2,L⟩:=mG (P:=P) U he hh Y Z hM h4.push;refine⟨.tuple #[z,goInt clock],_,ok,H,.inl ?_,L,.refl _,?_,.fP _ _ rfl fun i hi=>?_⟩
   ·simp[execOp,ho,hx,hy,Y,Instr.mapEntry,underlying,ht,Qa Z,I,Instr.findKey,u,q1,r1,zeroValue,typeInfo,hi0,hz']
   ·rw[q3,Jo];exact r2
   match i,hi with
   |0,_=>
    have j:=J.mono L;exact .d _ _ j
   |1,_=>
    have :goInt (clock:Nat)=.int .i64 (FT m key:Nat):=by rw[q4,←hml,←h4.1];rfl
    show R ok _ H (.d (AZ (FT m key:Nat))) (goInt clock);rw[this];exact .d _ _ (.lit _)
  have h5:(m.map (BJ ek ev))[FT m key]? =some (BJ ek ev p):=by rw[J9,q3];rfl
  have f:ms[FT m key]? =some e:=lM
  have h:=s.ent _ _ e h5 f;have J:Du ok w (ev ((CX m key).getD q)) e.val:=by rw[q4];exact h.2.1
  have hM:=s.modify (k:=ek key) J (FT m key);have hmk:=amv ms (FT m key) (ek key) e.val (fun e' M=>by rw[f]at M;rw[←Cm M]);rw[←hmk]at hM;have O:e.key=ek key:=by rw[h.1,S.eq _ _ q5];rfl
  obtain⟨r1,r2,L⟩:=mG (P:=P) U he hh Y Z hM (h4.modify _ _ fun _=>rfl);have hst:∀w,(Instr.keyThatStays (ek key) (ek key)).run P w=.ok (ek key) w:=fun w=>by simp[Instr.keyThatStays,S.bits]
  have n:e.born=FT m key:=h4.2 _ e f;refine⟨.tuple #[e.val,goInt (FT m key:Nat)],_,ok,H,.inl ?_,L,.refl _,?_,.fP _ _ rfl fun i hi=>?_⟩
  ·simp[execOp,ho,hx,hy,Y,Instr.mapEntry,underlying,ht,Qa Z,I,Instr.findKey,u,q1,f,O,hst,r1,n]
  ·rw[q6,aAG];exact r2
  match i,hi with
  |0,_=>
   have j:=J.mono L;exact .d _ _ j
  |1,_=>exact .d _ _ (.lit _)
def aLB {t kt:TypeId} {x s u:Operand} {k:Nat} {ek:K→Value} (ev:V→D) {m:List (K×V)} {key:K} {z0 val:V} (hk:KeyTy P kt ek) (S:es[k]? =some (.bQ ((Dl m key z0).map (BJ ek ev)))) (ho:o.op=.entryStore t x s u):
 Bq P o [(x,.mp k),(s,.d (AZ (FT m key:Nat))),(u,.d (ev val))] es .junk (es.set k (.bQ ((Dl m key val).map (BJ ek ev)))):=
 .eff fun C ok H a w I J=>by
  obtain⟨hd,U,L⟩:=G7 I.ent I.hlen S;obtain⟨b,ms,clock,Y,Z,M,h4⟩:=L;have hx:=SI (J (x,.mp k) BU) U;have hy:a.eval s=.int .i64 (FT m key:Nat):=(J (s,.d (AZ (FT m key:Nat))) BU).lit;have hu:Du ok w (ev val) (a.eval u):=by have :=J (u,.d (ev val)) BU;cases this with |d _ _ h=>exact h
  simp only at hx;have f:=aae key z0 m;have h5:((Dl m key z0).map (BJ ek ev))[FT m key]? =some (BJ ek ev (key,z0)):=by rw[J9,f];rfl
  have j:FT m key<ms.size:=by
   have h6:=(FV.1 f).1;have :=M.len;rw[D6]at this;omega
  have n:ms[FT m key]? =some ms[FT m key]:=by simp[j]
  have q:=M.ent _ _ _ h5 n;have hM:=M.modify (k:=ek key) hu (FT m key);have O:=akj ms (FT m key) (ek key) (a.eval u) (fun e' z=>by rw[n]at z;rw[←Cm z];exact q.1);rw[←O]at hM;obtain⟨r1,r2,r3⟩:=mG (P:=P) I S U Y Z hM (h4.modify _ _ fun _=>rfl);refine⟨undef,_,ok,H,.inr ⟨rfl,?_⟩,r3,.refl _,?_,.junk _⟩
  ·simp[execOp,ho,hx,hy,Y,Instr.entryStore,Qa Z,asInt,asIntOf,h4.find j,r1]
  have e1:((Dl m key z0).map (BJ ek ev)).set (FT m key) (ek key,ev val)=(Dl m key val).map (BJ ek ev):=by
   rw[←aTZ key z0 val m,aAG];rfl
  rw[←e1];exact r2
end
section
variable {P : Program} {σ : BL} {Q : Exit → BL → Prop} {c : Operand} {x y : Code}
def Ad {A:Type} {b:Bool} {u v z:A} (h:(bif b then u else v)=z) (f:u=z→AB P x σ Q) (j:v=z→AB P y σ Q) (m:σ.get c=.d (.lit (.bool b)):=by kernel_rfl):AB P (.cond c x y) σ Q:=
 AB.cond b m (fun e=>f (TM e h)) (fun e=>j (SH e h))
end
def Uy {A:Type} {b:Bool} {u v z:A} (h:(bif b then u else v)=z):(b=true∧u=z)∨(b=false∧v=z):=by
 cases b with
 |true=>exact .inl ⟨rfl,h⟩
 |false=>exact .inr ⟨rfl,h⟩
def CJ {A:Type} {a b:A} (h:some a=some b):a=b:=Cm h
def Yn {α β γ:Type} {x:Option α} {y:α→Option β} {f:α→β→Option γ} {z:γ} (h:(x.bind fun a=>(y a).bind (f a))=some z):∃a,x=some a∧∃b,y a=some b∧f a b=some z:=by
 obtain⟨a,j,h⟩:=DN h;obtain⟨b,m,h⟩:=DN h;exact⟨a,j,b,m,h⟩
def aGc {α β γ δ:Type} {x:Option α} {y:α→Option β} {w:α→β→Option δ} {f:α→β→δ→Option γ} {z:γ} (h:(x.bind fun a=>(y a).bind fun b=>(w a b).bind (f a b))=some z):∃a,x=some a∧∃b,y a=some b∧∃d,w a b=some d∧f a b d=some z:=by
 obtain⟨a,j,b,m,h⟩:=Yn h;obtain⟨d,n,h⟩:=DN h;exact⟨a,j,b,m,d,n,h⟩
def AP {α β:Type} {x:Option α} {f:α→Option β} {z:β} {G:Prop} (h:x.bind f=some z) (k:∀a,x=some a→f a=some z→G):G:=by
 obtain⟨a,j,h⟩:=DN h;exact k a j h
def Bj {α β γ:Type} {x:Option α} {y:α→Option β} {f:α→β→Option γ} {z:γ} {G:Prop} (h:(x.bind fun a=>(y a).bind (f a))=some z) (k:∀a,x=some a→∀b,y a=some b→f a b=some z→G):G:=by
 obtain⟨a,j,b,m,h⟩:=Yn h;exact k a j b m h
def H6 {α β γ δ:Type} {x:Option α} {y:α→Option β} {w:α→β→Option δ} {f:α→β→δ→Option γ} {z:γ} {G:Prop} (h:(x.bind fun a=>(y a).bind fun b=>(w a b).bind (f a b))=some z) (k:∀a,x=some a→∀b,y a=some b→∀d,w a b=some d→f a b d=some z→G):G:=by
 obtain⟨a,j,b,m,d,n,h⟩:=aGc h;exact k a j b m d n h
section
variable {P : Program} {o : Oper} {es : List BQ} {α : Type}
def BK {x y:Operand} {t e:TypeId} {i:Int} {agg:Bool} {size:Nat} (enc:α→D) {l:List α} {a:α} (h:Aq l i=some a) (f:P.underlying t=some (.slice e)) (j:EC P e agg size) (m:o.op=.indexAddr t x y) (n:(enc a).cells.length=size:=by kernel_rfl):
 Bq P o [(x,.d (Au enc l)),(y,.d (.lit (.int .i64 i)))] es (.d (.ref (enc a).cells 0)) es:=jX enc h f j n m
def Dj {t e:TypeId} {size h len:Nat} {z:Value} (hE:Fl P t e size h) (n:(P.info? e).bind (·.zero)=some z) (ys:List D) {f:Array (Nat×Operand)} (q:o.op=.buildSlice t len f) (s:z.cells.all (·.oneCell')=true:=by kernel_rfl) (j:z.cells.size=size:=by kernel_rfl) (hlen:Nat.ble (len*size) 16777216=true:=by kernel_rfl)
 (u:MQ (fun i=>some (i*size,size)) (len*size) f.toList (ys.map .d)=true:=by kernel_rfl) (I:Jj (fun i=>some (i*size,size)) (QJ z (len*size)) f.toList (ys.map .d)=flat ys:=by kernel_rfl) (J:ys.length=len:=by kernel_rfl) (m:ys.all (fun y=>decide (y.cells.length=size))=true:=by kernel_rfl):
 Bq P o (Mc f.toList (ys.map .d)) es (.d (.sl ys)) es:=aaL hE n s j (Dw hlen) (ys.map .d) ys u I J m q
def G8 {t e:TypeId} {size h len:Nat} {z:Value} (hE:Fl P t e size h) (n:(P.info? e).bind (·.zero)=some z) (ys:List D) {f:Array (Nat×Operand)} (q:o.op=.buildSlice t len f) (s:z.cells.all (·.oneCell')=true:=by kernel_rfl) (j:z.cells.size=size:=by kernel_rfl) (hlen:Nat.ble (len*size) 16777216=true:=by kernel_rfl)
 (u:MQ (fun i=>some (i*size,size)) (len*size) f.toList (ys.map .d)=true:=by kernel_rfl) (I:Jj (fun i=>some (i*size,size)) (QJ z (len*size)) f.toList (ys.map .d)=flat ys:=by kernel_rfl) (J:ys.length=len:=by kernel_rfl) (m:ys.all (fun y=>decide (y.cells.length=size))=true:=by kernel_rfl):
 Bq P o (Mc f.toList (ys.map .d)) es (.aO es.length) (es++[.arr e size ys]):=aJ5 hE n s j (Dw hlen) (ys.map .d) ys u I J m q
def DR.aM {ops:Array Oper} {l:List Oper} {σ:BL} {K:Exit→BL→Prop} [T:Kn P] {M:BL→Prop} (n:Nat) (k:M (Qb (H8 T ops n l σ))) (f:l.length=n:=by kernel_rfl) (h:(H8 T ops n l σ).isSome=true:=by kernel_rfl):DR P ops l σ (Kq M K):=
 .a n (by rw[yg (Yf f)];exact .aZ k) h
end
def Eb {A:Type} {b:Bool} {u v z:A} {G:Prop} (h:(bif b then u else v)=z) (f:b=true→u=z→G) (k2:b=false→v=z→G):G:=by
 rcases Uy h with⟨e,h⟩|⟨e,h⟩
 ·exact f e h
 exact k2 e h
def ank {A:Type} (o:Option A) (f:A→Ag):Ag:=match o with
 |none=>.d (.lit (.pointer none))
 |some a=>f a
def aoR {A:Type} (o:Option A) (f:A→List BQ):List BQ:=match o with
 |none=>[]
 |some a=>f a
def SB {A B:Type} (o:Option A) (x:Option B) (f:A→Option B):Option B:=match o with
 |none=>x
 |some a=>f a
def dn {A B:Type} {x z:Option B} {f:A→Option B} (h:SB none x f=z):x=z:=h
def kH {A B:Type} {x z:Option B} {a:A} {f:A→Option B} (h:SB (some a) x f=z):f a=z:=h
section
variable {P : Program} {o : Oper} {es : List BQ}
def aCB {t t':TypeId} {x y:Operand} {k off:Nat} (m:P.underlying t=some (.pointer (P.pointee t))) (n:o.op=.binOp .eql t x y t'):Bq P o [(x,.ptr k off),(y,.d (.lit (.pointer none)))] es (.d (DT false)) es:=
 .pure fun _ _ a w _ _ h=>⟨.bool false,by
  have f:=(Ee h).1;have j:=(Ee h).2.lit;simp only at f j;generalize q:a.eval x=u at f;cases f with
  |ptr _ _ b s I=>
   have z:(eqGuard .eql t x y (Value.pointer (some ⟨b,off,none⟩)) (.pointer none)).run P w=.ok () w:=by
    unfold eqGuard;simp[pure,Sem.run_pure']
   simp only[execOp,n,q,j,F7,z,FI,run_eql_pointer_nil w t _ m,Fr]
   rfl,.d _ _ (.lit _)⟩
def yG {t t':TypeId} {x y:Operand} (m:P.underlying t=some (.pointer (P.pointee t))) (n:o.op=.binOp .eql t x y t'):Bq P o [(x,.d (.lit (.pointer none))),(y,.d (.lit (.pointer none)))] es (.d (DT true)) es:=
 .pure fun _ _ a w _ _ f=>⟨.bool true,by
  have h:=(Ee f).1.lit;have j:=(Ee f).2.lit;simp only at h j
  have q:(eqGuard .eql t x y (Value.pointer none) (.pointer none)).run P w=.ok () w:=by
   unfold eqGuard;simp[pure,Sem.run_pure']
  simp only[execOp,n,h,j,F7,q,FI,run_eql_pointer_nil w t _ m,Fr]
  rfl,.d _ _ (.lit _)⟩
end
def aIS :List ResultVar→Bool
 | []=>true
 | .tmp _::rs=>aIS rs
 |_::_=>false
def aCb (σ:BL):List ResultVar→List Ag
 | []=>[]
 | .tmp t::rs=>σ.slots.getD t .junk::aCb σ rs
 |_::rs=>.junk::aCb σ rs
def aQf {P:Program} {σ:BL}:∀{rs:List ResultVar},aIS rs=true→Wp P σ rs (aCb σ rs)
 | [],_=>trivial
 | .tmp _::_,h=>⟨rfl,aQf h⟩
def EH {P:Program} {σ:BL} {rs:List ResultVar} {f:Ag} {E':List BQ} (π:List (Nat×Bool)) (ha:aIS rs=true:=by kernel_rfl) (h:UD σ.base σ.ents π=true:=by kernel_rfl) (j:f=(eL (aCb σ rs)).back π:=by kernel_rfl) (m:E'=RI σ.ents π:=by kernel_rfl):
 ∃xs π,Wp P σ rs xs∧UD σ.base σ.ents π=true∧f=(eL xs).back π∧E'=RI σ.ents π:=⟨_,π,aQf ha,h,j,m⟩
def TB :Nat→Nat→List (Nat×Nat×Nat)
 |0,_=>[]
 |n+1,x=>(x % 2048,x/2048 % 64,x/131072 % 2048)::TB n (x/268435456)
def aLf :List (Nat×Nat×Nat)→List (List Nat)→Nat→List (List Nat)
 | [],N,_=>N
 |t::Tr,N,n=>bif Nat.beq t.2.2 n then aLf Tr (N++[t.2.1::N.getD t.1 []]) (n+1)else aLf Tr N n
def OW (n x:Nat):List (List Nat):=aLf (TB n x) [[]] 1
section
variable {P : Program} [T : Kn P] {id : Nat} {ops : Array Oper} {σ : BL} {Q : Exit → BL → Prop} {y : Code}
def AB.aCO (L:List (KE P)) (n x f:Nat) (h:Q .normal (JL T L ops σ ((OW n x).getD f []))) (j:P.follows .mixedOrders=true:=by kernel_rfl) (m:ah ops (OW n x) (TB n x) [f]=true:=by kernel_rfl)
 (q:((TB n x).map fun t=>TG T L ops (JL T L ops σ ((OW n x).getD t.1 [])) t.2.1)=(TB n x).map fun t=>some (JL T L ops σ ((OW n x).getD t.2.2 []),U5 L t.2.1):=by kernel_rfl) (s:(OW n x).getD 0 [0]=[]:=by kernel_rfl):AB P (.region id ops true) σ Q:=
 AB.node1 L _ _ f h j m s q
def aDT (L:List (KE P)) (n x f:Nat) (h:AB P y (JL T L ops σ ((OW n x).getD f [])) Q) (j:P.follows .mixedOrders=true:=by kernel_rfl) (m:ah ops (OW n x) (TB n x) [f]=true:=by kernel_rfl)
 (q:((TB n x).map fun t=>TG T L ops (JL T L ops σ ((OW n x).getD t.1 [])) t.2.1)=(TB n x).map fun t=>some (JL T L ops σ ((OW n x).getD t.2.2 []),U5 L t.2.1):=by kernel_rfl) (s:(OW n x).getD 0 [0]=[]:=by kernel_rfl):AB P (.seq (.region id ops true) y) σ Q:=
 AB.aDN L _ _ f h j m s q
def AB.arI (L:List (KE P)) (n x:Nat) (F:List Nat) (f:BL) (h:QB (fun k=>lY (JL T L ops σ ((OW n x).getD k [])) f) F) (j:AB P y f Q) (m:P.follows .mixedOrders=true:=by kernel_rfl) (q:ah ops (OW n x) (TB n x) F=true:=by kernel_rfl)
 (s:((TB n x).map fun t=>TG T L ops (JL T L ops σ ((OW n x).getD t.1 [])) t.2.1)=(TB n x).map fun t=>some (JL T L ops σ ((OW n x).getD t.2.2 []),U5 L t.2.1):=by kernel_rfl) (u:(OW n x).getD 0 [0]=[]:=by kernel_rfl):AB P (.seq (.region id ops true) y) σ Q:=
 AB.aDO L _ _ F f h j m q u s
end
end Go.Proofs.YtolgdkhlelfpoaaGreat
end
section
namespace Go
open Go.Proofs.YtolgdkhlelfpoaaGreat
variable {P : Program}
def aE0 (w:World) (J M ty f:TypeId) (b o h q:Nat) (a:Addr) (m s k n:Nat) (cs:List Value)
 (O:P.underlying J=some (.slice f)) (L:(P.info? f).map (·.size)=some k) (S:n=Nat.min m h) (U:cs.length=n*k)
 (u:∀j v,cs[j]? =some v→w.cell? (a.add j)=some v) (Y:∀j,j<cs.length→(w.cell? ⟨b,o+j,none⟩).isSome=true) (Z:∀j,j<cs.length→w.frozen? ⟨b,o+j,none⟩=false) (h1:∀v∈cs,v.oneCell'=true):
 (Builtin.copy_ #[J,M] ty #[.slice (some ⟨b,o,none⟩) h q,.slice (some a) m s]).run P w=.ok (goInt n) (w.setCells b o cs):=by
 have z:=aJP (P:=P) w a cs u;have hst:=run_storeCells_cells (P:=P) b o cs 0 w (by simpa using Y) kG h1;rw[U]at z;cases I:P.info? f with
 |none=>simp[I]at L
 |some i=>
  have hi:i.size=k:=by simpa[I]using L
  simp[Builtin.copy_,aCi O,Builtin.lenOf,Builtin.firstCells,sizeOf,typeInfo,I,hi,←S,z,hst]
end Go
namespace Go.Proofs.YtolgdkhlelfpoaaGreat
open Go.Shelf Go.RowKit Go.Lib
set_option linter.unusedVariables false
set_option linter.unusedSimpArgs false
set_option maxHeartbeats 4000000 in
set_option maxRecDepth 100000 in
def aoz (b n c i vb vc:Nat) (cs vs:List Value) (w:World) (hi:i<n) (hroom:n+1≤c) (hc63:c≤9223372036854775807) (hvb:vb≠b)
 (hcl:cs.length=n*29) (hvl:vs.length=29)
 (hcs:∀j v,cs[j]? =some v→w.cell? ⟨b,j,none⟩=some v) (hsp:∀j,j<(n+1)*29→(w.cell? ⟨b,j,none⟩).isSome=true) (hfz:∀j,j<(n+1)*29→w.frozen? ⟨b,j,none⟩=false)
 (hvs:∀j v,vs[j]? =some v→w.cell? ⟨vb,j,none⟩=some v) (h1c:∀v∈cs,v.oneCell'=true) (h1v:∀v∈vs,v.oneCell'=true)
 (tA tB:TypeId) (kA kB:Nat) (hsa:w.shape? vb=some (tA,kA)) (hsb:w.shape? b=some (tB,kB)) (hkB:kB≠0) (hfa:w.frozen? ⟨vb,0,none⟩=false) (hfe:w.frozen? ⟨vb,kA,none⟩=false):
 Calls Tryz.prog 98 #[.slice (some ⟨b,0,none⟩) n c,.int .i64 i,.slice (some ⟨vb,0,none⟩) 1 vc] w fun e w'=>
  e=.returned (.slice (some ⟨b,0,none⟩) (n+1) c)∧w'=(w.drew.setCells b ((i+1)*29) (cs.drop (i*29))).setCells b (i*29) vs:=by
 have hz2:¬((i:Int)=(n:Int)):=AA
 have hw1:BA ((i:Int)+1)=(i:Int)+1:=QC
 have hw2:BA ((n:Int)+1)=(n:Int)+1:=QC
 have hb1:(0:Int)≤(i:Int)+1:=AA
 have hin:i≤n:=AA
 have htn:((i:Int)+1).toNat=i+1:=AA
 have aFx:((n:Int)+1).toNat=n+1:=AA
 have hb2:¬(c=i+1):=AA
 have hb3:(i:Int)≤(n:Int)+1:=AA
 have hb4:¬(c=i):=AA
 have hb5:¬((c:Int)<(n:Int)+1):=AA
 have q:(Tryz.prog.info? 55).map (·.size)=some 29:=A8
 have L:∀w,(Go.sizeOf 55).run Tryz.prog w=.ok 29 w:=fun w=>by
  cases M:Tryz.prog.info? 55 with
  |none=>simp[M]at q
  |some i=>
   have h0:i.size=29:=by simpa[M]using q
   simp[sizeOf,typeInfo,M,h0]
 have O:∀S U,(callFunc 139 #[.slice (some ⟨vb,0,none⟩) 1 vc,.slice (some ⟨b,(i+1)*29,none⟩) S U]).run Tryz.prog w=.ok (.value (.bool false)) w:=fun S U=>by
  rw[run_callFunc_extern Tryz.func139 A8 A8 A8 (e:=Extern.SlicesOverlaps.overlaps #[22,22] #[4]) A8,
   Lib.run_overlaps_apart w 22 4 55 Yq 29 L ⟨vb,0,none⟩ ⟨b,(i+1)*29,none⟩ 1 vc S U hvb tA tB kA kB hsa hsb hkB hfa hfe]
  rfl
 have s:(cs.drop (i*29)).length=(n-i)*29:=by rw[L6,hcl,Nat.sub_mul]
 have u:∀ty Ai Y,(Builtin.copy_ #[22,22] ty #[.slice (some ⟨b,(i+1)*29,none⟩) (n-i) Ai,.slice (some ⟨b,i*29,none⟩) (n+1-i) Y]).run Tryz.prog w.drew=.ok (goInt (n-i:Nat)) (w.drew.setCells b ((i+1)*29) (cs.drop (i*29))):=fun ty Ai Y=>
  aE0 w.drew _ _ ty 55 b ((i+1)*29) (n-i) Ai ⟨b,i*29,none⟩ (n+1-i) Y 29 (n-i) (cs.drop (i*29)) Yq q aDx s
   (fun j v f=>by rw[cG];exact hcs (i*29+j) v (by rwa [Oh]at f))
   (fun j f=>hsp _ aKq) (fun j f=>hfz _ aKq) (fun v hv=>h1c v (aMU hv))
 obtain⟨W1,m⟩:∃W1,W1=w.drew.setCells b ((i+1)*29) (cs.drop (i*29)):=⟨_,rfl⟩
 have z:∀k,k<(n+1)*29→(W1.cell? ⟨b,k,none⟩).isSome=true:=fun k hk=>by
  rw[m];exact isSome_setCells b (cs.drop (i*29)) ((i+1)*29) w.drew (fun j f=>hsp _ aKq) _ (hsp k hk)
 have I:∀(W:World),(∀x,W.cell? x=W1.cell? x)→(∀x,W.frozen? x=W1.frozen? x)→∀ty Ai,(Builtin.copy_ #[22,22] ty #[.slice (some ⟨b,i*29,none⟩) (n+1-i) Ai,.slice (some ⟨vb,0,none⟩) 1 vc]).run Tryz.prog W=.ok (goInt (1:Nat)) (W.setCells b (i*29) vs):=fun W J Z ty Ai=>
  aE0 W _ _ ty 55 b (i*29) (n+1-i) Ai ⟨vb,0,none⟩ 1 vc 29 1 vs Yq q aDx (by rw[hvl])
   (fun j v f=>by
    rw[cG,J,m,World.cell?_setCells_out b _ _ _ _ (fun h _=>absurd h hvb),J4]
    exact hvs j v f)
   (fun j f=>by rw[J];exact z _ AA) (fun j f=>by rw[Z,m,World.frozen?_setCells];exact hfz _ AA) h1v
 rw[←m]at u;have mixed:Tryz.prog.follows .mixedOrders=true:=A8
 go_enter Tryz.func98,Tryz.ntmps98
 go_wp2_with (simp only[O])
 go_region_law_o (refine step_copy_runI rfl _ _ 22 22 rfl _ _ aGT aGT (u _ _ _) ?_)
 go_wp2_with (at_builtin;refine wpList_copy_runI _ rfl _ _ 22 22 rfl _ _ rfl rfl (I _ (fun _=>rfl) (fun _=>rfl) _ _) ?_)
 go_ret
 first|exact⟨rfl,rfl⟩|exact⟨rfl,by rw[m]⟩
set_option maxHeartbeats 4000000 in
set_option maxRecDepth 100000 in
def aiM (b n c i vb vc:Nat) (cs vs:List Value) (w:World) (hi:i<n) (hnc:n≤c) (hroom:c<n+1) (hbig:(n+1)*376≤140737488355328)
 (hcl:cs.length=n*29) (hvl:vs.length=29)
 (hcs:∀j v,cs[j]? =some v→w.cell? ⟨b,j,none⟩=some v) (hvs:∀j v,vs[j]? =some v→w.cell? ⟨vb,j,none⟩=some v) (h1c:∀v∈cs,v.oneCell'=true) (h1v:∀v∈vs,v.oneCell'=true):
 Calls Tryz.prog 98 #[.slice (some ⟨b,0,none⟩) n c,.int .i64 i,.slice (some ⟨vb,0,none⟩) 1 vc] w fun e w'=>∃G ROW,e=.returned (.slice (some ⟨w.heap.size,0,none⟩) (n+1) G)∧n+1≤G∧G≤maxLen∧G*29≤ROW.size∧ROW.toList.take (i*29)=cs.take (i*29)∧
  w'=(((w.alloc (.cells ROW 55)).drew.setCells w.heap.size (i*29) vs).drew).setCells w.heap.size ((i+1)*29) (cs.drop (i*29)):=by
 have hE:Fl Tryz.prog 22 55 29 376:=L9 A8;obtain⟨i0,z0,S,hz0,U,Y,hzc⟩:=hE.info;have Z:(Tryz.prog.info? 55).map (·.size)=some 29:=by rw[S];simp[U]
 have mixed:Tryz.prog.follows .mixedOrders=true:=A8
 have hz2:¬((i:Int)=(n:Int)):=AA
 have hz3:(c:Int)<(n:Int)+1:=AA
 have hil:i*29<cs.length:=AA
 have hbw:b<w.heap.size:=block_lt_of_cell (hcs 0 _ (Dn AA));have hvw:vb<w.heap.size:=block_lt_of_cell (hvs 0 _ (Dn AA));have hkk:(n:Int)+1-(i:Int)=((n+1-i:Nat):Int):=AA
 have J:i+(n+1-i)=n+1:=AA
 have L:(cs.take (i*29)).length=i*29:=aaH
 have z:(Builtin.firstCells i0.size i (.slice (some ⟨b,0,none⟩) i c)).run Tryz.prog w.drew=.ok (cs.take (i*29)).toArray w.drew:=by
  rw[U]
  exact run_firstCells_some w.drew 29 i ⟨b,0,none⟩ i c (cs.take (i*29)) (by rw[L]) (fun j v f=>by
   rw[cG,J4];rw[qJ]at f;split at f
   ·exact hcs j v f
   cases f)
 have u:∀ty,(Builtin.append_ #[22,3] ty #[.slice (some ⟨b,0,none⟩) i c,.int .i64 ((n:Int)+1-(i:Int))]).run Tryz.prog w=
  .ok (.slice (some ⟨w.heap.size,0,none⟩) (n+1) (grownCap w (n+1) c 55)) (w.drew.alloc (.cells ((cs.take (i*29)).toArray++Builtin.zeroCells z0.cells (n+1-i)++Builtin.zeroCells z0.cells (grownCap w (n+1) c 55-(n+1))) 55)):=fun ty=>by
  have h:=Lib.run_append_grow_zeros w 22 3 ty 55 i0 z0 .i64 .i64 hE.und A8 S hz0 (some ⟨b,0,none⟩) i c (cs.take (i*29)) z (n+1-i) AA AA AA AA (by rw[Y];omega) (by rw[Y,J];exact growslice_fits AA AA);rw[J]at h;rw[hkk];exact h
 have hGn:n+1≤grownCap w (n+1) c 55:=grownCap_ge w _ _ _;have M:=grownCap_le_maxLen w (n+1) c 55 aBd;obtain⟨G,hG⟩:∃G,G=grownCap w (n+1) c 55:=⟨_,rfl⟩
 obtain⟨ROW,m⟩:∃ROW:Array Value,ROW=(cs.take (i*29)).toArray++Builtin.zeroCells z0.cells (n+1-i)++Builtin.zeroCells z0.cells (G-(n+1)):=⟨_,rfl⟩
 rw[←hG]at u hGn M;rw[←m]at u
 have hRl:ROW.size=G*29:=by
  rw[m];simp[Builtin.zeroCells,hzc];omega
 have hRt:ROW.toList.take (i*29)=cs.take (i*29):=by
  rw[m];simp[H7];rw[xO L]
 obtain⟨W1,q⟩:∃W1,W1=w.drew.alloc (.cells ROW 55):=⟨_,rfl⟩
 rw[←q]at u
 have hN:∀j,j<(n+1)*29→(W1.cell? ⟨w.heap.size,j,none⟩).isSome=true:=fun j f=>by
  rw[q,World.cell?_alloc_at (w:=w.drew) ROW _ w.heap.size j rfl,lG AA];rfl
 have hNf:∀j,W1.frozen? ⟨w.heap.size,j,none⟩=false:=fun j=>by rw[q];exact World.frozen?_alloc_at (w:=w.drew) ROW _ w.heap.size j rfl
 have hOb:∀j v,w.cell? ⟨b,j,none⟩=some v→W1.cell? ⟨b,j,none⟩=some v:=fun j v h=>by rw[q,World.cell?_alloc_past (w:=w.drew) _ b j hbw];exact h
 have hOv:∀j v,w.cell? ⟨vb,j,none⟩=some v→W1.cell? ⟨vb,j,none⟩=some v:=fun j v h=>by rw[q,World.cell?_alloc_past (w:=w.drew) _ vb j hvw];exact h
 have hcpA:∀(W:World),(∀x,W.cell? x=W1.cell? x)→(∀x,W.frozen? x=W1.frozen? x)→∀ty Ai,(Builtin.copy_ #[22,22] ty #[.slice (some ⟨w.heap.size,i*29,none⟩) (n+1-i) Ai,.slice (some ⟨vb,0,none⟩) 1 vc]).run Tryz.prog W=.ok (goInt (1:Nat)) (W.setCells w.heap.size (i*29) vs):=fun W s O ty Ai=>
  aE0 W _ _ ty 55 w.heap.size (i*29) (n+1-i) Ai ⟨vb,0,none⟩ 1 vc 29 1 vs hE.und Z aDx (by rw[hvl])
   (fun j v f=>by rw[cG,s,J4];exact hOv _ v (hvs j v f))
   (fun j f=>by rw[s];exact hN _ AA) (fun j f=>by rw[O];exact hNf _) h1v
 have hG63:G≤9223372036854775807:=by unfold maxLen at M;omega
 have hGi:¬(G=i):=AA
 have hGim:¬(G=i+1):=AA
 have hci:¬(c=i):=AA
 have hbN:b≠w.heap.size:=AA
 have hdl:(cs.drop (i*29)).length=(n-i)*29:=by rw[L6,hcl,Nat.sub_mul]
 have I:∀(W:World),(∀x,W.cell? x=(W1.setCells w.heap.size (i*29) vs).cell? x)→(∀x,W.frozen? x=(W1.setCells w.heap.size (i*29) vs).frozen? x)→∀ty Ai sc,(Builtin.copy_ #[22,22] ty #[.slice (some ⟨w.heap.size,(i+1)*29,none⟩) (n-i) Ai,.slice (some ⟨b,i*29,none⟩) (n-i) sc]).run Tryz.prog W=.ok (goInt (n-i:Nat)) (W.setCells w.heap.size ((i+1)*29) (cs.drop (i*29))):=fun W s O ty Ai sc=>
  aE0 W _ _ ty 55 w.heap.size ((i+1)*29) (n-i) Ai ⟨b,i*29,none⟩ (n-i) sc 29 (n-i) (cs.drop (i*29)) hE.und Z aDx hdl
   (fun j v f=>by
    rw[cG,s,World.cell?_setCells_out _ _ _ _ _ (fun h _=>absurd h hbN)]
    exact hOb _ v (hcs (i*29+j) v (by rwa [Oh]at f)))
   (fun j f=>by rw[s];exact isSome_setCells _ vs (i*29) W1 (fun t ht=>hN _ AA) _ (hN _ (by rw[hdl]at f;omega)))
   (fun j f=>by rw[O,World.frozen?_setCells];exact hNf _) (fun v hv=>h1c v (aMU hv))
 subst q;have hE1:∀x,((w.alloc (.cells ROW 55)).drew).cell? x=(w.drew.alloc (.cells ROW 55)).cell? x:=fun x=>rfl;have hE2:∀x,((w.alloc (.cells ROW 55)).drew).frozen? x=(w.drew.alloc (.cells ROW 55)).frozen? x:=fun x=>rfl;have hF1:∀x,(((w.alloc (.cells ROW 55)).drew.setCells w.heap.size (i*29) vs).drew).cell? x=((w.drew.alloc (.cells ROW 55)).setCells w.heap.size (i*29) vs).cell? x:=fun x=>rfl;have hF2:∀x,(((w.alloc (.cells ROW 55)).drew.setCells w.heap.size (i*29) vs).drew).frozen? x=((w.drew.alloc (.cells ROW 55)).setCells w.heap.size (i*29) vs).frozen? x:=fun x=>rfl;have hw1:BA ((i:Int)+1)=(i:Int)+1:=QC
 have hw2:BA ((n:Int)+1)=(n:Int)+1:=QC
 have hw3:BA ((n:Int)+1-(i:Int))=(n:Int)+1-(i:Int):=QC
 have hb1:(0:Int)≤(i:Int)+1:=AA
 have hin:i≤n:=AA
 have htn:((i:Int)+1).toNat=i+1:=AA
 have hb3:(i:Int)≤(n:Int):=AA
 clear hkk J z m hG hil L
 go_enter Tryz.func98,Tryz.ntmps98
 go_wp2_with (first
  |(at_builtin;refine aLZ _ rfl _ _ _ _ rfl _ _ rfl rfl _ _ (u _) ?_)
  |(at_builtin;refine wpList_copy_runI _ rfl _ _ 22 22 rfl _ _ rfl rfl (hcpA _ hE1 hE2 _ _) ?_)
  |(at_builtin;refine wpList_copy_runI _ rfl _ _ 22 22 rfl _ _ rfl rfl (I _ (fun _=>rfl) (fun _=>rfl) _ _ _) ?_))
 go_region_law_o (refine step_copy_runI rfl _ _ 22 22 rfl (.slice (some ⟨w.heap.size,(i+1)*29,none⟩) (n-i) (G-(i+1))) (.slice (some ⟨b,i*29,none⟩) (n-i) (c-i)) aGT aGT (I _ hF1 hF2 3 (G-(i+1)) (c-i)) ?_)
 go_wp2
 go_ret
 exact⟨G,ROW,rfl,hGn,M,Yf hRl.symm,hRt,rfl⟩
def putAt (f:Array Value):Nat→List Value→Array Value
 |_,[]=>f
 |o,v::r=>putAt (f.setIfInBounds o v) (o+1) r
def Zd :∀(vs:List Value) (o:Nat) (f:Array Value),(putAt f o vs).size=f.size
 | [],_,_=>rfl
 |v::r,o,f=>by rw[putAt,Zd r];simp
def wK :∀(vs:List Value) (o:Nat) (f:Array Value),o+vs.length≤f.size→(putAt f o vs).toList=f.toList.take o++vs++f.toList.drop (o+vs.length)
 | [],o,f,_=>by simp[putAt]
 |v::r,o,f,h=>by
  simp only[Fp]at h;rw[putAt,wK r (o+1) _ Dy,aNF];refine jg fun j=>?_;simp only[H7,List.getElem?_append,Fa,iJ,Ry,qJ,List.getElem?_set,Oh,Fp,WT,aeC]
  grind
def oZ (b:Nat):∀(vs:List Value) (o:Nat) (w:World) (f:Array Value) (e:TypeId) (fr:Nat×Nat),w.heap[b]? =some (.cells f e fr)→(w.setCells b o vs).heap[b]? =some (.cells (putAt f o vs) e fr)
 | [],_,_,_,_,_,h=>h
 |v::r,o,w,f,e,fr,h=>by
  rw[World.setCells,putAt];refine oZ b r (o+1) _ _ e fr ?_;simp[World.setCell,OC,h]
set_option maxHeartbeats 4000000 in
set_option maxRecDepth 100000 in
def ahB {v:Value} {n vb vc:Nat} {xs news:List Value} {w:World} (hown:nD w 55 29 v n xs) (hsrc:VK w (.slice (some ⟨vb,0,none⟩) 1 vc) 1 29 news) (hb:(n+1)*376≤140737488355328):
 Calls Tryz.prog 98 #[v,.int .i64 n,.slice (some ⟨vb,0,none⟩) 1 vc] w fun e w'=>∃v',e=.returned v'∧nD w' 55 29 v' (n+1) (xs++news)∧w.grownBy w' v.ownBlock∧∀g,DX v'=some g→DX v=some g∨w.heap.size≤g:=by
 have hE:Fl Tryz.prog 22 55 29 376:=L9 A8;obtain⟨v',w',j,m,q,s⟩:=aHS (ty:=22) hE hown hsrc hb aBd;have mixed:Tryz.prog.follows .mixedOrders=true:=A8
 rcases hown.2 with⟨rfl,z⟩|⟨g,cap,I,rfl,_,M,J,f,L,h⟩
 ·subst z
  go_enter Tryz.func98,Tryz.ntmps98
  go_wp2_with (at_builtin;refine aLZ _ rfl _ _ _ _ rfl _ _ rfl rfl _ _ j ?_)
  go_ret
  exact⟨v',rfl,m,q,s⟩
 have u:cap≤9223372036854775807:=by unfold maxLen at f;omega
 go_enter Tryz.func98,Tryz.ntmps98
 go_wp2_with (at_builtin;refine aLZ _ rfl _ _ _ _ rfl _ _ rfl rfl _ _ j ?_)
 all_goals (go_ret;exact⟨v',rfl,m,q,s⟩)
def vN (b:Nat):∀(vs:List Value) (o:Nat) (w:World),(w.setCells b o vs).os=w.os∧(w.setCells b o vs).tape=w.tape∧(w.setCells b o vs).output=w.output∧(w.setCells b o vs).heap.size=w.heap.size∧∀i,i≠b→(w.setCells b o vs).heap[i]? =w.heap[i]?
 | [],_,_=>⟨rfl,rfl,rfl,rfl,fun _ _=>rfl⟩
 |v::r,o,w=>by
  obtain⟨f,h,j,m,n⟩:=vN b r (o+1) (w.setCell ⟨b,o,none⟩ v);rw[World.setCells];refine⟨f,h,j,by rw[m];simp[World.setCell],fun i hi=>?_⟩;rw[n i hi];simp[World.setCell,OC,Ne.symm hi]
def agn {f:Array Value} {xs vs:List Value} {a N k:Nat} (m:f.toList.take N=xs) (h:xs.length=N) (j:vs.length=k) (ha:a≤N) (s:N+k≤f.size):
 (putAt (putAt f (a+k) (xs.drop a)) a vs).toList.take (N+k)=xs.take a++vs++xs.drop a:=by
 have hd:(xs.drop a).length=N-a:=by rw[L6,h]
 rw[wK vs a _ (by rw[Zd];omega),wK (xs.drop a) (a+k) f AA,j,hd]
 have n:(f.toList.take (a+k)++xs.drop a++f.toList.drop (a+k+(N-a))).take a=xs.take a:=by
  rw[H7,List.take_append_of_le_length Dy,aHF,←m,aHF,wL AA,wL ha]
 have q:(f.toList.take (a+k)++xs.drop a++f.toList.drop (a+k+(N-a))).drop (a+k)=xs.drop a++f.toList.drop (a+k+(N-a)):=by
  rw[H7,List.drop_left' Dy]
 rw[n,q,←H7,xO (by simp[hd,j,h];omega)]
def alU {f:Array Value} {xs vs:List Value} {a N k:Nat} (m:f.toList.take a=xs.take a) (h:xs.length=N) (j:vs.length=k) (ha:a≤N) (q:N+k≤f.size):
 (putAt (putAt f a vs) (a+k) (xs.drop a)).toList.take (N+k)=xs.take a++vs++xs.drop a:=by
 have hd:(xs.drop a).length=N-a:=by rw[L6,h]
 rw[wK (xs.drop a) (a+k) _ (by rw[Zd];omega),wK vs a f AA,j,hd,m];have n:(xs.take a++vs++f.toList.drop (a+k)).take (a+k)=xs.take a++vs:=xO (by simp[j,h];omega);rw[n,xO (by simp[hd,j,h];omega)]
def mQ {w:World} {g n:Nat} {f:Array Value} {xs:List Value} {T:TypeId} {fr:Nat×Nat} (m:w.heap[g]? =some (.cells f T fr)) (q:f.toList.take n=xs) (j:Nat) (v:Value) (h:xs[j]? =some v):w.cell? ⟨g,j,none⟩=some v:=by
 unfold World.cell?;simp only[m];rw[←q,qJ]at h;split at h
 ·simpa using h
 cases h
def apV {w:World} {g:Nat} {f:Array Value} {T:TypeId} {fr:Nat×Nat} (m:w.heap[g]? =some (.cells f T fr)) (j:Nat) (h:j<f.size):(w.cell? ⟨g,j,none⟩).isSome=true:=by
 unfold World.cell?;simp[m,h]
def aJY {w:World} {g:Nat} {f:Array Value} {T:TypeId} (h:w.heap[g]? =some (.cells f T (0,0))) (j:Nat):w.frozen? ⟨g,j,none⟩=false:=by
 unfold World.frozen?;simp[h]
def ajl {v:Value} {n Y vc i:Nat} {xs f:List Value} {w:World} (hi:i≤n) (q:nD w 55 29 v n xs) (h1:∀u∈xs,u.oneCell'=true) (hx:nD w 55 29 (.slice (some ⟨Y,0,none⟩) 1 vc) 1 f) (M:∀u∈f,u.oneCell'=true) (hne:DX v≠some Y) (hb:(n+1)*376≤140737488355328):
 Calls Tryz.prog 98 #[v,.int .i64 i,.slice (some ⟨Y,0,none⟩) 1 vc] w fun e w'=>∃v',e=.returned v'∧nD w' 55 29 v' (n+1) (xs.take (i*29)++f++xs.drop (i*29))∧Turns v w w'∧∀g,DX v'=some g→DX v=some g∨w.heap.size≤g:=by
 have s:=q.1;have z:f.length=29:=by have :=hx.1;omega
 rcases hx.2 with⟨e0,_⟩|⟨vb',aFy,aEL,e0,_,I,hvn,_,hvs,O⟩
 ·cases e0
 injection e0 with e1 _ e3
 injection e1 with e1
 injection e1 with e1
 subst e1 e3;rcases Za i n with S|S
 ·rcases q.2 with⟨_,h0⟩|⟨g,cap,L,rfl,_,Z,hnc,hcm,hcs,m⟩
  ·omega
  have hgv:Y≠g:=fun e=>hne mJ;have hil:i*29≤n*29:=Ja _ hi;rcases Za n cap with h|h
  ·have hfit:(n+1)*29≤L.size:=Ej (Ja _ h) hcs;refine(aoz g n cap i Y vc xs f w S h (by unfold maxLen at hcm;omega) hgv s z (mQ Z m) (fun j hj=>apV Z j AA) (fun j _=>aJY Z j) (mQ I O) h1 M 55 55 aEL.size L.size (by simp[World.shape?,I]) (by simp[World.shape?,Z]) AA (aJY I 0) (aJY I _)).mono ?_;rintro e w' ⟨rfl,rfl⟩;have hh:=oZ g f (i*29) _ _ _ _ (oZ g (xs.drop (i*29)) ((i+1)*29) w.drew L 55 (0,0) Z);obtain⟨a1,a2,a3,a4,a5⟩:=vN g (xs.drop (i*29)) ((i+1)*29) w.drew;obtain⟨b1,b2,b3,b4,b5⟩:=vN g f (i*29) (w.drew.setCells g ((i+1)*29) (xs.drop (i*29)));refine⟨_,rfl,⟨?_,.inr ⟨g,cap,_,rfl,EY _,hh,h,hcm,by rw[Zd,Zd];exact hcs,?_⟩⟩,⟨b1.trans a1,b2.trans a2,b3.trans a3,by rw[b4,a4];exact E9 _,fun c hc hcb=>?_⟩,fun g' U=>.inl U⟩
   ·simp[z,s];omega
   ·have :=agn (a:=i*29) (k:=29) m s z hil AA;rw[show(i+1)*29=i*29+29 by omega,show(n+1)*29=n*29+29 by omega];exact this
   have J:c≠g:=fun e=>hcb mJ;rw[b5 c J,a5 c J];rfl
  refine(aiM g n cap i Y vc xs f w S hnc AA hb s z (mQ Z m) (mQ I O) h1 M).mono ?_;rintro e w' ⟨G,ROW,rfl,hGn,hGm,hGs,hRt,rfl⟩
  have hal:((w.alloc (.cells ROW 55)).drew).heap[w.heap.size]? =some (.cells ROW 55 (0,0)):=by
   show(w.heap.push (.cells ROW 55 (0,0)))[w.heap.size]? =_;simp
  have hh:=oZ w.heap.size (xs.drop (i*29)) ((i+1)*29) _ _ _ _ (show(((w.alloc (.cells ROW 55)).drew.setCells w.heap.size (i*29) f).drew).heap[w.heap.size]? =_ from oZ w.heap.size f (i*29) _ ROW 55 (0,0) hal);obtain⟨a1,a2,a3,a4,a5⟩:=vN w.heap.size f (i*29) (w.alloc (.cells ROW 55)).drew;obtain⟨b1,b2,b3,b4,b5⟩:=vN w.heap.size (xs.drop (i*29)) ((i+1)*29) ((w.alloc (.cells ROW 55)).drew.setCells w.heap.size (i*29) f).drew;refine⟨_,rfl,⟨?_,.inr ⟨w.heap.size,G,_,rfl,EY _,hh,hGn,hGm,by rw[Zd,Zd];exact hGs,?_⟩⟩,⟨b1.trans a1,b2.trans a2,b3.trans a3,?_,fun c hc hcb=>?_⟩,fun g' U=>.inr (by simp[DX]at U;omega)⟩
  ·simp[z,s];omega
  ·have :=alU (a:=i*29) (k:=29) hRt s z hil (by have :=Ja 29 hGn;omega);rw[show(i+1)*29=i*29+29 by omega,show(n+1)*29=n*29+29 by omega];exact this
  ·rw[b4];show w.heap.size≤((w.alloc (.cells ROW 55)).drew.setCells w.heap.size (i*29) f).heap.size;rw[a4];show w.heap.size≤(w.heap.push (.cells ROW 55 (0,0))).size;simp
  have J:c≠w.heap.size:=AA
  rw[b5 c J];show((w.alloc (.cells ROW 55)).drew.setCells w.heap.size (i*29) f).heap[c]? =_;rw[a5 c J];show(w.heap.push (.cells ROW 55 (0,0)))[c]? =_;simp[aIZ,J]
 have hni:i=n:=AA
 subst hni;refine(ahB q ⟨AA,M,.inl ⟨_,_,rfl,fun j u hj=>by rw[cG,J4];exact mQ I O j u hj⟩⟩ hb).mono ?_;rintro e w' ⟨v',rfl,h2,h3,h4⟩;refine⟨v',rfl,?_,⟨h3.os,h3.tape,h3.output,h3.size,fun k hk hne'=>h3.block k hk ?_⟩,h4⟩
 ·rw[PW AA,yg AA,Pm];exact h2
 rcases q.2 with⟨rfl,_⟩|⟨g,cap,L,rfl,_⟩
 ·simp[Value.ownBlock]
 intro e;exact hne' e.symm
def ak7 {f:Array Value} (h:f.size=3):f= #[f.getD 0 undef,f.getD 1 undef,f.getD 2 undef]:=by
 refine ZV jL fun i m j=>?_;simp at j;have :i=0∨i=1∨i=2:=AA
 rcases this with rfl|rfl|rfl<;>simp[Array.getD,h]
def apB {ok:Nat→Prop} {w:World} {H:List Bo} {xs:List Ag} {vs:List Value} (h:FZ ok w H xs vs) (n:Nat):FZ ok w H (xs.take n) (vs.take n):=by
 refine⟨by rw[Fa,Fa,h.1],fun i hi=>?_⟩;rw[Fa]at hi;have :=h.2 i AA;rw[wU,wU]at this ⊢;rw[NI AA,NI AA];exact this
def apE {ok:Nat→Prop} {w:World} {H:List Bo} {xs:List Ag} {vs:List Value} (h:FZ ok w H xs vs) (n:Nat):FZ ok w H (xs.drop n) (vs.drop n):=by
 refine⟨by rw[L6,L6,h.1],fun i hi=>?_⟩;rw[L6]at hi;have :=h.2 (n+i) AA;rw[wU,wU]at this ⊢;rw[Oh,Oh];exact this
def aa8 {ok:Nat→Prop} {w:World} {H:List Bo} {xs:List Ag} {vs:List Value} (h:FZ ok w H xs vs):∀u∈vs,u.oneCell'=true:=fun u j=>by
 obtain⟨i,hi,rfl⟩:=Ii j;have f:=h.2 i (by rw[←h.1];exact hi);have :=f.2.leaf f.1
 rwa [wU,Dn hi]at this
def abU {size:Nat}:∀{es:List D} (i:Nat),(∀x∈es,x.cells.length=size)→flat (es.take i)=(flat es).take (i*size)
 | [],i,_=>SE
 |x::l,0,_=>SE
 |x::l,i+1,h=>by
  have f:(x.cells.map Ag.d).length=size:=by rw[D6];exact h x (GR ..)
  rw[List.take_succ_cons,V4,V4,abU i fun y j=>h y (Hr _ j),Xl,aFI,Ph,←f,List.take_length_add_append]
def aOv {size:Nat}:∀{es:List D} (i:Nat),(∀x∈es,x.cells.length=size)→flat (es.drop i)=(flat es).drop (i*size)
 | [],i,_=>SE
 |x::l,0,_=>SE
 |x::l,i+1,h=>by
  have f:(x.cells.map Ag.d).length=size:=by rw[D6];exact h x (GR ..)
  rw[List.drop_succ_cons,V4,aOv i fun y j=>h y (Hr _ j),Xl,aFI,Ph,←f,List.drop_length_add_append]
def D5.kill {C:EI} {ok:Nat→Prop} {H:List Bo} {es:List BQ} {w:World} (n:D5 C ok H es w) (k:Nat):D5 C ok H (es.set k .dead) w:=
 (n.change (ok':=ok) (H':=H) (w':=w) (es':=es.set k .dead) (fun _=>False) rfl rfl rfl (E9 _) (fun _ _ _=>rfl) (fun _ h=>h.elim) (fun _ h=>h) (fun _ h=>.inl h) (.refl _) (by simpa using n.hlen) (by
  intro j e' h' f m;by_cases q:k=j
  ·subst q;rw[List.getElem?_set]at f;simp only[JQ]at f;split at f
   ·cases f;exact .inr ⟨trivial,fun h=>I4⟩
   cases f
  rw[WY q]at f
  exact .inl ⟨f,m,fun _ _ _ h=>h⟩)).1
def aIG {α:Type} (l:List α) (i:Int) (m:List α):Option (List α):=match m with
 | [x]=>if(0≤i∧i≤(l.length:Int))∧l.length≤34359738368 then some (l.take i.toNat++x::l.drop i.toNat)else none
 |_=>none
def at1 {α:Type} {e:α→D} (hk:∀x,(e x).cells.length=29) (l:List α) (q:Int) (m r:List α) (h:aIG l q m=some r):
 BD 98 [.aO 0,.d (AZ q),.aO 1] [.arr 55 29 (l.map e),.arr 55 29 (m.map e)] (.aO 2) [.dead,.dead,.arr 55 29 (r.map e)]:=by
 unfold aIG at h;split at h
 case h_2=>cases h
 rename_i x;split at h
 case isFalse=>cases h
 rename_i hc;obtain⟨⟨hq0,hql⟩,hb⟩:=hc;obtain rfl:=Cm h;obtain⟨i,rfl⟩:∃i:Nat,q=i:=⟨q.toNat,AA⟩
 have hi:i≤l.length:=AA
 rw[Zo];intro ok X H w I s hs ha;have h0:=ha 0 BU;have hq:=ha 1 BU;have h2:=ha 2 BU;rw[ak7 hs];obtain⟨hd,hh,hok⟩:=G7 s.ent s.hlen (k:=0) rfl;obtain⟨J,L,M⟩:=G7 s.ent s.hlen (k:=1) rfl;obtain hv:=P9 h0 hh;obtain hv1:=P9 h2 L
 have hq':I.getD 1 undef=.int .i64 i:=by
  simp only[List.getD,aGZ,aMI,MC]at hq;cases hq with |d _ _ hq=>exact Du.ahj hq
 rw[hv,hv1,hq'];obtain⟨hz,O,xs,S,u⟩:=hok;obtain⟨hz1,aFz,news,j,n⟩:=M;rw[D6]at S
 obtain⟨g1,c1,U⟩:∃g1 c1,J.v=.slice (some ⟨g1,0,none⟩) 1 c1:=by
  rcases j.2 with⟨_,h⟩|⟨g,cap,cur,h,_⟩
  ·cases h
  exact⟨g,cap,h⟩
 have hne:DX hd.v≠some g1:=fun hb=>by
  have :=s.EJ 0 1 _ _ hd J g1 rfl rfl rfl rfl hh L hb (by rw[U];rfl);cases this
 rw[U]at j ⊢;refine(ajl hi S (aa8 u) j (aa8 n) hne AA).mono ?_;rintro y w' ⟨v',rfl,f,Y,Z⟩;have hlen:l.length+1=((l.take i++x::l.drop i).map e).length:=Dy
 rw[hlen]at f
 have hfl:flat ((l.take i++x::l.drop i).map e)=(flat (l.map e)).take (i*29)++flat ([x].map e)++(flat (l.map e)).drop (i*29):=by
  rw[←abU i O,←aOv i O,←lF,←lF,Jo,Ko,YI,Yt,H7];rfl
 have hg:=s.turn (e:=.arr 55 29 ((l.take i++x::l.drop i).map e)) (h':=⟨v',29⟩) (w':=w') (k:=0) rfl rfl hh Y.os Y.tape Y.output Y.size Y.block (fun g hg=>⟨rP f hg,Z g hg⟩) (fun hgr=>⟨rfl,fun y hy=>by
  obtain⟨z,_,rfl⟩:=Fh.1 hy
  exact hk z,_,f,by rw[hfl];exact(aDm (aDm (apB u _) n) (apE u _)).mono hgr (.push _ _)⟩)
 refine⟨v',ok,H++[⟨v',29⟩],rfl,hg.1.kill 1,?_⟩;have hl:H.length=2:=s.hlen;have hr:(H++[(⟨v',29⟩:Bo)])[2]? =some ⟨v',29⟩:=by rw[←hl];simp
 rcases f.2 with⟨rfl,_⟩|⟨g,cap,cur,rfl,_⟩
 ·exact .aO 2 _ _ _ 29 hr
 exact .aO 2 _ _ _ 29 hr
end Go.Proofs.YtolgdkhlelfpoaaGreat
end
section
namespace Go.Proofs.YtolgdkhlelfpoaaGreat
open Go.RowKit
section
variable {P : Program} {o : Oper} {es : List BQ}
def Jp {f:FuncId} {ops:Array Operand} {ats:Array TypeId} (eH:List Ag) {fU:List Ag} {h res':Ag} {E':List BQ} (j:Ap P f fU [] h E') (m:o.op=.call { callee:=.value (.func f),args:=ops,argTypes:=ats }) (n:Dt P f=true:=by kernel_rfl) (q:E'.all BQ.closed=true:=by kernel_rfl)
 (ha:Lh [] eH fU:=by repeat (first|exact trivial|refine⟨.inl rfl,?_⟩|refine⟨.inr (.inr ⟨rfl,rfl⟩),?_⟩)) (s:ops.toList.length=eH.length:=by kernel_rfl) (u:h.up [] es.length=res':=by kernel_rfl):Bq P o (F5 ops.toList eH) es res' (es++E'):=aRw j n q ha s u m
def aak {f:FuncId} {ops:Array Operand} {ats:Array TypeId} (eH:List Ag) {fU:List Ag} {h res':Ag} (j:Ap P f fU [] h []) (m:o.op=.call { callee:=.value (.func f),args:=ops,argTypes:=ats }) (n:Dt P f=true:=by kernel_rfl)
 (ha:Lh [] eH fU:=by repeat (first|exact trivial|refine⟨.inl rfl,?_⟩|refine⟨.inr (.inr ⟨rfl,rfl⟩),?_⟩)) (q:ops.toList.length=eH.length:=by kernel_rfl) (s:h.up [] es.length=res':=by kernel_rfl):Bq P o (F5 ops.toList eH) es res' es:=aS1 j n ha q s m
def Dh {f:FuncId} {ops:Array Operand} {ats:Array TypeId} (srcs:List Dv) (eH:List Ag) {fU:List Ag} {E E':List BQ} {h res':Ag} (j:Ap P f fU E h E') (m:o.op=.call { callee:=.value (.func f),args:=ops,argTypes:=ats }) (n:Dt P f=true:=by kernel_rfl) (q:Qo srcs es E E'=true:=by kernel_rfl)
 (hE:Pv srcs es srcs E:=by first|exact trivial|exact LH A8 trivial) (ha:Lh srcs eH fU:=by repeat (first|exact trivial|refine⟨.inl rfl,?_⟩|refine⟨⟨0,rfl,rfl⟩,?_⟩|refine⟨⟨1,rfl,rfl⟩,?_⟩|refine⟨⟨2,rfl,rfl⟩,?_⟩|refine⟨.inr (.inr ⟨rfl,rfl⟩),?_⟩)) (s:ops.toList.length=eH.length:=by kernel_rfl)
 (u:res'=h.up srcs es.length:=by kernel_rfl):Bq P o (F5 ops.toList eH) es res' (LW srcs es E'):=aeD srcs j n q hE ha s u m
def aH {f:FuncId} {x:Operand} {ops:Array Operand} {ats:Array TypeId} (srcs:List Dv) (fi ca eH:List Ag) {fU:List Ag} {E E':List BQ} {h res':Ag} (j:Ap P f fU E h E') (m:o.op=.call { callee:=.value x,args:=ops,argTypes:=ats }) (n:Dt P f=true:=by kernel_rfl) (q:Qo srcs es E E'=true:=by kernel_rfl)
 (hE:Pv srcs es srcs E:=by first|exact trivial|exact LH A8 trivial) (ha:Lh srcs (fi++eH++ca) fU:=by repeat (first|exact trivial|refine⟨.inl rfl,?_⟩|refine⟨⟨0,rfl,rfl⟩,?_⟩|refine⟨⟨1,rfl,rfl⟩,?_⟩|refine⟨⟨2,rfl,rfl⟩,?_⟩|refine⟨.inr (.inr ⟨rfl,rfl⟩),?_⟩)) (s:ops.toList.length=eH.length:=by kernel_rfl)
 (u:res'=h.up srcs es.length:=by kernel_rfl):Bq P o ((x,.fn (.func f) fi ca)::F5 ops.toList eH) es res' (LW srcs es E'):=af8 srcs fi ca j n q hE ha s u m
def aPg {f:FuncId} {x:Operand} {ops:Array Operand} {ats:Array TypeId} (srcs:List Dv) (fi ca:List D) (eH:List Ag) {fU:List Ag} {E E':List BQ} {h res':Ag} (j:Ap P f fU E h E') (m:o.op=.call { callee:=.value x,args:=ops,argTypes:=ats }) (n:Dt P f=true:=by kernel_rfl) (q:Qo srcs es E E'=true:=by kernel_rfl)
 (hE:Pv srcs es srcs E:=by first|exact trivial|exact LH A8 trivial) (ha:Lh srcs (fi.map .d++eH++ca.map .d) fU:=by repeat (first|exact trivial|refine⟨.inl rfl,?_⟩|refine⟨⟨0,rfl,rfl⟩,?_⟩|refine⟨⟨1,rfl,rfl⟩,?_⟩|refine⟨⟨2,rfl,rfl⟩,?_⟩|refine⟨.inr (.inr ⟨rfl,rfl⟩),?_⟩)) (s:ops.toList.length=eH.length:=by kernel_rfl)
 (u:res'=h.up srcs es.length:=by kernel_rfl):Bq P o ((x,.d (.fn (.func f) fi ca))::F5 ops.toList eH) es res' (LW srcs es E'):=alg srcs fi ca j n q hE ha s u m
end
section
variable {P : Program} {ops : Array Oper} {o : Oper} {rest l : List Oper} {σ : BL} {K : Exit → BL → Prop}
def DR.ca {f:FuncId} {eH:List Ag} {h:Ag} (j:Ap P f eH [] h []) (k:DR P ops rest (σ.rG o.dst (h.up [] σ.ents.length)) K) (m:Dt P f=true:=by kernel_rfl) (n:UY σ o=some (f,eH):=by kernel_rfl)
 (hd:eH.all Ag.Ah=true:=by kernel_rfl) (q:KJ ops σ o.guard=some true:=by kernel_rfl):DR P ops (o::rest) σ K:=.call j m k n hd q
def FC.ca {σ':BL} {f:FuncId} {eH:List Ag} {h:Ag} {rs:List Ag} {ess:List (List BQ)} {bs:List Bool} (j:Ap P f eH [] h []) (k:FC P ops rest (σ.rG o.dst (h.up [] σ.ents.length)) rs ess bs σ') (m:Dt P f=true:=by kernel_rfl) (n:UY σ o=some (f,eH):=by kernel_rfl)
 (hd:eH.all Ag.Ah=true:=by kernel_rfl) (q:KJ ops σ o.guard=some true:=by kernel_rfl):FC P ops (o::rest) σ (h.up [] σ.ents.length::rs) (σ.ents::ess) (false::bs) σ':=.call j m k n hd q
end
section
variable {P : Program} {ops : Array Oper} {o : Oper} {rest l : List Oper} {σ : BL} {K : Exit → BL → Prop}
def DR.aW [T:Kn P] {M:BL→Prop} (k:M (Qb (H8 T ops l.length l σ))) (h:(H8 T ops l.length l σ).isSome=true:=by kernel_rfl):DR P ops l σ (Kq M K):=.aM l.length k rfl h
def DR.bi [T:Kn P] {A:Type} {b:Bool} {u v z:A} (h:(bif b then u else v)=z) (j:u=z→DR P ops rest (σ.rG o.dst (.d (.lit (.bool true)))) K:=by exact fun h=>.aW<|CU) (k2:v=z→DR P ops rest (σ.rG o.dst (.d (.lit (.bool false)))) K:=by exact fun h=>.aW<|CU)
 (f:(Uu T ops σ o).map (fun r=>(r.x,r.E,r.bar))=some (.d (.lit (.bool b)),σ.ents,false):=by kernel_rfl):DR P ops (o::rest) σ K:=Eb h (fun e h=>.c (BX some e) (j h) f) fun e h=>.c (BX some e) (k2 h) f
def DC {A:Type} {b:Bool} {u v z:A} {G:Prop} (h:(bif b then u else v)=z) (f:b=true→u=z→G:=by exact fun e i=>acL) (k2:b=false→v=z→G:=by exact fun e i=>acL):G:=Eb h f k2
def AV [T:Kn P] {id:Nat} {y:Code} {Q:Exit→BL→Prop} (k:AB P y (Qb (H8 T ops ops.toList.length ops.toList σ)) Q) (h:(H8 T ops ops.toList.length ops.toList σ).isSome=true:=by kernel_rfl):AB P (.seq (.region id ops false) y) σ Q:=AL (.aW k h)
end
section
variable {P : Program} {ops : Array Oper} {l : List Oper} {σ : BL} {K : Exit → BL → Prop}
def DR.mg (a c:Nat) (x:Ag) (f:DR P ops (l.take (c+1)) σ (Kq (fun s=>s.wipe (List.range' a c)=(σ.wipe (List.range' a c)).rG (some (a+c)) x) K)) (h:DR P ops (l.drop (c+1)) ((σ.wipe (List.range' a c)).rG (some (a+c)) x) K):DR P ops l σ K:=.merge (c+1) (List.range' a c) (a+c) x f h
end
def Aa {σ S:BL} (n w:Nat) (π:List (Nat×Bool)) (f:UD σ.base σ.ents π=true:=by kernel_rfl) (h:S=⟨Kw π (mk n w) σ.slots,RI σ.ents π,σ.base⟩:=by kernel_rfl):Bz σ S:=alu (mk n w) π f h
def Nl {α β:Type} {y:α} {g:α→Option (Except Value β)} {r:Except Value β} (h:L8 (.ok y) g=some r):g y=some r:=h
def Nv {α β:Type} {u:Value} {g:α→Option (Except Value β)} {r:Except Value β} (h:L8 (.error u) g=some r):some (.error u)=some r:=h
def Bf :ByteArray:=⟨#[]⟩
def lH (k:IntKind) (n:Int):D:=.lit (.int k n)
def aLI :ByteArray:=⟨#[33,114,58,97]⟩
def tK :ByteArray:=⟨#[64,117,58,97]⟩
def aDU :ByteArray:=⟨#[97]⟩
def ah6 :ByteArray:=⟨#[104,105]⟩
def ar9 :ByteArray:=⟨#[64,119,58,98]⟩
def aS3 :ByteArray:=⟨#[98]⟩
def gZ :ByteArray:=⟨#[58]⟩
def rY :ByteArray:=⟨#[33]⟩
def uo :ByteArray:=⟨#[64]⟩
def xP :ByteArray:=⟨#[64,33]⟩
def Gm :ByteArray:=⟨#[84,101,120,116]⟩
def Hq :ByteArray:=⟨#[78]⟩
def Jy :ByteArray:=⟨#[86,105,97]⟩
def Jt :ByteArray:=⟨#[76,101,118,101,108,115]⟩
def JE :ByteArray:=⟨#[65,108,108,111,119]⟩
def Jz :ByteArray:=⟨#[68,101,110,121]⟩
def Hy :ByteArray:=⟨#[84,97,114,103,101,116]⟩
def KA :ByteArray:=⟨#[84,104,114,101,97,100]⟩
structure Gl where
 User:ByteArray
 N:Int
def EN (x:Gl):D:=.agg [Ci x.User,AZ x.N]
def aeu :Gl:=⟨Bf,0⟩
instance : Inhabited Gl:=⟨aeu⟩
structure Ij where
 Kind:Int
 N:Int
def EK (x:Ij):D:=.agg [AZ x.Kind,AZ x.N]
def an8 :Ij:=⟨0,0⟩
instance : Inhabited Ij:=⟨an8⟩
structure CO where
 Users:(List Gl)
 Kinds:(List Ij)
 User:Int
 Message:Int
 State:Int
 gB:Int
 jI:Int
 lV:Int
 gQ:Int
def Dz (x:CO):D:=.agg [(Au EN) x.Users,(Au EK) x.Kinds,AZ x.User,AZ x.Message,AZ x.State,AZ x.gB,AZ x.jI,AZ x.lV,AZ x.gQ]
def Iy :CO:=⟨[],[],0,0,0,0,0,0,0⟩
instance : Inhabited CO:=⟨Iy⟩
structure CW where
 Text:ByteArray
 N:Int
 Target:Int
 Thread:Bool
 Via:ByteArray
 Allow:(List ByteArray)
 iE:(List ByteArray)
 Levels:CO
def Ec (x:CW):D:=.agg [Ci x.Text,AZ x.N,AZ x.Target,DT x.Thread,Ci x.Via,(Au Ci) x.Allow,(Au Ci) x.iE,(Au EN) x.Levels.Users,(Au EK) x.Levels.Kinds,AZ x.Levels.User,AZ x.Levels.Message,AZ x.Levels.State,AZ x.Levels.gB,AZ x.Levels.jI,AZ x.Levels.lV,AZ x.Levels.gQ]
def EF :CW:=⟨Bf,0,0,false,Bf,[],[],Iy⟩
instance : Inhabited CW:=⟨EF⟩
structure Nk where
 Server:ByteArray
 Sum:Int
def aRU (x:Nk):D:=.agg [Ci x.Server,AZ x.Sum]
def ZF :Nk:=⟨Bf,0⟩
instance : Inhabited Nk:=⟨ZF⟩
structure AY where
 Id:Int
 Room:ByteArray
 bG:ByteArray
 Kind:Int
 State:Bool
 Key:ByteArray
 Time:Int
 Depth:Int
 bK:(List Int)
 bM:(List Int)
 Content:CW
 Hash:Int
 qR:Nk
def Ak (x:AY):D:=.agg [AZ x.Id,Ci x.Room,Ci x.bG,AZ x.Kind,DT x.State,Ci x.Key,AZ x.Time,AZ x.Depth,(Au AZ) x.bK,(Au AZ) x.bM,Ci x.Content.Text,AZ x.Content.N,AZ x.Content.Target,DT x.Content.Thread,Ci x.Content.Via,(Au Ci) x.Content.Allow,(Au Ci) x.Content.iE,(Au EN) x.Content.Levels.Users,(Au EK) x.Content.Levels.Kinds,AZ x.Content.Levels.User,AZ x.Content.Levels.Message,AZ x.Content.Levels.State,AZ x.Content.Levels.gB,AZ x.Content.Levels.jI,AZ x.Content.Levels.lV,AZ x.Content.Levels.gQ,AZ x.Hash,Ci x.qR.Server,AZ x.qR.Sum]
def Et :AY:=⟨0,Bf,Bf,0,false,Bf,0,0,[],[],EF,0,ZF⟩
instance : Inhabited AY:=⟨Et⟩
structure Ew where
 b_:(List Int)
def GK (x:Ew):D:=.agg [(Au D8) x.b_]
def aGN :Ew:=⟨[]⟩
instance : Inhabited Ew:=⟨aGN⟩
structure NW where
 azE:Int
 arJ:Nat
def Tc (x:NW):D:=.agg [AZ x.azE,ade x.arJ]
def aiz :NW:=⟨0,0⟩
instance : Inhabited NW:=⟨aiz⟩
structure Qz where
 oV:Int
 mX:Int
def Ht (x:Qz):D:=.agg [AZ x.oV,AZ x.mX]
def aG0 :Qz:=⟨0,0⟩
instance : Inhabited Qz:=⟨aG0⟩
structure BI where
 Kind:Int
 Key:ByteArray
 Id:Int
def Ar (x:BI):D:=.agg [AZ x.Kind,Ci x.Key,AZ x.Id]
def aog :BI:=⟨0,Bf,0⟩
instance : Inhabited BI:=⟨aog⟩
structure bW where
 amw:Int
def aqi :bW:=⟨0⟩
instance : Inhabited bW:=⟨aqi⟩
structure Vb where
def YL (x:Vb):D:=.agg []
def agQ :Vb:=⟨⟩
instance : Inhabited Vb:=⟨agQ⟩
structure Na where
 DK:(List BI)
 adM:(List Int)
 arL:(List Int)
def Rq (x:Na):D:=.agg [(Au Ar) x.DK,(Au AZ) x.adM,(Au AZ) x.arL]
def Vx :Na:=⟨[],[],[]⟩
instance : Inhabited Na:=⟨Vx⟩
structure Q8 where
 mX:Int
 IJ:Int
 AQ:Int
 arM:(List Int)
def LM (x:Q8):D:=.agg [AZ x.mX,AZ x.IJ,AZ x.AQ,(Au AZ) x.arM]
def aiR :Q8:=⟨0,0,0,[]⟩
instance : Inhabited Q8:=⟨aiR⟩
structure Sl where
 aa5:Int
 aa6:ByteArray
def Jr (x:Sl):D:=.agg [AZ x.aa5,Ci x.aa6]
def aj1 :Sl:=⟨0,Bf⟩
instance : Inhabited Sl:=⟨aj1⟩
structure VD where
 aqO:(List Int)
def Zb (x:VD):D:=.agg [(Au AZ) x.aqO]
def afN :VD:=⟨[]⟩
instance : Inhabited VD:=⟨afN⟩
structure KO where
 mX:Int
 yP:Int
 AQ:Int
def N8 (x:KO):D:=.agg [AZ x.mX,AZ x.yP,AZ x.AQ]
def ag0 :KO:=⟨0,0,0⟩
instance : Inhabited KO:=⟨ag0⟩
structure GZ where
 Id:Int
 Before:(List BI)
 After:(List BI)
 Err:Int
def IG (x:GZ):D:=.agg [AZ x.Id,(Au Ar) x.Before,(Au Ar) x.After,AZ x.Err]
def UL :GZ:=⟨0,[],[],0⟩
instance : Inhabited GZ:=⟨UL⟩
structure NR where
 Same:(List BI)
 Power:(List Int)
 First:(List BI)
 Others:(List Int)
 Last:(List BI)
def WE (x:NR):D:=.agg [(Au Ar) x.Same,(Au AZ) x.Power,(Au Ar) x.First,(Au AZ) x.Others,(Au Ar) x.Last]
def SY :NR:=⟨[],[],[],[],[]⟩
instance : Inhabited NR:=⟨SY⟩
structure aIJ where
 Pos:Int
 Id:Int
 Status:Int
 Gone:Bool
def akg :aIJ:=⟨0,0,0,false⟩
instance : Inhabited aIJ:=⟨akg⟩
structure aMN where
 User:ByteArray
 Thread:Int
 Id:Int
 Time:Int
def afi :aMN:=⟨Bf,0,0,0⟩
instance : Inhabited aMN:=⟨afi⟩
structure aJg where
 User:ByteArray
 Until:Int
def apF :aJg:=⟨Bf,0⟩
instance : Inhabited aJg:=⟨apF⟩
structure aR7 where
 Id:ByteArray
 Events:(List AY)
 Rows:(List aIJ)
 Waiting:(List AY)
 aFr:(List Int)
 State:(List BI)
 Next:Int
 aEN:(List aMN)
 aFp:(List aJg)
def afc :aR7:=⟨Bf,[],[],[],[],[],0,[],[]⟩
instance : Inhabited aR7:=⟨afc⟩
def C9 :Tryz.prog.underlying 22=some (.slice 55):=A8
def Vu :Tryz.prog.underlying 216=some (.slice 5):=A8
def Ig :Fl Tryz.prog 216 5 1 1:=L9 A8
def QT :(Tryz.prog.info? 5).bind (·.zero)=some (.int .u8 0):=A8
def Xj :Tryz.prog.underlying 3=some (.int .i64):=A8
def an7 :Tryz.prog.underlying 228=some (.int .u64):=A8
def aCl :Tryz.prog.underlying 5=some (.int .u8):=A8
def Fz :Tryz.prog.underlying 9=some (.string):=A8
def FW :Tryz.prog.underlying 45=some (.slice 9):=A8
def JR :EC Tryz.prog 9 false 1:=FD A8
def af0 :DY Tryz.prog 51 0 0:=Dq A8
def aql :DY Tryz.prog 51 1 1:=Dq A8
def CG :EC Tryz.prog 3 false 1:=FD A8
def aju :DY Tryz.prog 51 2 2:=Dq A8
def apO :DY Tryz.prog 51 3 3:=Dq A8
def ae6 :EC Tryz.prog 4 false 1:=FD A8
def agF :DY Tryz.prog 51 4 4:=Dq A8
def as7 :DY Tryz.prog 51 5 5:=Dq A8
def asR :EC Tryz.prog 45 false 1:=FD A8
def akJ :DY Tryz.prog 51 6 6:=Dq A8
def aek :DY Tryz.prog 51 7 7:=Dq A8
def XM :EC Tryz.prog 49 true 9:=FD A8
def abo :(Tryz.prog.info? 49).bind (·.zero)=some (.agg #[.slice none 0 0,.slice none 0 0,.int .i64 0,.int .i64 0,.int .i64 0,.int .i64 0,.int .i64 0,.int .i64 0,.int .i64 0]):=A8
def apW :DY Tryz.prog 49 0 0:=Dq A8
def aSl :EC Tryz.prog 46 false 1:=FD A8
def FM :Tryz.prog.underlying 46=some (.slice 173):=A8
def JJ :EC Tryz.prog 173 true 2:=FD A8
def uU :(Tryz.prog.info? 173).bind (·.zero)=some (.agg #[.string Bf,.int .i64 0]):=A8
def amJ :DY Tryz.prog 173 0 0:=Dq A8
def aiQ :DY Tryz.prog 173 1 1:=Dq A8
def asE :DY Tryz.prog 49 1 1:=Dq A8
def aSS :EC Tryz.prog 47 false 1:=FD A8
def F8 :Tryz.prog.underlying 47=some (.slice 208):=A8
def JF :EC Tryz.prog 208 true 2:=FD A8
def aTQ :(Tryz.prog.info? 208).bind (·.zero)=some (.agg #[.int .i64 0,.int .i64 0]):=A8
def amP :DY Tryz.prog 208 0 0:=Dq A8
def YT :EC Tryz.prog 44 false 1:=FD A8
def atZ :DY Tryz.prog 208 1 1:=Dq A8
def agx :DY Tryz.prog 49 2 2:=Dq A8
def alx :DY Tryz.prog 49 3 3:=Dq A8
def asw :DY Tryz.prog 49 4 4:=Dq A8
def aes :DY Tryz.prog 49 5 5:=Dq A8
def anu :DY Tryz.prog 49 6 6:=Dq A8
def afD :DY Tryz.prog 49 7 7:=Dq A8
def akm :DY Tryz.prog 49 8 8:=Dq A8
def aRB :(Tryz.prog.info? 211).bind (·.zero)=some (.agg #[.int .i64 0,.int .i64 0,.int .i64 0,.int .i64 0,.int .i64 0,.int .i64 0,.int .i64 0]):=A8
def ash :Zz Tryz.prog 211 1 (.agg #[.int .i64 0,.int .i64 0,.int .i64 0,.int .i64 0,.int .i64 0,.int .i64 0,.int .i64 0]):=aEf A8 aRB A8
def aBX :Tryz.prog.underlying 211=some (.array 7 3):=A8
def aKj :EC Tryz.prog 5 false 1:=FD A8
def apm :DY Tryz.prog 55 10 10:=Dq A8
def TQ :EC Tryz.prog 51 true 16:=FD A8
def MO :Fl Tryz.prog 45 9 1 16:=L9 A8
def qL :Fl Tryz.prog 46 173 2 24:=L9 A8
def aIh :Fl Tryz.prog 47 208 2 16:=L9 A8
def aRR :(Tryz.prog.info? 51).bind (·.zero)=some (.agg #[.string Bf,.int .i64 0,.int .i64 0,.bool false,.string Bf,.slice none 0 0,.slice none 0 0,.slice none 0 0,.slice none 0 0,.int .i64 0,.int .i64 0,.int .i64 0,.int .i64 0,.int .i64 0,.int .i64 0,.int .i64 0]):=A8
def MX :(Tryz.prog.info? 55).bind (·.zero)=some (.agg #[.int .i64 0,.string Bf,.string Bf,.int .i64 0,.bool false,.string Bf,.int .i64 0,.int .i64 0,.slice none 0 0,.slice none 0 0,.string Bf,.int .i64 0,.int .i64 0,.bool false,.string Bf,.slice none 0 0,.slice none 0 0,.slice none 0 0,.slice none 0 0,.int .i64 0,.int .i64 0,.int .i64 0,.int .i64 0,.int .i64 0,.int .i64 0,.int .i64 0,.int .i64 0,.string Bf,.int .i64 0]):=A8
def anA :DY Tryz.prog 55 3 3:=Dq A8
def Ch :EC Tryz.prog 55 true 29:=FD A8
def aSe :(Tryz.prog.info? 262).bind (·.zero)=some (.agg #[.slice none 0 0]):=A8
def am2 :Il Tryz.prog 262 [(0,1)] (.agg #[.slice none 0 0]):=Ku A8 aSe A8
def afk :DY Tryz.prog 55 0 0:=Dq A8
def DV :Fl Tryz.prog 24 3 1 8:=L9 A8
def zero3 :(Tryz.prog.info? 3).bind (·.zero)=some (.int .i64 0):=A8
def Bc :Tryz.prog.underlying 24=some (.slice 3):=A8
def akn :DY Tryz.prog 262 0 0:=Dq A8
def asF :EC Tryz.prog 216 false 1:=FD A8
def aqc :DY Tryz.prog 55 1 1:=Dq A8
def akV :DY Tryz.prog 55 2 2:=Dq A8
def zero9 :(Tryz.prog.info? 9).bind (·.zero)=some (.string Bf):=A8
def ams :DY Tryz.prog 55 4 4:=Dq A8
def ah1 :Fl Tryz.prog 303 4 1 1:=L9 A8
def pU :(Tryz.prog.info? 4).bind (·.zero)=some (.bool false):=A8
def aPC :Tryz.prog.underlying 303=some (.slice 4):=A8
def aix :DY Tryz.prog 55 5 5:=Dq A8
def ajU :DY Tryz.prog 55 6 6:=Dq A8
def ajK :DY Tryz.prog 55 7 7:=Dq A8
def ahF :DY Tryz.prog 55 8 8:=Dq A8
def aCh :EC Tryz.prog 24 false 1:=FD A8
def arV :DY Tryz.prog 55 9 9:=Dq A8
def aKy :Fl Tryz.prog 304 24 1 24:=L9 A8
def zero24 :(Tryz.prog.info? 24).bind (·.zero)=some (.slice none 0 0):=A8
def qF :Tryz.prog.underlying 304=some (.slice 24):=A8
def ant :DY Tryz.prog 55 11 26:=Dq A8
def ajd :DY Tryz.prog 55 12 27:=Dq A8
def ari :DY Tryz.prog 53 0 0:=Dq A8
def akf :DY Tryz.prog 53 1 1:=Dq A8
def aS4 :(Tryz.prog.info? 53).bind (·.zero)=some (.agg #[.string Bf,.int .i64 0]):=A8
def amT :Il Tryz.prog 53 [(0,1),(1,1)] (.agg #[.string Bf,.int .i64 0]):=Ku A8 aS4 A8
def aj9 :EC Tryz.prog 53 true 2:=FD A8
def apG :Dt Tryz.prog 137=true:=A8
def Ip :Fl Tryz.prog 22 55 29 376:=L9 A8
def amn :Il Tryz.prog 55 [(0,1),(1,1),(2,1),(3,1),(4,1),(5,1),(6,1),(7,1),(8,1),(9,1),(10,16),(26,1),(27,2)] (.agg #[.int .i64 0,.string Bf,.string Bf,.int .i64 0,.bool false,.string Bf,.int .i64 0,.int .i64 0,.slice none 0 0,.slice none 0 0,.string Bf,.int .i64 0,.int .i64 0,.bool false,.string Bf,.slice none 0 0,.slice none 0 0,.slice none 0 0,.slice none 0 0,.int .i64 0,.int .i64 0,.int .i64 0,.int .i64 0,.int .i64 0,.int .i64 0,.int .i64 0,.int .i64 0,.string Bf,.int .i64 0]):=Ku A8 MX A8
def afY :Il Tryz.prog 51 [(0,1),(1,1),(2,1),(3,1),(4,1),(5,1),(6,1),(7,9)] (.agg #[.string Bf,.int .i64 0,.int .i64 0,.bool false,.string Bf,.slice none 0 0,.slice none 0 0,.slice none 0 0,.slice none 0 0,.int .i64 0,.int .i64 0,.int .i64 0,.int .i64 0,.int .i64 0,.int .i64 0,.int .i64 0]):=Ku A8 aRR A8
def akG :Dt Tryz.prog 237=true:=A8
def alk :Dt Tryz.prog 238=true:=A8
def aHG :(Tryz.prog.info? 314).bind (·.zero)=some (.agg #[.int .i64 0,.nilFunc]):=A8
def ajY :Il Tryz.prog 314 [(0,1),(1,1)] (.agg #[.int .i64 0,.nilFunc]):=Ku A8 aHG A8
def apA :Fl Tryz.prog 315 314 2 16:=L9 A8
def aRH :Tryz.prog.underlying 315=some (.slice 314):=A8
def aSx :EC Tryz.prog 314 true 2:=FD A8
def alT :DY Tryz.prog 314 0 0:=Dq A8
def aoZ :DY Tryz.prog 314 1 1:=Dq A8
def arP :EC Tryz.prog 244 false 1:=FD A8
def aiL :Dt Tryz.prog 359=true:=A8
def aee :Dt Tryz.prog 360=true:=A8
def alN :Dt Tryz.prog 361=true:=A8
def ajR :Dt Tryz.prog 362=true:=A8
def anC :Dt Tryz.prog 363=true:=A8
def aoB :Dt Tryz.prog 364=true:=A8
def amA :Tryz.prog.underlying 4=some (.bool):=A8
def aDY (x y:Gl):Bool:=(x.User.toList==y.User.toList&&(x.N==y.N&&true))
def ahn (x y:Gl):dc Tryz.prog 2 173 [.string x.User,.int .i64 x.N] [.string y.User,.int .i64 y.N] (aDY x y):=⟨fun d w=>aAm A8 A8 A8 (l:=[(9,0),(3,1)]) A8 (VW (Lr JR A8 w) (Lr JR A8 w) (run_equalIn_string w _ _ _ _ Fz)<|VW (Lr CG A8 w) (Lr CG A8 w) (ZM w _ _ .i64 _ _ _ Xj)<|aD9 _ _ _ _)⟩
def afa :Program.eqGuardType Tryz.prog (Program.depth Tryz.prog) 173=false:=A8
def aSX :Tryz.prog.underlying 44=some (.int .i64):=A8
def aDH (x y:Ij):Bool:=(x.Kind==y.Kind&&(x.N==y.N&&true))
def alV (x y:Ij):dc Tryz.prog 2 208 [.int .i64 x.Kind,.int .i64 x.N] [.int .i64 y.Kind,.int .i64 y.N] (aDH x y):=⟨fun d w=>aAm A8 A8 A8 (l:=[(44,0),(3,1)]) A8 (VW (Lr YT A8 w) (Lr YT A8 w) (ZM w _ _ .i64 _ _ _ aSX)<|VW (Lr CG A8 w) (Lr CG A8 w) (ZM w _ _ .i64 _ _ _ Xj)<|aD9 _ _ _ _)⟩
def anU :Program.eqGuardType Tryz.prog (Program.depth Tryz.prog) 208=false:=A8
def aBt (x y:Nk):Bool:=(x.Server.toList==y.Server.toList&&(x.Sum==y.Sum&&true))
def aem (x y:Nk):dc Tryz.prog 2 53 [.string x.Server,.int .i64 x.Sum] [.string y.Server,.int .i64 y.Sum] (aBt x y):=⟨fun d w=>aAm A8 A8 A8 (l:=[(9,0),(3,1)]) A8 (VW (Lr JR A8 w) (Lr JR A8 w) (run_equalIn_string w _ _ _ _ Fz)<|VW (Lr CG A8 w) (Lr CG A8 w) (ZM w _ _ .i64 _ _ _ Xj)<|aD9 _ _ _ _)⟩
def amD :Program.eqGuardType Tryz.prog (Program.depth Tryz.prog) 53=false:=A8
def QK :Tryz.prog.underlying 144=some (.map 3 3):=A8
def Gv :KeyTy Tryz.prog 3 BM:=asQ Xj
def an0 :(Tryz.prog.info? 144).bind (·.zero)=some (.map none):=A8
def asf :EC Tryz.prog 144 false 1:=FD A8
def aNY :Fl Tryz.prog 185 187 2 16:=L9 A8
def Opn :(Tryz.prog.info? 187).bind (·.zero)=some (.agg #[.int .i64 0,.int .i64 0]):=A8
def afF :Il Tryz.prog 187 [(0,1),(1,1)] (.agg #[.int .i64 0,.int .i64 0]):=Ku A8 Opn A8
def YH :Tryz.prog.underlying 185=some (.slice 187):=A8
def Sz :EC Tryz.prog 187 true 2:=FD A8
def am6 :DY Tryz.prog 187 0 0:=Dq A8
def ahQ :DY Tryz.prog 187 1 1:=Dq A8
def Hu :Tryz.prog.underlying 25=some (.slice 92):=A8
def ES :EC Tryz.prog 92 true 3:=FD A8
def PK :(Tryz.prog.info? 92).bind (·.zero)=some (.agg #[.int .i64 0,.string Bf,.int .i64 0]):=A8
def ag4 :Il Tryz.prog 92 [(0,1),(1,1),(2,1)] (.agg #[.int .i64 0,.string Bf,.int .i64 0]):=Ku A8 PK A8
def af7 :DY Tryz.prog 92 0 0:=Dq A8
def akR :DY Tryz.prog 92 1 1:=Dq A8
def akN :Dt Tryz.prog 145=true:=A8
def ahg :Dt Tryz.prog 147=true:=A8
def EU :Tryz.prog.underlying 26=some (.slice 92):=A8
def aeh :DY Tryz.prog 92 2 2:=Dq A8
def JO :Tryz.prog.underlying 119=some (.slice 26):=A8
def Ri :EC Tryz.prog 26 false 1:=FD A8
def zero26 :(Tryz.prog.info? 26).bind (·.zero)=some (.slice none 0 0):=A8
def aoI :EC Tryz.prog 119 false 1:=FD A8
def aQO :Dt Tryz.prog 130=true:=A8
def LC :Fl Tryz.prog 26 92 3 32:=L9 A8
def aDM :Dt Tryz.prog 60=true:=A8
def ZK :Tryz.prog.underlying 104=some (.map 3 4):=A8
def aib :Dt Tryz.prog 300=true:=A8
def asU :Dt Tryz.prog 301=true:=A8
def adT :Dt Tryz.prog 229=true:=A8
def aeQ :Dt Tryz.prog 302=true:=A8
def xK :Dt Tryz.prog 163=true:=A8
def akv :Dt Tryz.prog 397=true:=A8
def ahI :EC Tryz.prog 22 false 1:=FD A8
def aTc :(Tryz.prog.info? 150).bind (·.zero)=some (.agg #[.int .i64 0]):=A8
def aho :Il Tryz.prog 150 [(0,1)] (.agg #[.int .i64 0]):=Ku A8 aTc A8
def anw :(match Tryz.prog.underlying 150 with |some (.interface _)=>false|some _=>true|none=>false)=true:=A8
def qH :Dt Tryz.prog 86=true:=A8
def TJ :Dt Tryz.prog 84=true:=A8
def adb :(Tryz.prog.info? 200).bind (·.zero)=some (.agg #[.int .i64 0,.int .i64 0,.int .i64 0,.int .i64 0,.int .i64 0]):=A8
def afp :Zz Tryz.prog 200 1 (.agg #[.int .i64 0,.int .i64 0,.int .i64 0,.int .i64 0,.int .i64 0]):=aEf A8 adb A8
def atB :EC Tryz.prog 200 true 5:=FD A8
def aPl :Tryz.prog.underlying 200=some (.array 5 3):=A8
def alI :Dt Tryz.prog 240=true:=A8
def apU :Il Tryz.prog 49 [(0,1),(1,1),(2,1),(3,1),(4,1),(5,1),(6,1),(7,1),(8,1)] (.agg #[.slice none 0 0,.slice none 0 0,.int .i64 0,.int .i64 0,.int .i64 0,.int .i64 0,.int .i64 0,.int .i64 0,.int .i64 0]):=Ku A8 abo A8
def aei :Il Tryz.prog 173 [(0,1),(1,1)] (.agg #[.string Bf,.int .i64 0]):=Ku A8 uU A8
def ark :Dt Tryz.prog 123=true:=A8
def aRM :EC Tryz.prog 211 true 7:=FD A8
def aQq :Dt Tryz.prog 184=true:=A8
def aKk :Dt Tryz.prog 183=true:=A8
def aTw :(Tryz.prog.info? 213).bind (·.zero)=some (.agg #[.slice none 0 0,.slice none 0 0]):=A8
def alG :Zz Tryz.prog 213 1 (.agg #[.slice none 0 0,.slice none 0 0]):=aEf A8 aTw A8
def anv :Tryz.prog.underlying 213=some (.array 2 47):=A8
def aQ9 :(Tryz.prog.info? 214).bind (·.zero)=some (.agg #[.slice none 0 0,.slice none 0 0]):=A8
def alD :Zz Tryz.prog 214 1 (.agg #[.slice none 0 0,.slice none 0 0]):=aEf A8 aQ9 A8
def aiV :Tryz.prog.underlying 214=some (.array 2 46):=A8
def atb :Dt Tryz.prog 82=true:=A8
def aQr :(Tryz.prog.info? 317).bind (·.zero)=some (.agg #[]):=A8
def atI :Il Tryz.prog 317 [] (.agg #[]):=Ku A8 aQr A8
def ahO :(match Tryz.prog.underlying 317 with |some (.interface _)=>false|some _=>true|none=>false)=true:=A8
def aSG :Dt Tryz.prog 305=true:=A8
def amb :Tryz.prog.underlying 89=some (.int .u64):=A8
def ajv :(Tryz.prog.info? 147).bind (·.zero)=some (.agg #[.slice none 0 0,.slice none 0 0,.slice none 0 0]):=A8
def aTM :(Tryz.prog.info? 194).bind (·.zero)=some (.agg #[]):=A8
def atc :Il Tryz.prog 194 [] (.agg #[]):=Ku A8 aTM A8
def alb :(match Tryz.prog.underlying 194 with |some (.interface _)=>false|some _=>true|none=>false)=true:=A8
def aOQ :(Tryz.prog.info? 284).bind (·.zero)=some (.agg #[.int .i64 0,.string Bf]):=A8
def ahk :Il Tryz.prog 284 [(0,1),(1,1)] (.agg #[.int .i64 0,.string Bf]):=Ku A8 aOQ A8
def aN6 :Fl Tryz.prog 279 284 2 24:=L9 A8
def dI :Tryz.prog.underlying 279=some (.slice 284):=A8
def uD :EC Tryz.prog 284 true 2:=FD A8
def aoO :DY Tryz.prog 284 0 0:=Dq A8
def aqC :DY Tryz.prog 284 1 1:=Dq A8
def adv :Dt Tryz.prog 298=true:=A8
def aJM :(Tryz.prog.info? 347).bind (·.zero)=some (.agg #[.int .i64 0,.int .i64 0,.int .i64 0,.slice none 0 0]):=A8
def anp :Il Tryz.prog 347 [(0,1),(1,1),(2,1),(3,1)] (.agg #[.int .i64 0,.int .i64 0,.int .i64 0,.slice none 0 0]):=Ku A8 aJM A8
def aLw :Fl Tryz.prog 344 347 4 48:=L9 A8
def Um :Tryz.prog.underlying 344=some (.slice 347):=A8
def Yw :EC Tryz.prog 347 true 4:=FD A8
def ao3 :DY Tryz.prog 347 3 3:=Dq A8
def amB :DY Tryz.prog 347 0 0:=Dq A8
def aed :DY Tryz.prog 347 1 1:=Dq A8
def aqa :DY Tryz.prog 347 2 2:=Dq A8
def afJ :Dt Tryz.prog 416=true:=A8
def asa :Dt Tryz.prog 413=true:=A8
def afj :wQ Tryz.prog 194 "fedchat/resolve.sort" 413=true:=A8
def apa :DY Tryz.prog 147 1 1:=Dq A8
def acN :(Tryz.prog.info? 197).bind (·.zero)=some (.agg #[.slice none 0 0]):=A8
def ajc :Il Tryz.prog 197 [(0,1)] (.agg #[.slice none 0 0]):=Ku A8 acN A8
def aoY :(match Tryz.prog.underlying 197 with |some (.interface _)=>false|some _=>true|none=>false)=true:=A8
def anh :DY Tryz.prog 197 0 0:=Dq A8
def aIU :(Tryz.prog.info? 351).bind (·.zero)=some (.agg #[.int .i64 0,.int .i64 0,.int .i64 0]):=A8
def agy :Il Tryz.prog 351 [(0,1),(1,1),(2,1)] (.agg #[.int .i64 0,.int .i64 0,.int .i64 0]):=Ku A8 aIU A8
def aTO :Fl Tryz.prog 349 351 3 24:=L9 A8
def iL :Tryz.prog.underlying 349=some (.slice 351):=A8
def bT :EC Tryz.prog 351 true 3:=FD A8
def uZ (x y:KO):Bool:=(x.mX==y.mX&&(x.yP==y.yP&&(x.AQ==y.AQ&&true)))
def afh (x y:KO):dc Tryz.prog 2 351 [.int .i64 x.mX,.int .i64 x.yP,.int .i64 x.AQ] [.int .i64 y.mX,.int .i64 y.yP,.int .i64 y.AQ] (uZ x y):=⟨fun d w=>aAm A8 A8 A8 (l:=[(3,0),(3,1),(3,2)]) A8 (VW (Lr CG A8 w) (Lr CG A8 w) (ZM w _ _ .i64 _ _ _ Xj)<|VW (Lr CG A8 w) (Lr CG A8 w) (ZM w _ _ .i64 _ _ _ Xj)<|VW (Lr CG A8 w) (Lr CG A8 w) (ZM w _ _ .i64 _ _ _ Xj)<|aD9 _ _ _ _)⟩
def as4 :Program.eqGuardType Tryz.prog (Program.depth Tryz.prog) 351=false:=A8
def ahq :DY Tryz.prog 351 0 0:=Dq A8
def agz :Dt Tryz.prog 418=true:=A8
def agE :wQ Tryz.prog 197 "fedchat/resolve.sort" 418=true:=A8
def anc :DY Tryz.prog 147 0 0:=Dq A8
def ao6 :DY Tryz.prog 147 2 2:=Dq A8
def acJ :EC Tryz.prog 147 true 3:=FD A8
def anq :kn Tryz.prog 147 0 0 false 1=true:=A8
def zero22 :(Tryz.prog.info? 22).bind (·.zero)=some (.slice none 0 0):=A8
def aiW :DY Tryz.prog 115 2 2:=Dq A8
def amZ :EC Tryz.prog 113 false 1:=FD A8
def jm :Tryz.prog.underlying 113=some (.map 3 68):=A8
def YV :(Tryz.prog.info? 68).bind (·.zero)=some (.int .i64 0):=A8
def aoG :DY Tryz.prog 115 1 1:=Dq A8
def aqN :EC Tryz.prog 112 false 1:=FD A8
def Z4 :Tryz.prog.underlying 112=some (.map 3 26):=A8
def Xh :Fl Tryz.prog 119 26 1 24:=L9 A8
def akW :DY Tryz.prog 115 0 0:=Dq A8
def aP9 :(Tryz.prog.info? 115).bind (·.zero)=some (.agg #[.map none,.map none,.map none]):=A8
def aSs :Il Tryz.prog 115 [(0,1),(1,1),(2,1)] (.agg #[.map none,.map none,.map none]):=Ku A8 aP9 A8
def alq :EC Tryz.prog 109 false 1:=FD A8
def amN :Dt Tryz.prog 74=true:=A8
def aDW :Fl Tryz.prog 77 58 1 8:=L9 A8
def aIp :(Tryz.prog.info? 58).bind (·.zero)=some (.int .i64 0):=A8
def iV :Tryz.prog.underlying 77=some (.slice 58):=A8
def Xf :Dt Tryz.prog 327=true:=A8
def aJ0 :Dt Tryz.prog 328=true:=A8
def apl :Dt Tryz.prog 329=true:=A8
def aRX :Dt Tryz.prog 380=true:=A8
def akA :Dt Tryz.prog 152=true:=A8
def aIK :(Tryz.prog.info? 70).bind (·.zero)=some (.agg #[.int .i64 0,.slice none 0 0,.slice none 0 0,.int .i64 0]):=A8
def jh :Tryz.prog.underlying 64=some (.slice 70):=A8
def UO :EC Tryz.prog 70 true 4:=FD A8
def ahP :DY Tryz.prog 70 0 0:=Dq A8
def ahu :Il Tryz.prog 70 [(0,1),(1,1),(2,1),(3,1)] (.agg #[.int .i64 0,.slice none 0 0,.slice none 0 0,.int .i64 0]):=Ku A8 aIK A8
def aHK :Dt Tryz.prog 68=true:=A8
def apb :Dt Tryz.prog 341=true:=A8
def acn :Dt Tryz.prog 271=true:=A8
def ahS :Dt Tryz.prog 275=true:=A8
def Yg :Fl Tryz.prog 25 92 3 32:=L9 A8
def aqd :Dt Tryz.prog 344=true:=A8
def alp :(Tryz.prog.info? 179).bind (·.zero)=some (.agg #[.slice none 0 0,.slice none 0 0,.slice none 0 0,.slice none 0 0,.slice none 0 0]):=A8
def atD :DY Tryz.prog 179 0 0:=Dq A8
def aqV :DY Tryz.prog 179 1 1:=Dq A8
def ap7 :DY Tryz.prog 179 2 2:=Dq A8
def aov :DY Tryz.prog 179 3 3:=Dq A8
def aht :DY Tryz.prog 179 4 4:=Dq A8
def aPp :EC Tryz.prog 179 true 5:=FD A8
def arB :kn Tryz.prog 179 4 4 false 1=true:=A8
def aTN :Dt Tryz.prog 216=true:=A8
def aqI :DY Tryz.prog 70 3 3:=Dq A8
def afV :EC Tryz.prog 68 false 1:=FD A8
def an3 :DY Tryz.prog 70 2 2:=Dq A8
def aiX :DY Tryz.prog 70 1 1:=Dq A8
def aeK :Fl Tryz.prog 64 70 4 64:=L9 A8
def aKG :EC Tryz.prog 58 false 1:=FD A8
def arz :DY Tryz.prog 30 1 1:=Dq A8
def alf :DY Tryz.prog 30 3 3:=Dq A8
def afM :DY Tryz.prog 30 2 2:=Dq A8
def ajN :EC Tryz.prog 23 false 1:=FD A8
def agj :DY Tryz.prog 30 4 4:=Dq A8
def ame :DY Tryz.prog 30 5 5:=Dq A8
def aoN :DY Tryz.prog 30 7 7:=Dq A8
def apT :EC Tryz.prog 27 false 1:=FD A8
def aiY :DY Tryz.prog 30 8 8:=Dq A8
def apr :EC Tryz.prog 28 false 1:=FD A8
def anB :DY Tryz.prog 30 0 0:=Dq A8
def al9 :EC Tryz.prog 94 true 4:=FD A8
def aq1 :DY Tryz.prog 94 0 0:=Dq A8
def anR :EC Tryz.prog 96 true 2:=FD A8
def ajn :DY Tryz.prog 96 0 0:=Dq A8
def zero30 :(Tryz.prog.info? 30).bind (·.zero)=some (.agg #[.string Bf,.slice none 0 0,.slice none 0 0,.slice none 0 0,.slice none 0 0,.slice none 0 0,.int .i64 0,.slice none 0 0,.slice none 0 0]):=A8
def ajF :EC Tryz.prog 60 true 4:=FD A8
def arv :DY Tryz.prog 60 1 1:=Dq A8
def ahL :DY Tryz.prog 60 3 3:=Dq A8
def apP :EC Tryz.prog 30 true 9:=FD A8
def aOr :(Tryz.prog.info? 60).bind (·.zero)=some (.agg #[.int .i64 0,.int .i64 0,.int .i64 0,.bool false]):=A8
def aln :Il Tryz.prog 60 [(0,1),(1,1),(2,1),(3,1)] (.agg #[.int .i64 0,.int .i64 0,.int .i64 0,.bool false]):=Ku A8 aOr A8
def aiH :Il Tryz.prog 30 [(0,1),(1,1),(2,1),(3,1),(4,1),(5,1),(6,1),(7,1),(8,1)] (.agg #[.string Bf,.slice none 0 0,.slice none 0 0,.slice none 0 0,.slice none 0 0,.slice none 0 0,.int .i64 0,.slice none 0 0,.slice none 0 0]):=Ku A8 zero30 A8
def anm :DY Tryz.prog 30 6 6:=Dq A8
def afT :Tryz.prog.underlying 58=some (.int .i64):=A8
instance ato :Kn Tryz.prog where
 und:=[(3,.int .i64),(228,.int .u64),(5,.int .u8),(9,.string),(4,.bool),(44,.int .i64),(89,.int .u64),(58,.int .i64)]
 ak6:=⟨Xj,an7,aCl,Fz,amA,aSX,amb,afT,trivial⟩
 ty:=[(9,false,1),(3,false,1),(4,false,1),(45,false,1),(49,true,9),(46,false,1),(173,true,2),(47,false,1),(208,true,2),(44,false,1),(5,false,1),(51,true,16),(55,true,29),(216,false,1),(24,false,1),(53,true,2),(314,true,2),(244,false,1),(144,false,1),(187,true,2),(92,true,3),(26,false,1),(119,false,1),(22,false,1),(200,true,5),(211,true,7),(284,true,2),(347,true,4),(351,true,3),(147,true,3),(113,false,1),(112,false,1),(109,false,1),(70,true,4),(179,true,5),(68,false,1),(58,false,1),(23,false,1),(27,false,1),(28,false,1),(94,true,4),(96,true,2),(60,true,4),(30,true,9)]
 hty:=⟨JR,CG,ae6,asR,XM,aSl,JJ,aSS,JF,YT,aKj,TQ,Ch,asF,aCh,aj9,aSx,arP,asf,Sz,ES,Ri,aoI,ahI,atB,aRM,uD,Yw,bT,acJ,amZ,aqN,alq,UO,aPp,afV,aKG,ajN,apT,apr,al9,anR,ajF,apP,trivial⟩
 fld:=[((51,0),0),((51,1),1),((51,2),2),((51,3),3),((51,4),4),((51,5),5),((51,6),6),((51,7),7),((49,0),0),((173,0),0),((173,1),1),((49,1),1),((208,0),0),((208,1),1),((49,2),2),((49,3),3),((49,4),4),((49,5),5),((49,6),6),((49,7),7),((49,8),8),((55,10),10),((55,3),3),((55,0),0),((262,0),0),((55,1),1),((55,2),2),((55,4),4),((55,5),5),((55,6),6),((55,7),7),((55,8),8),((55,9),9),((55,11),26),((55,12),27),((53,0),0),((53,1),1),((314,0),0),((314,1),1),((187,0),0),((187,1),1),((92,0),0),((92,1),1),((92,2),2),((284,0),0),((284,1),1),((347,3),3),((347,0),0),((347,1),1),((347,2),2),((147,1),1),((197,0),0),((351,0),0),((147,0),0),((147,2),2),((115,2),2),((115,1),1),((115,0),0),((70,0),0),((179,0),0),((179,1),1),((179,2),2),((179,3),3),((179,4),4),((70,3),3),((70,2),2),((70,1),1),((30,1),1),((30,3),3),((30,2),2),((30,4),4),((30,5),5),((30,7),7),((30,8),8),((30,0),0),((94,0),0),((96,0),0),((60,1),1),((60,3),3),((30,6),6)]
 hfld:=⟨af0,aql,aju,apO,agF,as7,akJ,aek,apW,amJ,aiQ,asE,amP,atZ,agx,alx,asw,aes,anu,afD,akm,apm,anA,afk,akn,aqc,akV,ams,aix,ajU,ajK,ahF,arV,ant,ajd,ari,akf,alT,aoZ,am6,ahQ,af7,akR,aeh,aoO,aqC,ao3,amB,aed,aqa,apa,anh,ahq,anc,ao6,aiW,aoG,akW,ahP,atD,aqV,ap7,aov,aht,aqI,an3,aiX,arz,alf,afM,agj,ame,aoN,aiY,anB,aq1,ajn,arv,ahL,anm,trivial⟩
 part:=[((147,0),0,false,1),((179,4),4,false,1)]
 hpart:=⟨anq,arB,trivial⟩
 zero:=[(5,.int .u8 0),(49,.agg #[.slice none 0 0,.slice none 0 0,.int .i64 0,.int .i64 0,.int .i64 0,.int .i64 0,.int .i64 0,.int .i64 0,.int .i64 0]),(173,.agg #[.string Bf,.int .i64 0]),(208,.agg #[.int .i64 0,.int .i64 0]),(211,.agg #[.int .i64 0,.int .i64 0,.int .i64 0,.int .i64 0,.int .i64 0,.int .i64 0,.int .i64 0]),(51,.agg #[.string Bf,.int .i64 0,.int .i64 0,.bool false,.string Bf,.slice none 0 0,.slice none 0 0,.slice none 0 0,.slice none 0 0,.int .i64 0,.int .i64 0,.int .i64 0,.int .i64 0,.int .i64 0,.int .i64 0,.int .i64 0]),(55,.agg #[.int .i64 0,.string Bf,.string Bf,.int .i64 0,.bool false,.string Bf,.int .i64 0,.int .i64 0,.slice none 0 0,.slice none 0 0,.string Bf,.int .i64 0,.int .i64 0,.bool false,.string Bf,.slice none 0 0,.slice none 0 0,.slice none 0 0,.slice none 0 0,.int .i64 0,.int .i64 0,.int .i64 0,.int .i64 0,.int .i64 0,.int .i64 0,.int .i64 0,.int .i64 0,.string Bf,.int .i64 0]),(262,.agg #[.slice none 0 0]),(3,.int .i64 0),(9,.string Bf),(4,.bool false),(24,.slice none 0 0),(53,.agg #[.string Bf,.int .i64 0]),(314,.agg #[.int .i64 0,.nilFunc]),(144,.map none),(187,.agg #[.int .i64 0,.int .i64 0]),(92,.agg #[.int .i64 0,.string Bf,.int .i64 0]),(26,.slice none 0 0),(150,.agg #[.int .i64 0]),(200,.agg #[.int .i64 0,.int .i64 0,.int .i64 0,.int .i64 0,.int .i64 0]),(213,.agg #[.slice none 0 0,.slice none 0 0]),(214,.agg #[.slice none 0 0,.slice none 0 0]),(317,.agg #[]),(147,.agg #[.slice none 0 0,.slice none 0 0,.slice none 0 0]),(194,.agg #[]),(284,.agg #[.int .i64 0,.string Bf]),(347,.agg #[.int .i64 0,.int .i64 0,.int .i64 0,.slice none 0 0]),(197,.agg #[.slice none 0 0]),(351,.agg #[.int .i64 0,.int .i64 0,.int .i64 0]),(22,.slice none 0 0),(68,.int .i64 0),(115,.agg #[.map none,.map none,.map none]),(58,.int .i64 0),(70,.agg #[.int .i64 0,.slice none 0 0,.slice none 0 0,.int .i64 0]),(179,.agg #[.slice none 0 0,.slice none 0 0,.slice none 0 0,.slice none 0 0,.slice none 0 0]),(30,.agg #[.string Bf,.slice none 0 0,.slice none 0 0,.slice none 0 0,.slice none 0 0,.slice none 0 0,.int .i64 0,.slice none 0 0,.slice none 0 0]),(60,.agg #[.int .i64 0,.int .i64 0,.int .i64 0,.bool false])]
 hzero:=⟨⟨QT,A8⟩,⟨abo,A8⟩,⟨uU,A8⟩,⟨aTQ,A8⟩,⟨aRB,A8⟩,⟨aRR,A8⟩,⟨MX,A8⟩,⟨aSe,A8⟩,⟨zero3,A8⟩,⟨zero9,A8⟩,⟨pU,A8⟩,⟨zero24,A8⟩,⟨aS4,A8⟩,⟨aHG,A8⟩,⟨an0,A8⟩,⟨Opn,A8⟩,⟨PK,A8⟩,⟨zero26,A8⟩,⟨aTc,A8⟩,⟨adb,A8⟩,⟨aTw,A8⟩,⟨aQ9,A8⟩,⟨aQr,A8⟩,⟨ajv,A8⟩,⟨aTM,A8⟩,⟨aOQ,A8⟩,⟨aJM,A8⟩,⟨acN,A8⟩,⟨aIU,A8⟩,⟨zero22,A8⟩,⟨YV,A8⟩,⟨aP9,A8⟩,⟨aIp,A8⟩,⟨aIK,A8⟩,⟨alp,A8⟩,⟨zero30,A8⟩,⟨aOr,A8⟩,trivial⟩
 st:=[(262,[(0,1)],.agg #[.slice none 0 0]),(53,[(0,1),(1,1)],.agg #[.string Bf,.int .i64 0]),(55,[(0,1),(1,1),(2,1),(3,1),(4,1),(5,1),(6,1),(7,1),(8,1),(9,1),(10,16),(26,1),(27,2)],.agg #[.int .i64 0,.string Bf,.string Bf,.int .i64 0,.bool false,.string Bf,.int .i64 0,.int .i64 0,.slice none 0 0,.slice none 0 0,.string Bf,.int .i64 0,.int .i64 0,.bool false,.string Bf,.slice none 0 0,.slice none 0 0,.slice none 0 0,.slice none 0 0,.int .i64 0,.int .i64 0,.int .i64 0,.int .i64 0,.int .i64 0,.int .i64 0,.int .i64 0,.int .i64 0,.string Bf,.int .i64 0]),(51,[(0,1),(1,1),(2,1),(3,1),(4,1),(5,1),(6,1),(7,9)],.agg #[.string Bf,.int .i64 0,.int .i64 0,.bool false,.string Bf,.slice none 0 0,.slice none 0 0,.slice none 0 0,.slice none 0 0,.int .i64 0,.int .i64 0,.int .i64 0,.int .i64 0,.int .i64 0,.int .i64 0,.int .i64 0]),(314,[(0,1),(1,1)],.agg #[.int .i64 0,.nilFunc]),(187,[(0,1),(1,1)],.agg #[.int .i64 0,.int .i64 0]),(92,[(0,1),(1,1),(2,1)],.agg #[.int .i64 0,.string Bf,.int .i64 0]),(150,[(0,1)],.agg #[.int .i64 0]),(49,[(0,1),(1,1),(2,1),(3,1),(4,1),(5,1),(6,1),(7,1),(8,1)],.agg #[.slice none 0 0,.slice none 0 0,.int .i64 0,.int .i64 0,.int .i64 0,.int .i64 0,.int .i64 0,.int .i64 0,.int .i64 0]),(173,[(0,1),(1,1)],.agg #[.string Bf,.int .i64 0]),(317,[],.agg #[]),(194,[],.agg #[]),(284,[(0,1),(1,1)],.agg #[.int .i64 0,.string Bf]),(347,[(0,1),(1,1),(2,1),(3,1)],.agg #[.int .i64 0,.int .i64 0,.int .i64 0,.slice none 0 0]),(197,[(0,1)],.agg #[.slice none 0 0]),(351,[(0,1),(1,1),(2,1)],.agg #[.int .i64 0,.int .i64 0,.int .i64 0]),(115,[(0,1),(1,1),(2,1)],.agg #[.map none,.map none,.map none]),(70,[(0,1),(1,1),(2,1),(3,1)],.agg #[.int .i64 0,.slice none 0 0,.slice none 0 0,.int .i64 0]),(60,[(0,1),(1,1),(2,1),(3,1)],.agg #[.int .i64 0,.int .i64 0,.int .i64 0,.bool false]),(30,[(0,1),(1,1),(2,1),(3,1),(4,1),(5,1),(6,1),(7,1),(8,1)],.agg #[.string Bf,.slice none 0 0,.slice none 0 0,.slice none 0 0,.slice none 0 0,.slice none 0 0,.int .i64 0,.slice none 0 0,.slice none 0 0])]
 hst:=⟨am2,amT,amn,afY,ajY,afF,ag4,aho,apU,aei,atI,atc,ahk,anp,ajc,agy,aSs,ahu,aln,aiH,trivial⟩
 arr:=[(211,1,.agg #[.int .i64 0,.int .i64 0,.int .i64 0,.int .i64 0,.int .i64 0,.int .i64 0,.int .i64 0]),(200,1,.agg #[.int .i64 0,.int .i64 0,.int .i64 0,.int .i64 0,.int .i64 0]),(213,1,.agg #[.slice none 0 0,.slice none 0 0]),(214,1,.agg #[.slice none 0 0,.slice none 0 0])]
 harr:=⟨ash,afp,alG,alD,trivial⟩
abbrev Am :=fun x=>BQ.arr 3 1 (List.map AZ x)
abbrev gJ :=fun x=>BQ.arr 284 2 (List.map Jr x)
abbrev Cj :=fun x=>BQ.arr 55 29 (List.map Ak x)
abbrev Zp :=fun x=>BQ.arr 347 4 (List.map LM x)
abbrev Og :=fun x=>BQ.arr 351 3 (List.map N8 x)
abbrev Cb :=fun x=>BQ.arr 92 3 (List.map Ar x)
abbrev PE :=fun x=>BQ.arr 26 1 (List.map (Au Ar) x)
abbrev MZ :=fun x=>BQ.arr 58 1 (List.map AZ x)
abbrev IV :=fun x=>BQ.arr 9 1 (List.map Ci x)
abbrev Bl :=fun x=>BQ.arr 5 1 (List.map D8 x)
abbrev Vp :=fun x=>BQ.arr 173 2 (List.map EN x)
abbrev Vf :=fun x=>BQ.arr 208 2 (List.map EK x)
abbrev OB :=fun x=>BQ.arr 187 2 (List.map Ht x)
abbrev Ve :=fun x=>BQ.arr 24 1 (List.map (Au AZ) x)
abbrev IK :=fun x=>BQ.arr 70 4 (List.map IG x)
abbrev Ba :=fun x=>Ag.d ((Au AZ) x)
abbrev AU :=fun x=>Ag.d (AZ x)
abbrev Ae :=fun x=>Ag.d (DT x)
abbrev DI :=fun x=>Ag.d (Ak x)
abbrev Cx :=fun x=>Ag.d ((Au Ar) x)
abbrev BH :=fun x=>Ag.d ((Au Ak) x)
abbrev UN :=fun x=>Ag.d ((Au LM) x)
abbrev I7 :=fun x=>Ag.d ((Au (Au Ar)) x)
abbrev CP :=fun x=>Ag.d (Ci x)
abbrev V9 :=fun x=>Ag.d (Ar x)
abbrev Gq :=fun x=>Ag.d ((Au Ci) x)
abbrev Gz :=fun x=>Ag.d (Dz x)
abbrev Gf :=fun x=>Ag.d ((Au D8) x)
abbrev GX :=fun x=>Ag.d (Ec x)
abbrev NY :=fun x=>Ag.d ((Au EN) x)
abbrev NK :=fun x=>Ag.d ((Au EK) x)
abbrev OQ :=fun x=>Ag.d ((Au IG) x)
abbrev Tj :=fun x=>Ag.d (IG x)
end Go.Proofs.YtolgdkhlelfpoaaGreat
end
section
namespace Go.Proofs.YtolgdkhlelfpoaaGreat
open Go.RowKit
set_option maxRecDepth 20000
set_option maxHeartbeats 4000000
abbrev Aj:=List AY
def uF (f:Aj):Option Bool:=some (decide ((f.length:Int)≤14))
def aar (ak r) (h:uF ak=some r):BD 32 [BH ak] [] (Ae r) []:=Ap.aI Tryz.func32 rfl<|AV<|AL<|.a 1<|.p (BN Ak ak C9 rfl)<|.aW<|CV
def Xm (f:AO) (h:Int):Option AO:=(JM 1 0 (f.length:Int) (BA ((f.length:Int)+h))).bind fun j=>some (gCopy j f)
def qK (gX avL r) (h:Xm gX avL=some r):BD 334 [Gf gX,AU avL] [] (.aO 0) [(Bl r)]:=Ap.aI Tryz.func334 rfl<|AL<|.e [(Bl [])] (CB 5 1 rfl)<|.aZ<|AP h fun f j h=>AL<|.a 1<|.p (BN D8 gX Vu rfl)<|.a 1<|.p (BN D8 gX Vu rfl)<|.a 2<|.e [(Bl []),(Bl f)] (Yh D8 0 j Ig QT A8 A8 A8 Bd rfl)<|.aW<|AL<|.a 2<|.e [(Bl []),(Bl (gCopy f gX))] (am5 (k:=1) D8 f gX Ig A8 (fun _=>rfl) rfl)<|.aZ<|AV<|Jb
def VN  (j:(AO→Int→Option AO)):AO→Int→Option AO:=fun h f=>(bif decide (f≥128)then(CZ 1 h [EP .or .u8 (IntKind.u8.wrap f) 128]).bind fun m=>(OX .shr .u64 f 7).bind fun n=>j m n else(CZ 1 h [IntKind.u8.wrap f]).bind fun q=>some q)
def aSy  :AO→Int→Option AO:=aV (VN) Az
def aAJ (f:AO) (h:Int):Option AO:=aSy f h
def Xq (f:AO) (h:Int):Option AO:=(OX .shl .u64 (IntKind.u64.wrap h) 1).bind fun j=>(bif decide (h<0)then aAJ f (Yo .u64 j)else aAJ f j)
def rO (gX kS r) (h:Xq gX kS=some r):BD 335 [.aO 0,AU kS] [(Bl gX)] (.aO 1) [.dead,(Bl r)]:=Ap.aI Tryz.func335 rfl<|AL<|.e [(Bl gX),(Bl [])] (CB 5 1 rfl)<|.aZ<|AP h fun m n h=>AL<|.a 2<|.p (aBL (k:=.u64) (k':=.u64) n rfl)<|.aW<|CY (fun s=>∃(q:Int),Bz s ⟨BF 28 [(0,.aO 1),(5,.d ((lH .u64) q))],[.dead,(Bl gX)],1⟩∧aAJ gX q=some r) (by rintro s ⟨q,O,h⟩;exact CS O<|AX<|AB.block<|DL (fun M f=>⟨BF 28 [(0,.aO 1),(5,.d ((lH .u64) f))],[.dead,(Bl M)],1⟩) _ _ _ _ (Aa 28 33 [(0,false),(1,true)]) h<|fun S Z z M f h=>AX<|AV<|Ad h (fun h=>AB.skip<|AB.block<|AP h fun U I h=>AL<|.a 3<|.p (WA (k:=.u8) (u:=(IntKind.u8.wrap f)) (v:=128) rfl)<|.p (Dj Ig QT [D8 (EP .or .u8 (IntKind.u8.wrap f) 128)] rfl)<|.e [.dead,.dead,(Bl U)] (DU (k:=1) D8 I Ig A8 (fun _=>rfl) Bd rfl)<|.aW<|AP h fun x8 J h=>Aw<|.a 1<|.p (abW (k:=.u64) (k':=.u64) J rfl)<|.a 1<|.nil<|z _ _ _ (Aa 28 33 [(0,false),(2,true)]) h) fun h=>AB.exit<|AP h fun Y L h=>AL<|.a 3<|.p (Dj Ig QT [D8 (IntKind.u8.wrap f)] rfl)<|.e [.dead,.dead,(Bl Y)] (DU (k:=1) D8 L Ig A8 (fun _=>rfl) Bd rfl)<|.aW<|by cases h;exact .ret (EH [(0,false),(2,true)]))<|fun j=>AV<|Ad h (fun h=>Aw<|.a 1<|.p (adS (k:=.u64) (u:=m) rfl)<|.a 1<|.nil<|j _ ⟨(Yo .u64 m),Aa 28 33 [(0,false),(0,true)],h⟩) fun h=>AB.skip<|j _ ⟨m,Aa 28 33 [(0,false),(0,true)],h⟩
def vC (h:AO) (f:ByteArray):Option AO:=(Xq h (f.size:Int)).bind fun j=>(CZ 1 j (Bv f)).bind fun m=>some m
def aRD (gX gG r) (h:vC gX gG=some r):BD 333 [.aO 0,CP gG] [(Bl gX)] (.aO 1) [.dead,(Bl r)]:=Ap.aI Tryz.func333 rfl<|AL<|.e [(Bl gX),(Bl [])] (CB 5 1 rfl)<|.aZ<|Bj h fun m f n j h=>AL<|.a 3<|.e (x:=.aO 2) [.dead,(Bl []),(Bl m)] (Dh [.ent 0] [.aO 0,AU (gG.size:Int)] (rO gX (gG.size:Int) m f) rfl)<|.a 1<|.e [.dead,(Bl []),.dead,(Bl n)] (amV (k:=2) j Ig QT Fz A8 rfl)<|.aW<|by cases h;exact .ret (EH [(0,false),(3,true)])
def RF (h:AO) (f:ByteArray):Option AO:=(Xm h (BA ((f.size:Int)+10))).bind fun j=>(vC j f).bind fun m=>some m
def aBF (gX gG r) (h:RF gX gG=some r):BD 251 [Gf gX,CP gG] [] (.aO 0) [(Bl r)]:=Ap.aI Tryz.func251 rfl<|AL<|.e [(Bl [])] (CB 5 1 rfl)<|.aZ<|Bj h fun f j n m h=>AL<|.a 4<|.e (x:=.aO 1) [(Bl []),(Bl f)] (Jp [Gf gX,AU (BA ((gG.size:Int)+10))] (qK gX (BA ((gG.size:Int)+10)) f j) rfl)<|.a 1<|.e (x:=.aO 2) [(Bl []),.dead,(Bl n)] (Dh [.ent 1] [.aO 1,CP gG] (aRD f gG n m) rfl)<|.aW<|JX
def N9 (f:AO) (h:Int):Option AO:=(Xm f 10).bind fun j=>(Xq j h).bind fun m=>some m
def WC (gX kS r) (h:N9 gX kS=some r):BD 252 [Gf gX,AU kS] [] (.aO 0) [(Bl r)]:=Ap.aI Tryz.func252 rfl<|AL<|.e [(Bl [])] (CB 5 1 rfl)<|.aZ<|Bj h fun f j n m h=>AL<|.a 1<|.e (x:=.aO 1) [(Bl []),(Bl f)] (Jp [Gf gX,AU 10] (qK gX 10 f j) rfl)<|.a 1<|.e (x:=.aO 2) [(Bl []),.dead,(Bl n)] (Dh [.ent 1] [.aO 1,AU kS] (rO f kS n m) rfl)<|.aW<|JX
def YB (h:AO) (f:Bool):Option AO:=(Xm h 1).bind fun j=>(bif f then(CZ 1 j [1]).bind fun m=>some m else(CZ 1 j [0]).bind fun n=>some n)
def abp (gX Fg r) (h:YB gX Fg=some r):BD 253 [Gf gX,Ae Fg] [] (.aO 0) [(Bl r)]:=Ap.aI Tryz.func253 rfl<|AL<|.e [(Bl [])] (CB 5 1 rfl)<|.aZ<|AP h fun n f h=>AL<|.a 1<|.e (x:=.aO 1) [(Bl []),(Bl n)] (Jp [Gf gX,AU 1] (qK gX 1 n f) rfl)<|.aW<|AX<|AV<|Ad h (fun h=>AP h fun q j h=>AL<|.a 1<|.p (Dj Ig QT [D8 1] rfl)<|.e [(Bl []),.dead,(Bl q)] (DU (k:=1) D8 j Ig A8 (fun _=>rfl) Bd rfl)<|.aW<|JX) fun h=>AB.skip<|AP h fun s m h=>AL<|.a 1<|.p (Dj Ig QT [D8 0] rfl)<|.e [(Bl []),.dead,(Bl s)] (DU (k:=1) D8 m Ig A8 (fun _=>rfl) Bd rfl)<|.aW<|JX
abbrev FQ:=List ByteArray
def aJC (f:FQ) (m:(AO→Int→Option AO)):AO→Int→Option AO:=fun j h=>(bif decide (h<(f.length:Int))then(Aq f h).bind fun n=>(vC j n).bind fun q=>m q (BA (h+1))else some j)
def abI (f:FQ):AO→Int→Option AO:=aV (aJC f) Az
def aCA (h:AO) (f:FQ):Option AO:=(Xq h (f.length:Int)).bind fun j=>abI f j 0
def aoH (gX cO r) (h:aCA gX cO=some r):BD 336 [.aO 0,Gq cO,.d (.fn (.func 333) [] [])] [(Bl gX)] (.aO 1) [.dead,(Bl r)]:=Ap.aI Tryz.func336 rfl<|AL<|.e [(Bl gX),(Bl [])] (CB 5 1 rfl)<|.aZ<|AP h fun s f h=>AL<|.a 2<|.p (BN Ci cO FW rfl)<|.e (x:=.aO 2) [.dead,(Bl []),(Bl s)] (Dh [.ent 0] [.aO 0,AU (cO.length:Int)] (rO gX (cO.length:Int) s f) rfl)<|.aW<|AX<|AL<|.a 1<|.p (BN Ci cO FW rfl)<|.aW<|AB.block<|DL (fun j u=>⟨BF 25 [(0,.aO 1),(2,.d (.fn (.func 333) [] [])),(13,Gq cO),(14,AU (cO.length:Int)),(15,AU u)],[.dead,(Bl j)],1⟩) _ _ _ _ (Aa 25 57349 [(0,false),(2,true)]) h<|fun J L m j u h=>AV<|AX<|Ad h (fun h=>AB.skip<|AX<|AB.block<|AP h fun z n h=>AL<|.p (BK Ci n FW JR rfl)<|.aW<|AP h fun I q h=>Aw<|.a 3<|.e (x:=.aO 2) [.dead,.dead,(Bl I)] (aPg [.ent 1] [] [] [.aO 1,CP z] (aRD j z I q) rfl)<|.a 1<|.nil<|Aw<|.a 2<|.nil<|m _ _ _ (Aa 25 57349 [(0,false),(2,true)]) h) fun h=>AB.exit<|AV<|kT
def cZ (h:AO) (f:FQ):Option AO:=(Xm h (BA ((BA (8*(f.length:Int)))+10))).bind fun j=>(aCA j f).bind fun m=>some m
def aPj (gX cO r) (h:cZ gX cO=some r):BD 254 [Gf gX,Gq cO] [] (.aO 0) [(Bl r)]:=Ap.aI Tryz.func254 rfl<|AL<|.e [(Bl [])] (CB 5 1 rfl)<|.aZ<|Bj h fun f j n m h=>AL<|.a 2<|.p (BN Ci cO FW rfl)<|.a 2<|.e (x:=.aO 1) [(Bl []),(Bl f)] (Jp [Gf gX,AU (BA ((BA (8*(cO.length:Int)))+10))] (qK gX (BA ((BA (8*(cO.length:Int)))+10)) f j) rfl)<|.a 1<|.e (x:=.aO 2) [(Bl []),.dead,(Bl n)] (Dh [.ent 1] [.aO 1,Gq cO,.d (.fn (.func 333) [] [])] (aoH f cO n m) rfl)<|.aW<|JX
def aIV (f:CW) (m:(AO→Int→Option AO)):AO→Int→Option AO:=fun j h=>(bif decide (h<7)then(Aq ([f.Levels.User,f.Levels.Message,f.Levels.State,f.Levels.gB,f.Levels.jI,f.Levels.lV,f.Levels.gQ]:AO) h).bind fun n=>(N9 j n).bind fun q=>m q (BA (h+1))else some j)
def aJe (f:CW):AO→Int→Option AO:=aV (aIV f) Az
def aEU (f:CW) (n:(AO→Int→Option AO)):AO→Int→Option AO:=fun j h=>(bif decide (h<(f.Levels.Kinds.length:Int))then(Aq f.Levels.Kinds h).bind fun m=>(N9 j m.Kind).bind fun q=>(N9 q m.N).bind fun s=>n s (BA (h+1))else aJe f j 0)
def aLs (f:CW):AO→Int→Option AO:=aV (aEU f) Az
def aA9 (f:CW) (m:(AO→Int→Option AO)):AO→Int→Option AO:=fun u h=>(bif decide (h<(f.Levels.Users.length:Int))then(Aq f.Levels.Users h).bind fun j=>(RF u j.User).bind fun n=>(N9 n j.N).bind fun q=>m q (BA (h+1))else(N9 u (f.Levels.Kinds.length:Int)).bind fun s=>aLs f s 0)
def aTo (f:CW):AO→Int→Option AO:=aV (aA9 f) Az
def uw (f:CW):Option AO:=(RF [] f.Text).bind fun h=>(N9 h f.N).bind fun j=>(N9 j f.Target).bind fun m=>(YB m f.Thread).bind fun n=>(RF n f.Via).bind fun q=>(cZ q f.Allow).bind fun s=>(cZ s f.iE).bind fun u=>(N9 u (f.Levels.Users.length:Int)).bind fun z=>aTo f z 0
def aSU (dV r) (h:uw dV=some r):BD 192 [GX dV] [] (Gf r) []:=Ap.aI Tryz.func192 rfl<|AV<|AP h fun x1 hx1 h=>AL<|.a 2<|.p (x:=(Gf x1)) (aak [.d (.lit (.slice none 0 0)),CP dV.Text] (aBF [] dV.Text x1 hx1).view rfl)<|.aW<|AP h fun x2 hx2 h=>AL<|.a 3<|.ca (WC x1 dV.N x2 hx2).view<|.aW<|AP h fun x3 hx3 h=>AL<|.a 3<|.ca (WC x2 dV.Target x3 hx3).view<|.aW<|AP h fun x4 hx4 h=>AL<|.a 3<|.ca (abp x3 dV.Thread x4 hx4).view<|.aW<|AP h fun x5 hx5 h=>AL<|.a 3<|.ca (aBF x4 dV.Via x5 hx5).view<|.aW<|AP h fun x6 hx6 h=>AL<|.a 3<|.ca (aPj x5 dV.Allow x6 hx6).view<|.aW<|AP h fun x7 hx7 h=>AL<|.a 3<|.ca (aPj x6 dV.iE x7 hx7).view<|.aW<|AV<|AP h fun x8 tZ h=>AL<|.a 3<|.p (BN EN dV.Levels.Users FM rfl)<|.ca (WC x7 (dV.Levels.Users.length:Int) x8 tZ).view<|.aW<|AX<|AL<|.a 2<|.p (BN EN dV.Levels.Users FM rfl)<|.aW<|AB.block<|DL (fun v9 m=>⟨BF 103 [(3,Gf v9),(4,.ptr 0 0),(46,NY dV.Levels.Users),(47,AU (dV.Levels.Users.length:Int)),(48,AU m)],[.box (Ai (Dz dV.Levels))],0⟩) _ _ _ _ (Aa 103 492581209243672 [(1,true)]) h<|fun J32 k11 n v9 m h=>AV<|AX<|Ad h (fun h=>AB.skip<|AX<|AB.block<|AP h fun q s h=>AL<|.p (BK EN s FM JJ rfl)<|.aW<|Bj h fun u z x15 I h=>AB.draw A8 A8 A8 (.a 3<|.ca (aBF v9 q.User u z).view<|.a 2<|.ca (WC u q.N x15 I).view<|.a 1<|.nil _)<|Aw<|.a 2<|.nil<|n _ _ _ (Aa 103 492581209243672 [(0,true)]) h) fun h=>AB.exit<|AP h fun x16 J h=>AL<|.a 3<|.p (BN EK dV.Levels.Kinds F8 rfl)<|.ca (WC v9 (dV.Levels.Kinds.length:Int) x16 J).view<|.aW<|AX<|AL<|.a 2<|.p (BN EK dV.Levels.Kinds F8 rfl)<|.aW<|AB.block<|DL (fun f L=>⟨BF 103 [(3,Gf f),(4,.ptr 0 0),(66,NK dV.Levels.Kinds),(67,AU (dV.Levels.Kinds.length:Int)),(68,AU L)],[.box (Ai (Dz dV.Levels))],0⟩) _ _ _ _ (Aa 103 516508834063867445272 [(0,true)]) h<|fun J31 k19 M f L h=>AV<|AX<|Ad h (fun h=>AB.skip<|AX<|AB.block<|AP h fun O S h=>AL<|.p (BK EK S F8 JF rfl)<|.aW<|Bj h fun U Y x23 Z h=>AB.draw A8 A8 A8 (.a 3<|.ca (WC f O.Kind U Y).view<|.a 2<|.ca (WC U O.N x23 Z).view<|.a 1<|.nil _)<|Aw<|.a 2<|.nil<|M _ _ _ (Aa 103 516508834063867445272 [(0,true)]) h) fun h=>AB.exit<|AX<|AV<|AB.block<|DL (fun j v25=>⟨BF 103 [(3,Gf j),(94,.d ((MH AZ) ([dV.Levels.User,dV.Levels.Message,dV.Levels.State,dV.Levels.gB,dV.Levels.jI,dV.Levels.lV,dV.Levels.gQ]:(List Int)))),(95,AU v25)],[],0⟩) _ _ _ _ (Aa 103 59421121885698253195157962760 []) h<|fun J30 k26 aAd j v25 h=>AV<|AX<|Ad h (fun h=>AB.skip<|AX<|AB.block<|AP h fun x28 hx28 h=>AL<|.p (aCZ (k:=.i64) AZ hx28 aBX CG A8 rfl)<|.aW<|AP h fun x29 hx29 h=>Aw<|.a 2<|.ca (WC j x28 x29 hx29).view<|.a 1<|.nil<|Aw<|.a 2<|.nil<|aAd _ _ _ (Aa 103 59421121885698253195157962760 []) h) fun h=>Ed
def aKN  :Option Int:=some 860922984064492325
def akh  (r:Int) (h:aKN=some r):BD 250 [] [] (AU r) []:=Ap.aI Tryz.func250 rfl<|ay
def aN3 (f:AO) (m:(Int→Int→Option Int)):Int→Int→Option Int:=fun j h=>(bif decide (h<(f.length:Int))then(Aq f h).bind fun n=>m (EP .and .u64 (IntKind.u64.wrap ((EP .xor .u64 j (IntKind.u64.wrap n))*1099511628211)) 4611686018427387903) (BA (h+1))else some (BA j))
def aad (f:AO):Int→Int→Option Int:=aV (aN3 f) Az
def aN1 (f:Int) (h:AO):Option Int:=aad h (EP .and .u64 (IntKind.u64.wrap f) 4611686018427387903) 0
def anG (aob gI r) (h:aN1 aob gI=some r):BD 249 [AU aob,Gf gI] [] (AU r) []:=Ap.aI Tryz.func249 rfl<|AV<|AL<|.a 2<|.p (QO (k:=.u64) (u:=(IntKind.u64.wrap aob)) (v:=4611686018427387903) rfl)<|.aW<|AX<|AL<|.a 1<|.p (BN D8 gI Vu rfl)<|.aW<|AB.block<|DL (fun f n=>⟨BF 26 [(5,.d ((lH .u64) f)),(11,Gf gI),(12,AU (gI.length:Int)),(13,AU n)],[],0⟩) _ _ _ _ (Aa 26 14368 []) h<|fun s z j f n h=>AV<|AX<|Ad h (fun h=>AB.skip<|AX<|AB.block<|AP h fun q m h=>AL<|.p (BK D8 m Vu aKj rfl)<|.aW<|Aw<|.a 3<|.p (aST (k:=.u64) (u:=f) (v:=(IntKind.u64.wrap q)) rfl)<|.a 1<|.p (QO (k:=.u64) (u:=(IntKind.u64.wrap ((EP .xor .u64 f (IntKind.u64.wrap q))*1099511628211))) (v:=4611686018427387903) rfl)<|.a 1<|.nil<|Aw<|.a 2<|.nil<|j _ _ _ (Aa 26 14368 []) h) fun h=>Ed
def sQ (f:AO):Option Int:=(aKN).bind fun h=>(aN1 h f).bind fun j=>some j
def acv (gX r) (h:sQ gX=some r):BD 191 [Gf gX] [] (AU r) []:=Ap.aI Tryz.func191 rfl<|AV<|Bj h fun m f n j h=>AL<|.ca (akh  m f)<|.a 1<|.ca (anG m gX n j)<|.aW<|CV
def vH (f:AY):Option Int:=(uw f.Content).bind fun h=>(sQ h).bind fun j=>some j
def abx (aS r) (h:vH aS=some r):BD 138 [DI aS] [] (AU r) []:=Ap.aI Tryz.func138 rfl<|AV<|Bj h fun m f n j h=>AL<|.a 2<|.ca (aSU aS.Content m f)<|.ca (acv m n j)<|.aW<|CV
def Qi (f:FQ):Option FQ:=(CZ 16 [] f).bind fun h=>some h
def aG2 (ak r) (h:Qi ak=some r):BD 141 [Gq ak] [] (.aO 0) [(IV r)]:=Ap.aI Tryz.func141 rfl<|AL<|.e [(IV [])] (CB 9 1 rfl)<|.aZ<|AP h fun j f h=>AL<|.a 1<|.e [(IV []),.dead,(IV j)] (aCc 9 1 (DU (k:=_) Ci f MO A8 (fun _=>rfl) Bd rfl))<|.aW<|JX
def bH (f:CO):Option CO:=(CZ 24 [] f.Users).bind fun h=>(CZ 16 [] (({ f with Users:=h }).Kinds)).bind fun j=>some ({ { f with Users:=h }with Kinds:=j })
def aPI (ak r) (h:bH ak=some r):BD 142 [Gz ak] [] (Gz r) []:=Ap.aI Tryz.func142 rfl<|AV<|AP h fun f m h=>AL<|.a 2<|.e [.box (Ai (Dz ak)),.box (Ai (Dz Iy)),.dead,(Vp f)] (aCc 173 2 (DU (k:=_) EN m qL A8 (fun _=>rfl) Bd rfl))<|.conv _ (Ic (e:=173) (s:=2) 3 (xs:=List.map EN f) A8)<|.aW<|AP h fun j n h=>AL<|.a 2<|.e [.box (Ai (Dz ({ ak with Users:=f }))),.box (Ai (Dz Iy)),.dead,.dead,.dead,(Vf j)] (aCc 208 2 (DU (k:=_) EK n aIh A8 (fun _=>rfl) Bd rfl))<|.conv _ (Ic (e:=208) (s:=2) 5 (xs:=List.map EK j) A8)<|.aW<|AV<|AB.ret<|by rw[←CJ h];exact⟨[Gz ({ { ak with Users:=f }with Kinds:=j })],[],⟨⟨1,Ai (Dz ({ { ak with Users:=f }with Kinds:=j })),true,9,A8,A8,A8,XM,Dw A8,aCV,A8⟩,trivial⟩,A8,A8,A8⟩
def rE (f:Bool):Option Int:=(bif f then some 5 else some 0)
def nI (f:Int) (h:Bool):Option Int:=(bif h then some 2 else(bif (f==6)then some 96 else(bif (f==7)then some 1 else(bif (f==9)then some 3 else(bif (f==11)then some 13 else(bif (f==12)then rE (f==12)else(bif (f==13)then rE (f==13)else rE (f==14))))))))
def jZ (f:Int):Option Int:=(bif (f==2)then some 19 else(bif (f==3)then some 128 else(bif (f==4)then some 34 else(bif (f==5)then nI f (f==5)else(bif (f==8)then nI f (f==8)else nI f (f==10))))))
def aTy (dR r) (h:jZ dR=some r):BD 194 [AU dR] [] (AU r) []:=Ap.aI Tryz.func194 rfl<|AV<|AX<|AV<|AB.block<|AV<|Ad h Bh fun h=>AV<|Ad h Bh fun h=>AV<|Ad h Bh fun h=>CY (fun s=>∃(n:Bool),Bz s ⟨BF 26 [(3,AU dR),(10,Ae n)],[],0⟩∧nI dR n=some r) (by rintro s ⟨n,q,h⟩;exact CS q<|Ad h Bh fun h=>AV<|Ad h Bh fun h=>AV<|Ad h Bh fun h=>AV<|Ad h Bh fun h=>AV<|Ad h Bh fun h=>CY (fun s=>∃(f:Bool),Bz s ⟨BF 26 [(22,Ae f)],[],0⟩∧rE f=some r) (by rintro s ⟨f,q,h⟩;exact CS q<|Ad h Bh fun h=>Lj)<|fun j=>AV<|Ad h (fun h=>AB.skip<|j _ ⟨(dR==12),Aa 26 4194304 [],h⟩) fun h=>AV<|Ad h (fun h=>AB.skip<|j _ ⟨(dR==13),Aa 26 4194304 [],h⟩) fun h=>Aw<|.a 2<|.nil<|j _ ⟨(dR==14),Aa 26 4194304 [],h⟩)<|fun m=>AV<|Ad h (fun h=>AB.skip<|m _ ⟨(dR==5),Aa 26 1032 [],h⟩) fun h=>AV<|Ad h (fun h=>AB.skip<|m _ ⟨(dR==8),Aa 26 1032 [],h⟩) fun h=>Aw<|.a 2<|.nil<|m _ ⟨(dR==10),Aa 26 1032 [],h⟩
def jW (f:Int) (h:Bool):Option Int:=(bif h then(jZ f).bind fun j=>some j else(bif (f==14)then some 4 else some 0))
def kM (f:Int):Option Int:=(bif (f==2)then some 18 else(bif (f==3)then jW f (f==3)else(bif (f==4)then jW f (f==4)else(bif (f==5)then jW f (f==5)else jW f (f==6)))))
def aR6 (dR r) (h:kM dR=some r):BD 143 [AU dR] [] (AU r) []:=Ap.aI Tryz.func143 rfl<|AV<|AX<|AV<|AB.block<|AV<|Ad h Bh fun h=>CY (fun s=>∃(f:Bool),Bz s ⟨BF 15 [(0,AU dR),(3,AU dR),(6,Ae f)],[],0⟩∧jW dR f=some r) (by rintro s ⟨f,m,h⟩;exact CS m<|Ad h (fun h=>AP h fun n j h=>AL<|.a 1<|.ca (aTy dR n j)<|.aW<|CV) fun h=>Z5)<|fun K6=>AV<|Ad h (fun h=>AB.skip<|K6 _ ⟨(dR==3),Aa 15 73 [],h⟩) fun h=>AV<|Ad h (fun h=>AB.skip<|K6 _ ⟨(dR==4),Aa 15 73 [],h⟩) fun h=>AV<|Ad h (fun h=>AB.skip<|K6 _ ⟨(dR==5),Aa 15 73 [],h⟩) fun h=>Aw<|.a 2<|.nil<|K6 _ ⟨(dR==6),Aa 15 73 [],h⟩
def aHL (f:CW):Option CW:=some f
def aH3 (m:Int) (f:CW) (h:CW):Option CW:=(bif ((EP .and .i64 m 128) != 0)then(bH f.Levels).bind fun j=>aHL ({ h with Levels:=j })else aHL h)
def aI2 (h:Int) (f:CW) (m:CW):Option CW:=(bif ((EP .and .i64 h 64) != 0)then(Qi f.iE).bind fun j=>aH3 h f ({ m with iE:=j })else aH3 h f m)
def aLQ (h:Int) (f:CW) (m:CW):Option CW:=(bif ((EP .and .i64 h 32) != 0)then(Qi f.Allow).bind fun j=>aI2 h f ({ m with Allow:=j })else aI2 h f m)
def aJm (h:Int) (f:CW) (j:CW):Option CW:=(bif ((EP .and .i64 h 16) != 0)then aLQ h f ({ j with Via:=f.Via })else aLQ h f j)
def aH9 (h:Int) (f:CW) (j:CW):Option CW:=(bif ((EP .and .i64 h 4) != 0)then aJm h f ({ j with Target:=f.Target })else aJm h f j)
def uh (h:Int) (f:CW):Option CW:=(bif (h==1)then(Qi f.Allow).bind fun m=>(Qi f.iE).bind fun n=>(bH f.Levels).bind fun q=>some ({ { { f with Allow:=m }with iE:=n }with Levels:=q })else(kM h).bind fun j=>(bif ((EP .and .i64 j 2) != 0)then aH9 j f ({ EF with N:=f.N })else aH9 j f EF))
def aQ2 (dR fD r) (h:uh dR fD=some r):BD 99 [AU dR,GX fD] [] (GX r) []:=Ap.aI Tryz.func99 rfl<|AV<|AX<|AV<|Ad h (fun h=>H6 h fun x2 hx2 x3 hx3 x4 hx4 h=>Ep A8 A8 A8 (.a 2<|.ca (aG2 fD.Allow x2 hx2).view<|.a 2<|.ca (aG2 fD.iE x3 hx3).view<|.a 2<|.ca (aPI fD.Levels x4 hx4)<|.a 6<|.nil _)<|AV<|AB.ret<|by rw[←CJ h];exact⟨[GX ({ { { fD with Allow:=x2 }with iE:=x3 }with Levels:=x4 })],[],⟨⟨1,Ai (Ec ({ { { fD with Allow:=x2 }with iE:=x3 }with Levels:=x4 })),true,16,A8,A8,A8,TQ,Dw A8,LP,A8⟩,trivial⟩,A8,A8,A8⟩) fun h=>AB.skip<|AV<|AP h fun f hx5 h=>AL<|.a 1<|.ca (aR6 dR f hx5)<|.aW<|CY (fun s=>∃(q:CW),Bz s ⟨BF 64 [(3,.ptr 0 0),(4,.ptr 1 0),(5,.ptr 2 0),(6,AU f)],[.box (Ai (Ec fD)),.box (Ai (Ec EF)),.box (Ai (Ec q))],0⟩∧aH9 f fD q=some r) (by rintro s ⟨q,j,h⟩;exact CS j<|CY (fun s=>∃(z:CW),Bz s ⟨BF 64 [(3,.ptr 0 0),(4,.ptr 1 0),(5,.ptr 2 0),(6,AU f)],[.box (Ai (Ec fD)),.box (Ai (Ec EF)),.box (Ai (Ec z))],0⟩∧aJm f fD z=some r) (by rintro s ⟨z,j,h⟩;exact CS j<|CY (fun s=>∃(I:CW),Bz s ⟨BF 64 [(3,.ptr 0 0),(4,.ptr 1 0),(5,.ptr 2 0),(6,AU f)],[.box (Ai (Ec fD)),.box (Ai (Ec EF)),.box (Ai (Ec I))],0⟩∧aLQ f fD I=some r) (by rintro s ⟨I,j,h⟩;exact CS j<|CY (fun s=>∃(J:CW),Bz s ⟨BF 64 [(3,.ptr 0 0),(4,.ptr 1 0),(5,.ptr 2 0),(6,AU f)],[.box (Ai (Ec fD)),.box (Ai (Ec EF)),.box (Ai (Ec J))],0⟩∧aI2 f fD J=some r) (by rintro s ⟨J,j,h⟩;exact CS j<|CY (fun s=>∃(m:CW),Bz s ⟨BF 64 [(3,.ptr 0 0),(4,.ptr 1 0),(5,.ptr 2 0),(6,AU f)],[.box (Ai (Ec fD)),.box (Ai (Ec EF)),.box (Ai (Ec m))],0⟩∧aH3 f fD m=some r) (by rintro s ⟨m,j,h⟩;exact CS j<|CY (fun s=>∃(n:CW),Bz s ⟨BF 64 [(4,.ptr 0 0),(5,.ptr 1 0)],[.box (Ai (Ec EF)),.box (Ai (Ec n))],0⟩∧aHL n=some r) (by rintro s ⟨n,j,h⟩;exact CS j<|AV<|AB.ret<|by rw[←CJ h];exact⟨[GX n],[],⟨⟨0,Ai (Ec n),true,16,A8,A8,A8,TQ,Dw A8,LP,A8⟩,trivial⟩,A8,A8,A8⟩)<|fun L=>AL<|.a 1<|.p (QO (k:=.i64) (u:=f) (v:=128) rfl)<|.aW<|Ad h (fun h=>AP h fun M O h=>Aw<|.a 2<|.ca (aPI fD.Levels M O)<|.a 2<|.nil<|L _ ⟨({ m with Levels:=M }),Aa 64 48 [(1,true),(2,true)],h⟩) fun h=>AB.skip<|L _ ⟨m,Aa 64 48 [(1,true),(2,true)],h⟩)<|fun S=>AL<|.a 1<|.p (QO (k:=.i64) (u:=f) (v:=64) rfl)<|.aW<|Ad h (fun h=>AP h fun U Y h=>Aw<|.a 2<|.ca (aG2 fD.iE U Y).view<|.a 2<|.nil<|S _ ⟨({ J with iE:=U }),Aa 64 120 [(0,true),(1,true),(2,true)],h⟩) fun h=>AB.skip<|S _ ⟨J,Aa 64 120 [(0,true),(1,true),(2,true)],h⟩)<|fun Z=>AL<|.a 1<|.p (QO (k:=.i64) (u:=f) (v:=32) rfl)<|.aW<|Ad h (fun h=>AP h fun xW Zc h=>Aw<|.a 2<|.ca (aG2 fD.Allow xW Zc).view<|.a 2<|.nil<|Z _ ⟨({ I with Allow:=xW }),Aa 64 120 [(0,true),(1,true),(2,true)],h⟩) fun h=>AB.skip<|Z _ ⟨I,Aa 64 120 [(0,true),(1,true),(2,true)],h⟩)<|fun K21=>AL<|.a 1<|.p (QO (k:=.i64) (u:=f) (v:=16) rfl)<|.aW<|Ad h (fun h=>Aw<|.a 4<|.nil<|K21 _ ⟨({ z with Via:=fD.Via }),Aa 64 120 [(0,true),(1,true),(2,true)],h⟩) fun h=>AB.skip<|K21 _ ⟨z,Aa 64 120 [(0,true),(1,true),(2,true)],h⟩)<|fun K23=>AL<|.a 1<|.p (QO (k:=.i64) (u:=f) (v:=4) rfl)<|.aW<|Ad h (fun h=>Aw<|.a 4<|.nil<|K23 _ ⟨({ q with Target:=fD.Target }),Aa 64 120 [(0,true),(1,true),(2,true)],h⟩) fun h=>AB.skip<|K23 _ ⟨q,Aa 64 120 [(0,true),(1,true),(2,true)],h⟩)<|fun K25=>AL<|.a 1<|.p (QO (k:=.i64) (u:=f) (v:=2) rfl)<|.aW<|Ad h (fun h=>Aw<|.a 4<|.nil<|K25 _ ⟨({ EF with N:=fD.N }),Aa 64 120 [(0,true),(1,true),(2,true)],h⟩) fun h=>AB.skip<|K25 _ ⟨EF,Aa 64 120 [(0,true),(1,true),(2,true)],h⟩
def aAO (f:AY):Option AY:=(uh f.Kind f.Content).bind fun h=>some ({ f with Content:=h })
def afI (aS r) (h:aAO aS=some r):BD 53 [DI aS] [] (DI r) []:=Ap.aI Tryz.func53 rfl<|AV<|AP h fun f j h=>AL<|.a 4<|.ca (aQ2 aS.Kind aS.Content f j)<|aR2
def dh (f:Ew) (h:Int):Option Ew:=(N9 f.b_ h).bind fun j=>some ({ f with b_:=j })
def apq (Ov kS r) (h:dh Ov kS=some r):BD 263 [.ptr 0 0,AU kS] [.box (Ai (GK Ov))] (.fP []) [.box (Ai (GK r))]:=Ap.aI Tryz.func263 rfl<|AP h fun j f h=>Aw<|.a 6<|.ca (WC Ov.b_ kS j f).view<|.a 3<|.nil<|Y3
def aNi (f:AO) (m:(Int→Ew→Option Ew)):Int→Ew→Option Ew:=fun h j=>(bif decide (h<(f.length:Int))then(Aq f h).bind fun n=>(dh j n).bind fun q=>m (BA (h+1)) q else some j)
def aQV (f:AO):Int→Ew→Option Ew:=aV (aNi f) Az
def Sv (f:Ew) (h:AO):Option Ew:=aQV h 0 f
def sU (sZ cO r) (h:Sv sZ cO=some r):BD 262 [.fn (.func 263) [.ptr 0 0] [],Ba cO] [.box (Ai (GK sZ))] (.fP []) [.box (Ai (GK r))]:=Ap.aI Tryz.func262 rfl<|AL<|.a 1<|.p (BN AZ cO Bc rfl)<|.aW<|AB.block<|DL (fun q f=>⟨BF 16 [(0,.fn (.func 263) [.ptr 0 0] []),(6,Ba cO),(7,AU (cO.length:Int)),(8,AU q)],[.box (Ai (GK f))],1⟩) _ _ _ _ (Aa 16 449 [(0,true)]) h<|fun z I j q f h=>AV<|AX<|Ad h (fun h=>AB.skip<|AX<|AB.block<|AP h fun s m h=>AL<|.p (BK AZ m Bc CG rfl)<|.aW<|AP h fun u n h=>Aw<|.a 2<|.e (x:=.fP []) [.box (Ai (GK u))] (aH [.ent 0] [.ptr 0 0] [] [AU s] (apq f s u n) rfl)<|.nil<|Aw<|.a 2<|aE4) fun h=>AB.exit<|Y3
def eA (f:Ew) (h:ByteArray):Option Ew:=(RF f.b_ h).bind fun j=>some ({ f with b_:=j })
def ah0 (Ov gG r) (h:eA Ov gG=some r):BD 265 [.ptr 0 0,CP gG] [.box (Ai (GK Ov))] (.fP []) [.box (Ai (GK r))]:=Ap.aI Tryz.func265 rfl<|AP h fun j f h=>Aw<|.a 6<|.ca (aBF Ov.b_ gG j f).view<|.a 3<|.nil<|Y3
def aNN (f:FQ) (m:(Int→Ew→Option Ew)):Int→Ew→Option Ew:=fun h j=>(bif decide (h<(f.length:Int))then(Aq f h).bind fun n=>(eA j n).bind fun q=>m (BA (h+1)) q else some j)
def abe (f:FQ):Int→Ew→Option Ew:=aV (aNN f) Az
def V3 (f:Ew) (h:FQ):Option Ew:=abe h 0 f
def aGd (sZ cO r) (h:V3 sZ cO=some r):BD 264 [.fn (.func 265) [.ptr 0 0] [],Gq cO] [.box (Ai (GK sZ))] (.fP []) [.box (Ai (GK r))]:=Ap.aI Tryz.func264 rfl<|AL<|.a 1<|.p (BN Ci cO FW rfl)<|.aW<|AB.block<|DL (fun q f=>⟨BF 16 [(0,.fn (.func 265) [.ptr 0 0] []),(6,Gq cO),(7,AU (cO.length:Int)),(8,AU q)],[.box (Ai (GK f))],1⟩) _ _ _ _ (Aa 16 449 [(0,true)]) h<|fun z I j q f h=>AV<|AX<|Ad h (fun h=>AB.skip<|AX<|AB.block<|AP h fun s m h=>AL<|.p (BK Ci m FW JR rfl)<|.aW<|AP h fun u n h=>Aw<|.a 2<|.e (x:=.fP []) [.box (Ai (GK u))] (aH [.ent 0] [.ptr 0 0] [] [CP s] (ah0 f s u n) rfl)<|.nil<|Aw<|.a 2<|aE4) fun h=>AB.exit<|Y3
def pW (f:Ew) (h:Bool):Option Ew:=(YB f.b_ h).bind fun j=>some ({ f with b_:=j })
def akH (Ov Fg r) (h:pW Ov Fg=some r):BD 267 [.ptr 0 0,Ae Fg] [.box (Ai (GK Ov))] (.fP []) [.box (Ai (GK r))]:=Ap.aI Tryz.func267 rfl<|AP h fun j f h=>Aw<|.a 6<|.ca (abp Ov.b_ Fg j f).view<|.a 3<|.nil<|Y3
def aO1 (f:(List Bool)) (m:(Int→Ew→Option Ew)):Int→Ew→Option Ew:=fun h j=>(bif decide (h<(f.length:Int))then(Aq f h).bind fun n=>(pW j n).bind fun q=>m (BA (h+1)) q else some j)
def adu (f:(List Bool)):Int→Ew→Option Ew:=aV (aO1 f) Az
def rH (f:Ew) (h:(List Bool)):Option Ew:=adu h 0 f
def afX (sZ cO r) (h:rH sZ cO=some r):BD 266 [.fn (.func 267) [.ptr 0 0] [],.d ((Au DT) cO)] [.box (Ai (GK sZ))] (.fP []) [.box (Ai (GK r))]:=Ap.aI Tryz.func266 rfl<|AL<|.a 1<|.p (BN DT cO aPC rfl)<|.aW<|AB.block<|DL (fun q f=>⟨BF 16 [(0,.fn (.func 267) [.ptr 0 0] []),(6,.d ((Au DT) cO)),(7,AU (cO.length:Int)),(8,AU q)],[.box (Ai (GK f))],1⟩) _ _ _ _ (Aa 16 449 [(0,true)]) h<|fun z I j q f h=>AV<|AX<|Ad h (fun h=>AB.skip<|AX<|AB.block<|AP h fun s m h=>AL<|.p (BK DT m aPC ae6 rfl)<|.aW<|AP h fun u n h=>Aw<|.a 2<|.e (x:=.fP []) [.box (Ai (GK u))] (aH [.ent 0] [.ptr 0 0] [] [Ae s] (akH f s u n) rfl)<|.nil<|Aw<|.a 2<|aE4) fun h=>AB.exit<|Y3
def aMZ (f:AO) (m:(AO→Int→Option AO)):AO→Int→Option AO:=fun j h=>(bif decide (h<(f.length:Int))then(Aq f h).bind fun n=>(Xq j n).bind fun q=>m q (BA (h+1))else some j)
def aRP (f:AO):AO→Int→Option AO:=aV (aMZ f) Az
def aAV (h:AO) (f:AO):Option AO:=(Xq h (f.length:Int)).bind fun j=>aRP f j 0
def agY (gX cO r) (h:aAV gX cO=some r):BD 384 [.aO 0,Ba cO,.d (.fn (.func 335) [] [])] [(Bl gX)] (.aO 1) [.dead,(Bl r)]:=Ap.aI Tryz.func384 rfl<|AL<|.e [(Bl gX),(Bl [])] (CB 5 1 rfl)<|.aZ<|AP h fun s f h=>AL<|.a 2<|.p (BN AZ cO Bc rfl)<|.e (x:=.aO 2) [.dead,(Bl []),(Bl s)] (Dh [.ent 0] [.aO 0,AU (cO.length:Int)] (rO gX (cO.length:Int) s f) rfl)<|.aW<|AX<|AL<|.a 1<|.p (BN AZ cO Bc rfl)<|.aW<|AB.block<|DL (fun j u=>⟨BF 25 [(0,.aO 1),(2,.d (.fn (.func 335) [] [])),(13,Ba cO),(14,AU (cO.length:Int)),(15,AU u)],[.dead,(Bl j)],1⟩) _ _ _ _ (Aa 25 57349 [(0,false),(2,true)]) h<|fun J L m j u h=>AV<|AX<|Ad h (fun h=>AB.skip<|AX<|AB.block<|AP h fun z n h=>AL<|.p (BK AZ n Bc CG rfl)<|.aW<|AP h fun I q h=>Aw<|.a 3<|.e (x:=.aO 2) [.dead,.dead,(Bl I)] (aPg [.ent 1] [] [] [.aO 1,AU z] (rO j z I q) rfl)<|.a 1<|.nil<|Aw<|.a 2<|.nil<|m _ _ _ (Aa 25 57349 [(0,false),(2,true)]) h) fun h=>AB.exit<|AV<|kT
def Xp (h:AO) (f:AO):Option AO:=(Xm h (BA ((BA (2*(f.length:Int)))+10))).bind fun j=>(aAV j f).bind fun m=>some m
def aqo (gX cO r) (h:Xp gX cO=some r):BD 338 [Gf gX,Ba cO] [] (.aO 0) [(Bl r)]:=Ap.aI Tryz.func338 rfl<|AL<|.e [(Bl [])] (CB 5 1 rfl)<|.aZ<|Bj h fun f j n m h=>AL<|.a 2<|.p (BN AZ cO Bc rfl)<|.a 2<|.e (x:=.aO 1) [(Bl []),(Bl f)] (Jp [Gf gX,AU (BA ((BA (2*(cO.length:Int)))+10))] (qK gX (BA ((BA (2*(cO.length:Int)))+10)) f j) rfl)<|.a 1<|.e (x:=.aO 2) [(Bl []),.dead,(Bl n)] (Dh [.ent 1] [.aO 1,Ba cO,.d (.fn (.func 335) [] [])] (agY f cO n m) rfl)<|.aW<|JX
def dZ (f:Ew) (h:AO):Option Ew:=(Xp f.b_ h).bind fun j=>some ({ f with b_:=j })
def aiN (Ov cO r) (h:dZ Ov cO=some r):BD 269 [.ptr 0 0,Ba cO] [.box (Ai (GK Ov))] (.fP []) [.box (Ai (GK r))]:=Ap.aI Tryz.func269 rfl<|AP h fun j f h=>Aw<|.a 6<|.ca (aqo Ov.b_ cO j f).view<|.a 3<|.nil<|Y3
abbrev UW:=List (List Int)
def aNa (f:UW) (m:(Int→Ew→Option Ew)):Int→Ew→Option Ew:=fun h j=>(bif decide (h<(f.length:Int))then(Aq f h).bind fun n=>(dZ j n).bind fun q=>m (BA (h+1)) q else some j)
def acG (f:UW):Int→Ew→Option Ew:=aV (aNa f) Az
def wV (f:Ew) (h:UW):Option Ew:=acG h 0 f
def atK (sZ cO r) (h:wV sZ cO=some r):BD 268 [.fn (.func 269) [.ptr 0 0] [],.d ((Au (Au AZ)) cO)] [.box (Ai (GK sZ))] (.fP []) [.box (Ai (GK r))]:=Ap.aI Tryz.func268 rfl<|AL<|.a 1<|.p (BN (Au AZ) cO qF rfl)<|.aW<|AB.block<|DL (fun q f=>⟨BF 16 [(0,.fn (.func 269) [.ptr 0 0] []),(6,.d ((Au (Au AZ)) cO)),(7,AU (cO.length:Int)),(8,AU q)],[.box (Ai (GK f))],1⟩) _ _ _ _ (Aa 16 449 [(0,true)]) h<|fun z I j q f h=>AV<|AX<|Ad h (fun h=>AB.skip<|AX<|AB.block<|AP h fun s m h=>AL<|.p (BK (Au AZ) m qF aCh rfl)<|.aW<|AP h fun u n h=>Aw<|.a 2<|.e (x:=.fP []) [.box (Ai (GK u))] (aH [.ent 0] [.ptr 0 0] [] [Ba s] (aiN f s u n) rfl)<|.nil<|Aw<|.a 2<|aE4) fun h=>AB.exit<|Y3
def xX (f:AY):Option AO:=(Sv aGN [f.Id]).bind fun n=>(V3 n [f.Room,f.bG]).bind fun q=>(Sv q [f.Kind]).bind fun s=>(rH s [f.State]).bind fun u=>(V3 u [f.Key]).bind fun z=>(Sv z [f.Time,f.Depth]).bind fun I=>(wV I [f.bK,f.bM]).bind fun J=>(uw f.Content).bind fun L=>(V3 J [PO L]).bind fun M=>(Sv M [f.Hash]).bind fun h=>(V3 h [f.qR.Server]).bind fun j=>(Sv j [f.qR.Sum]).bind fun m=>some m.b_
def agf (aS r) (h:xX aS=some r):BD 206 [DI aS] [] (Gf r) []:=Ap.aI Tryz.func206 rfl<|AV<|AV<|AP h fun z I h=>AL<|.a 1<|.p (x:=.fn (.func 263) [.ptr 1 0] []) (Oj (fi:=[.ptr 1 0]) (ca:=[]) rfl rfl rfl)<|.a 2<|.p (Dj DV zero3 [AZ aS.Id] rfl)<|.e (x:=.fP []) [.box (Ai (Ak aS)),.box (Ai (GK z))] (Dh [.ent 1] [.fn (.func 263) [.ptr 1 0] [],Ba [aS.Id]] (sU aGN [aS.Id] z I) rfl (ha:=⟨⟨_,_,rfl,⟨⟨0,rfl,rfl⟩,trivial⟩,trivial⟩,.inl rfl,trivial⟩))<|.aZ<|AP h fun J L h=>AL<|.a 1<|.p (x:=.fn (.func 265) [.ptr 1 0] []) (Oj (fi:=[.ptr 1 0]) (ca:=[]) rfl rfl rfl)<|.a 4<|.p (Dj MO zero9 [Ci aS.Room,Ci aS.bG] rfl)<|.e (x:=.fP []) [.box (Ai (Ak aS)),.box (Ai (GK J))] (Dh [.ent 1] [.fn (.func 265) [.ptr 1 0] [],Gq [aS.Room,aS.bG]] (aGd z [aS.Room,aS.bG] J L) rfl (ha:=⟨⟨_,_,rfl,⟨⟨0,rfl,rfl⟩,trivial⟩,trivial⟩,.inl rfl,trivial⟩))<|.aZ<|AP h fun M O h=>AL<|.a 1<|.p (x:=.fn (.func 263) [.ptr 1 0] []) (Oj (fi:=[.ptr 1 0]) (ca:=[]) rfl rfl rfl)<|.a 2<|.p (Dj DV zero3 [AZ aS.Kind] rfl)<|.e (x:=.fP []) [.box (Ai (Ak aS)),.box (Ai (GK M))] (Dh [.ent 1] [.fn (.func 263) [.ptr 1 0] [],Ba [aS.Kind]] (sU J [aS.Kind] M O) rfl (ha:=⟨⟨_,_,rfl,⟨⟨0,rfl,rfl⟩,trivial⟩,trivial⟩,.inl rfl,trivial⟩))<|.aZ<|AP h fun S U h=>AL<|.a 1<|.p (x:=.fn (.func 267) [.ptr 1 0] []) (Oj (fi:=[.ptr 1 0]) (ca:=[]) rfl rfl rfl)<|.a 2<|.p (Dj ah1 pU [DT aS.State] rfl)<|.e (x:=.fP []) [.box (Ai (Ak aS)),.box (Ai (GK S))] (Dh [.ent 1] [.fn (.func 267) [.ptr 1 0] [],.d ((Au DT) [aS.State])] (afX M [aS.State] S U) rfl (ha:=⟨⟨_,_,rfl,⟨⟨0,rfl,rfl⟩,trivial⟩,trivial⟩,.inl rfl,trivial⟩))<|.aZ<|AP h fun Y Z h=>AL<|.a 1<|.p (x:=.fn (.func 265) [.ptr 1 0] []) (Oj (fi:=[.ptr 1 0]) (ca:=[]) rfl rfl rfl)<|.a 2<|.p (Dj MO zero9 [Ci aS.Key] rfl)<|.e (x:=.fP []) [.box (Ai (Ak aS)),.box (Ai (GK Y))] (Dh [.ent 1] [.fn (.func 265) [.ptr 1 0] [],Gq [aS.Key]] (aGd S [aS.Key] Y Z) rfl (ha:=⟨⟨_,_,rfl,⟨⟨0,rfl,rfl⟩,trivial⟩,trivial⟩,.inl rfl,trivial⟩))<|.aZ<|AP h fun x6 hx6 h=>AL<|.a 1<|.p (x:=.fn (.func 263) [.ptr 1 0] []) (Oj (fi:=[.ptr 1 0]) (ca:=[]) rfl rfl rfl)<|.a 4<|.p (Dj DV zero3 [AZ aS.Time,AZ aS.Depth] rfl)<|.e (x:=.fP []) [.box (Ai (Ak aS)),.box (Ai (GK x6))] (Dh [.ent 1] [.fn (.func 263) [.ptr 1 0] [],Ba [aS.Time,aS.Depth]] (sU Y [aS.Time,aS.Depth] x6 hx6) rfl (ha:=⟨⟨_,_,rfl,⟨⟨0,rfl,rfl⟩,trivial⟩,trivial⟩,.inl rfl,trivial⟩))<|.aZ<|AP h fun x7 hx7 h=>AL<|.a 1<|.p (x:=.fn (.func 269) [.ptr 1 0] []) (Oj (fi:=[.ptr 1 0]) (ca:=[]) rfl rfl rfl)<|.a 4<|.p (Dj aKy zero24 [(Au AZ) aS.bK,(Au AZ) aS.bM] rfl)<|.e (x:=.fP []) [.box (Ai (Ak aS)),.box (Ai (GK x7))] (Dh [.ent 1] [.fn (.func 269) [.ptr 1 0] [],.d ((Au (Au AZ)) [aS.bK,aS.bM])] (atK x6 [aS.bK,aS.bM] x7 hx7) rfl (ha:=⟨⟨_,_,rfl,⟨⟨0,rfl,rfl⟩,trivial⟩,trivial⟩,.inl rfl,trivial⟩))<|.aZ<|Bj h fun m tZ x9 uq h=>AL<|.a 1<|.p (x:=.fn (.func 265) [.ptr 1 0] []) (Oj (fi:=[.ptr 1 0]) (ca:=[]) rfl rfl rfl)<|.a 2<|.ca (aSU aS.Content m tZ)<|.p (aQM (l:=m) Vu aCl Fz rfl)<|.p (Dj MO zero9 [Ci (PO m)] rfl)<|.e (x:=.fP []) [.box (Ai (Ak aS)),.box (Ai (GK x9))] (Dh [.ent 1] [.fn (.func 265) [.ptr 1 0] [],Gq [PO m]] (aGd x7 [PO m] x9 uq) rfl (ha:=⟨⟨_,_,rfl,⟨⟨0,rfl,rfl⟩,trivial⟩,trivial⟩,.inl rfl,trivial⟩))<|.aZ<|AP h fun f n h=>AL<|.a 1<|.p (x:=.fn (.func 263) [.ptr 1 0] []) (Oj (fi:=[.ptr 1 0]) (ca:=[]) rfl rfl rfl)<|.a 2<|.p (Dj DV zero3 [AZ aS.Hash] rfl)<|.e (x:=.fP []) [.box (Ai (Ak aS)),.box (Ai (GK f))] (Dh [.ent 1] [.fn (.func 263) [.ptr 1 0] [],Ba [aS.Hash]] (sU x9 [aS.Hash] f n) rfl (ha:=⟨⟨_,_,rfl,⟨⟨0,rfl,rfl⟩,trivial⟩,trivial⟩,.inl rfl,trivial⟩))<|.aZ<|AP h fun j q h=>AL<|.a 1<|.p (x:=.fn (.func 265) [.ptr 1 0] []) (Oj (fi:=[.ptr 1 0]) (ca:=[]) rfl rfl rfl)<|.a 3<|.p (Dj MO zero9 [Ci aS.qR.Server] rfl)<|.e (x:=.fP []) [.box (Ai (Ak aS)),.box (Ai (GK j))] (Dh [.ent 1] [.fn (.func 265) [.ptr 1 0] [],Gq [aS.qR.Server]] (aGd f [aS.qR.Server] j q) rfl (ha:=⟨⟨_,_,rfl,⟨⟨0,rfl,rfl⟩,trivial⟩,trivial⟩,.inl rfl,trivial⟩))<|.aZ<|AP h fun s u h=>AL<|.a 1<|.p (x:=.fn (.func 263) [.ptr 1 0] []) (Oj (fi:=[.ptr 1 0]) (ca:=[]) rfl rfl rfl)<|.a 3<|.p (Dj DV zero3 [AZ aS.qR.Sum] rfl)<|.e (x:=.fP []) [.box (Ai (Ak aS)),.box (Ai (GK s))] (Dh [.ent 1] [.fn (.func 263) [.ptr 1 0] [],Ba [aS.qR.Sum]] (sU j [aS.qR.Sum] s u) rfl (ha:=⟨⟨_,_,rfl,⟨⟨0,rfl,rfl⟩,trivial⟩,trivial⟩,.inl rfl,trivial⟩))<|.aZ<|AV<|CV
def o8 (f:AY):Option Int:=(aAO f).bind fun h=>(xX ({ { h with Id:=0 }with qR:=ZF })).bind fun j=>(sQ j).bind fun m=>some m
def aQS (aS r) (h:o8 aS=some r):BD 150 [DI aS] [] (AU r) []:=Ap.aI Tryz.func150 rfl<|AV<|AP h fun q f h=>AL<|.a 1<|.ca (afI aS q f)<|.aW<|AV<|Bj h fun n j s m h=>AL<|.a 1<|.ca (agf _ n j)<|.ca (acv n s m)<|.aW<|CV
def yx (h:AY) (f:ByteArray):Option AY:=(vH h).bind fun j=>(o8 ({ h with Hash:=j })).bind fun m=>some ({ { { h with Hash:=j }with Id:=m }with qR:=(⟨f,({ { h with Hash:=j }with Id:=m }).Id⟩:Nk) })
def aKu (aS abd r) (h:yx aS abd=some r):BD 105 [DI aS,CP abd] [] (DI r) []:=Ap.aI Tryz.func105 rfl<|AV<|AP h fun f m h=>AL<|.a 1<|.ca (abx aS f m)<|.aW<|AP h fun j n h=>AL<|.a 1<|.ca (aQS _ j n)<|.aW<|AV<|AV<|AB.ret<|by rw[←CJ h];exact⟨[DI ({ { { aS with Hash:=f }with Id:=j }with qR:=(⟨abd,({ { aS with Hash:=f }with Id:=j }).Id⟩:Nk) })],[],⟨⟨1,Ai (Ak ({ { { aS with Hash:=f }with Id:=j }with qR:=(⟨abd,({ { aS with Hash:=f }with Id:=j }).Id⟩:Nk) })),true,29,A8,A8,A8,Ch,Dw A8,aCV,A8⟩,trivial⟩,A8,A8,A8⟩
def aKU (f:Aj) (h:(AY→Option Bool)) (k2:(Int→Option Int)):Int→Option Int:=fun j=>(bif decide (j<(f.length:Int))then(Aq f j).bind fun m=>(h m).bind fun n=>(bif n then some j else k2 (BA (j+1)))else some (-1))
def acr (f:Aj) (h:(AY→Option Bool)):Int→Option Int:=bD (aKU f h) Az
def iq (f:Aj) (h:(AY→Option Bool)):Option Int:=acr f h 0
def aKH (j:(List AY)) (m:(AY→Option Bool)) (f:D) (n:TS Tryz.prog Ak DT f m) (r:Int) (h:iq j m=some r):BD 136 [BH j,.d f] [] (AU r) []:=Ap.aI Tryz.func136 rfl<|AV<|AX<|AL<|.a 1<|.p (BN Ak j C9 rfl)<|.aW<|AB.block<|Df (fun z=>⟨BF 19 [(0,BH j),(1,.d f),(7,AU (j.length:Int)),(8,AU z)],[],0⟩) _ _ _ (Aa 19 387 []) h<|fun I k2 q z h=>AV<|AX<|Ad h (fun h=>AB.skip<|AX<|AB.block<|AV<|Bj h fun J s L u h=>AL<|.a 3<|.p (BK Ak s C9 Ch rfl)<|.a 1<|.p (wZ (d:=f) (n:TS Tryz.prog Ak DT f m) u rfl)<|.aZ<|Ad h Bh fun h=>AB.skip<|Aw<|.a 2<|.nil<|q _ _ (Aa 19 387 []) h) fun h=>Ed
def aDl (f:AY) (h:Int):Option Bool:=some (f.Id==h)
def anH (aS c0 r) (h:aDl aS c0=some r):BD 137 [DI aS,.d (.ref (AZ c0).cells 0)] [] (Ae r) []:=Ap.aI Tryz.func137 rfl<|ay
def aC0 (h:Aj) (f:Int):Option Int:=(iq h (fun a0=>aDl a0 f)).bind fun j=>some j
def acB (ak fG r) (h:aC0 ak fG=some r):BD 95 [BH ak,AU fG] [] (AU r) []:=Ap.aI Tryz.func95 rfl<|AV<|AP h fun j f h=>AL<|.a 1<|.conv _ (U4 (cs:=Ai (AZ fG)) 0 A8 A8)<|.p (x:=.d (.fn (.func 137) [] [(.ref (AZ fG).cells 0)])) (Vh [(.ref (AZ fG).cells 0)] rfl rfl)<|.ca (aKH ak (fun a0=>aDl a0 fG) (.fn (.func 137) [] [(.ref (AZ fG).cells 0)]) ⟨137,[(.ref (AZ fG).cells 0)],rfl,apG,fun a0 b m=>anH a0 fG b m⟩ j f)<|.aW<|CV
def aK1 (f:Aj):Option Aj:=(CZ 376 [] f).bind fun h=>some h
def aqJ (dX r) (h:aK1 dX=some r):BD 96 [BH dX] [] (.aO 0) [(Cj r)]:=by
 refine Ap.aI Tryz.func96 rfl ?_;unfold aK1 at h;refine AL<|.e [(Cj [])] (CB 55 29 rfl)<|.aZ<|AX<|ou (x:=.tmp 3) (t':=22) (d:=4) (es:=List.map Ak dX) 1 rfl (.a 1<|.nil _) A8 A8 A8 C9 A8 ?_;intro b f;cases b
 ·clear f;refine Np A8<|AB.skip ?_;obtain⟨m,j,h⟩:=DN h;refine AL<|.e [(Cj []),(Cj [])] (G8 Ip MX [] rfl)<|.a 1<|.e [(Cj []),.dead,(Cj m)] (DU (k:=1) Ak j Ip A8 (fun _=>rfl) Bd rfl)<|.aM 1 ?_;rw[←CJ h];exact .ret (EH [(2,true)])
 replace f:=xA f;replace h:some []=some r:=oU
 refine RY A8<|AL<|.e [(Cj []),(Cj [])] (CB 55 29 rfl)<|.aZ ?_;rw[←CJ h];exact .ret (EH [(1,true)])
def ig (f:AY):Option Bool:=(vH f).bind fun h=>some (h==f.Hash)
def aAc (aS r) (h:ig aS=some r):BD 97 [DI aS] [] (Ae r) []:=Ap.aI Tryz.func97 rfl<|AV<|AP h fun j f h=>Ep A8 A8 A8 (.a 1<|.ca (abx aS j f)<|.a 4<|.nil _)<|CV
def aaf (f:List AY) (h:Int) (j:List AY):Option Aj:=aIG f h j
def afW (f:List AY) (j:Int) (m r:List AY) (h:aaf f j m=some r):BD 98 [.aO 0,AU j,.aO 1] [(Cj f),(Cj m)] (.aO 2) [.dead,.dead,(Cj r)]:=
 at1 (fun _=>rfl) f j m r h
def aKh (f:Aj):Option (Aj×Int):=some (f,0)
def aLY (j:(Int→Option (Aj×Int))) (f:Int) (m:Aj) (h:AY) (n:Bool):Option (Aj×Int):=(bif n then j (BA (f+1))else(aaf m f [h]).bind fun q=>some (q,0))
def arQ (j:Aj) (m:Aj) (f:AY) (n:(Int→Option (Aj×Int))):Int→Option (Aj×Int):=fun h=>(bif decide (h<(j.length:Int))then(Aq j h).bind fun q=>aLY n h m f (decide (q.Id<f.Id))else aLY n h m f false)
def ajq (f:Aj) (j:Aj) (h:AY):Int→Option (Aj×Int):=bD (arQ f j h) Az
def asX (f:Aj) (h:AY) (k2:(Int→Option (Aj×Int))):Int→Option (Aj×Int):=fun n=>(bif decide (n<(f.length:Int))then(Aq f n).bind fun I=>(bif (!(I.Room.toList==h.Room.toList))then some ([],13)else k2 (BA (n+1)))else(aC0 f h.Id).bind fun m=>(bif decide (m<0)then some (decide ((f.length:Int)≥2000))else some false).bind fun J=>(bif J then some ([],29)else(aK1 f).bind fun j=>(bif decide (m≥0)then(ig h).bind fun q=>(bif q then(Aq f m).bind fun s=>(ig s).bind fun u=>some (!u)else some false).bind fun z=>(bif z then(Aq j m).bind fun L=>aKh (j.set (m).toNat h)else aKh j)else ajq f j h 0)))
def amj (f:Aj) (h:AY):Int→Option (Aj×Int):=bD (asX f h) Az
def aCR (f:Aj) (h:AY):Option (Aj×Int):=amj f h 0
def aI5 (ak fA r) (h:aCR ak fA=some r):BD 52 [BH ak,DI fA] [] (.fP [.aO 0,AU r.2]) [(Cj r.1)]:=Ap.aI Tryz.func52 rfl<|AL<|.a 1<|.e [.box (Ai (Ak fA)),(Cj [])] (CB 55 29 rfl)<|.aW<|AX<|AL<|.a 1<|.p (BN Ak ak C9 rfl)<|.aW<|AB.block<|Df (fun v1=>⟨BF 73 [(0,BH ak),(3,.ptr 0 0),(10,BH ak),(11,AU (ak.length:Int)),(12,AU v1)],[.box (Ai (Ak fA))],0⟩) _ _ _ (Aa 73 7177 [(0,true)]) h<|fun J30 k2 hk2 v1 h=>AV<|AX<|Ad h (fun h=>AB.skip<|AX<|AB.block<|AP h fun x4 hx4 h=>AL<|.p (BK Ak hx4 C9 Ch rfl)<|.aW<|AV<|Ad h (fun h=>AL<|.e [.box (Ai (Ak fA)),.box (Ai (Ak x4)),(Cj [])] (CB 55 29 rfl)<|.aW<|JX) fun h=>AB.skip<|Aw<|.a 2<|.nil<|hk2 _ _ (Aa 73 7177 [(0,true)]) h) fun h=>AB.exit<|AP h fun x6 hx6 h=>AL<|.a 3<|.ca (acB ak fA.Id x6 hx6)<|.aW<|AX<|AL<|.a 2<|AP h fun x7 hx7 h=>.mg 28 4 (Ae x7) (.bi hx7 (fun h=>.a 1<|.p (BN Ak ak C9 rfl)<|.aW<|CU))<|.aZ<|Ad h (fun h=>AL<|.e [.box (Ai (Ak fA)),(Cj [])] (CB 55 29 rfl)<|.aW<|Jb) fun h=>AB.skip<|AP h fun f z h=>AL<|.a 1<|.e (x:=.aO 1) [.box (Ai (Ak fA)),(Cj f)] (Jp [BH ak] (aqJ ak f z) rfl)<|.aW<|AX<|AV<|Ad h (fun h=>CY (fun s=>∃(q:(List AY)),Bz s ⟨BF 73 [(9,.aO 0)],[(Cj q)],0⟩∧aKh q=some r) (by rintro s ⟨q,hs,h⟩;exact CS hs<|AV<|Oq)<|fun I=>AP h fun x14 J h=>AL<|.a 1<|.ca (aAc fA x14 J)<|.a 1<|AP h fun x15 L h=>.mg 40 6 (Ae x15) (DC L (fun e i=>by subst e;have h:=i;exact Bj h fun x17 M x18 O h=>.a 2<|.p (BK Ak M C9 Ch rfl)<|.a 1<|.ca (aAc x17 x18 O)<|.aW<|CU))<|.aZ<|Ad h (fun h=>AP h fun xW n h=>Aw<|.a 3<|.p (Gj (e':=55) (kd:=.i64) Ak n (k:=1) A8 C9 Ch rfl)<|.e [.box (Ai (Ak fA)),(Cj (f.set (x6).toNat fA))] (Y6 (e:=55) (size:=29) (v:=(DI fA)) (k:=1) (i:=(x6).toNat) (off:=0) (a':=fA) Ak A8 (Fb n).2 A8 (Ch).size A8 (Dw A8) A8 (fun _=>rfl) rfl)<|.nil<|I _ ⟨(f.set (x6).toNat fA),Aa 73 512 [(1,true)],h⟩) fun h=>AB.skip<|I _ ⟨f,Aa 73 512 [(1,true)],h⟩) fun h=>AB.skip<|AV<|AX<|AB.block<|Df (fun j=>⟨BF 73 [(0,BH ak),(3,.ptr 0 0),(8,AU j),(9,.aO 1)],[.box (Ai (Ak fA)),(Cj f)],0⟩) _ _ _ (Aa 73 777 [(0,true),(1,true)]) h<|fun J29 k22 S j h=>AX<|CY (fun s=>∃(u:Bool),Bz s ⟨BF 73 [(0,BH ak),(3,.ptr 0 0),(8,AU j),(9,.aO 1),(65,Ae u)],[.box (Ai (Ak fA)),(Cj f)],0⟩∧aLY k22 j f fA u=some r) (by rintro s ⟨u,hs,h⟩;exact CS hs<|Ad h (fun h=>AB.skip<|AB.block<|Aw<|.a 3<|.nil<|S _ _ (Aa 73 777 [(0,true),(1,true)]) h) fun h=>AB.exit<|AP h fun U Y h=>AL<|.a 3<|.e [.box (Ai (Ak fA)),(Cj f),(Cj [fA])] (G8 Ip MX [Ak fA] rfl)<|.e (x:=.aO 3) [.box (Ai (Ak fA)),.dead,.dead,(Cj U)] (Dh [.ent 1,.ent 2] [.aO 1,AU j,.aO 2] (afW f j [fA] U Y) rfl (hE:=(LH A8<|LH A8<|trivial)))<|.aW<|rX)<|fun Z=>Eb h (fun m h=>AP h fun x28 hx28 h=>AB.draw A8 A8 A8 (.a 2<|.p (BN Ak ak C9 rfl)<|.a 1<|.c (BX some m)<|.a 2<|.p (BK Ak hx28 C9 Ch rfl)<|.a 6<|.nil _)<|Z _ ⟨(decide (x28.Id<fA.Id)),Aa 73 36893488147419104009 [(0,true),(1,true)],h⟩) fun m h=>AB.draw A8 A8 A8 (.a 2<|.p (BN Ak ak C9 rfl)<|.a 1<|.c (BX some m)<|.a 9<|.nil _)<|Z _ ⟨false,Aa 73 36893488147419104009 [(0,true),(1,true)],h⟩
def aRv :AY:={ Et with Room:=aLI,bG:=tK,Kind:=1,State:=true,Time:=1,Depth:=1 }
def aPW  :Option Aj:=(yx aRv aDU).bind fun f=>(yx ({ Et with Room:=aLI,bG:=tK,Kind:=2,State:=true,Key:=tK,Time:=2,Depth:=2,bK:=[f.Id],bM:=[f.Id],Content:={ EF with N:=3 } }) aDU).bind fun h=>(yx ({ Et with Room:=aLI,bG:=ar9,Kind:=11,Time:=3,Depth:=3,bK:=[h.Id],bM:=[f.Id],Content:={ EF with Text:=ah6 } }) aS3).bind fun j=>(aCR [] f).bind fun m=>(aCR m.1 h).bind fun n=>(aCR n.1 j).bind fun q=>some q.1
def ag3  (r:(List AY)) (h:aPW=some r):BD 70 [] [] (BH r) []:=Ap.aI Tryz.func70 rfl<|AV<|AP h fun f z h=>AL<|.a 1<|.ca (aKu aRv aDU f z)<|.aW<|AP h fun j I h=>AL<|.a 2<|.p (Dj DV zero3 [AZ f.Id] rfl)<|.a 2<|.p (Dj DV zero3 [AZ f.Id] rfl)<|.a 2<|.ca (aKu _ aDU j I)<|.aW<|AP h fun m J h=>AL<|.a 2<|.p (Dj DV zero3 [AZ j.Id] rfl)<|.a 2<|.p (Dj DV zero3 [AZ f.Id] rfl)<|.a 2<|.ca (aKu _ aS3 m J)<|.aW<|AP h fun n L h=>AL<|.a 1<|.e (x:=.fP [.aO 3,AU n.2]) [.box (Ai (Ak f)),.box (Ai (Ak j)),.box (Ai (Ak m)),(Cj n.1)] (Dh [] [.d (.lit (.slice none 0 0)),DI f] (aI5 [] f n L) rfl)<|.a 2<|.conv _ (Ic (e:=55) (s:=29) 3 (xs:=List.map Ak n.1) A8)<|.aW<|AP h fun q M h=>AL<|.a 2<|.e (x:=.fP [.aO 4,AU q.2]) [.box (Ai (Ak f)),.box (Ai (Ak j)),.box (Ai (Ak m)),.dead,(Cj q.1)] (Dh [] [BH n.1,DI j] (aI5 n.1 j q M) rfl)<|.a 2<|.conv _ (Ic (e:=55) (s:=29) 4 (xs:=List.map Ak q.1) A8)<|.aW<|AP h fun u O h=>AL<|.a 2<|.e (x:=.fP [.aO 5,AU u.2]) [.box (Ai (Ak f)),.box (Ai (Ak j)),.box (Ai (Ak m)),.dead,.dead,(Cj u.1)] (Dh [] [BH q.1,DI m] (aI5 q.1 m u O) rfl)<|.a 2<|.conv _ (Ic (e:=55) (s:=29) 5 (xs:=List.map Ak u.1) A8)<|.aW<|AV<|CV
def ZY (f:Int):Option Bool:=(bif decide (f≥1)then some (decide (f≤10))else some false).bind fun h=>some h
def kC (dR r) (h:ZY dR=some r):BD 182 [AU dR] [] (Ae r) []:=Ap.aI Tryz.func182 rfl<|AV<|AL<|.a 2<|AP h fun j f h=>.mg 5 3 (Ae j) (.bi f)<|.aW<|CV
def aON (f:ByteArray) (h:ByteArray):Option (ByteArray×ByteArray×Bool):=(aGS f h).bind fun j=>(bif decide (j≥0)then(MR f 0 j).bind fun m=>(MR f (BA (j+(h.size:Int))) ((f).size)).bind fun n=>some (m,n,true)else some (f,Bf,false))
def aow (dX Zg r) (h:aON dX Zg=some r):BD 235 [CP dX,CP Zg] [] (.fP [CP r.1,CP r.2.1,Ae r.2.2]) []:=Ap.aI Tryz.func235 rfl<|AV<|AX<|AP h fun q f h=>AL<|.a 2<|.ca (aeg dX Zg q f)<|.aW<|AV<|Ad h (fun h=>Bj h fun s j u m h=>Ep A8 A8 A8 (.a 2<|.p (je j (fun _=>rfl) jB Fz rfl)<|.a 5<|.p (je m jB (fun _=>rfl) Fz rfl)<|.a 3<|.nil _)<|CV) fun h=>Lj
def strings_Cut (h:ByteArray) (f:ByteArray):Option (ByteArray×ByteArray×Bool):=(aON h f).bind fun j=>some (j.1,j.2.1,j.2.2)
def ape (dX Zg r) (h:strings_Cut dX Zg=some r):BD 172 [CP dX,CP Zg] [] (.fP [CP r.1,CP r.2.1,Ae r.2.2]) []:=Ap.aI Tryz.func172 rfl<|AV<|AP h fun j f h=>AL<|.a 2<|.ca (aow dX Zg j f)<|.aW<|CV
def vw (f:Int):Option Bool:=(bif (f==95)then some true else some (f==46)).bind fun h=>(bif h then some true else some (f==45)).bind fun j=>(bif j then some true else some (f==61)).bind fun m=>some m
def anP (dV r) (h:vw dV=some r):BD 237 [.d (D8 dV)] [] (Ae r) []:=Ap.aI Tryz.func237 rfl<|AV<|AL<|.a 2<|AP h fun n f h=>.mg 5 3 (Ae n) (.bi f)<|.a 1<|AP h fun q j h=>.mg 10 2 (Ae q) (DC j)<|.a 1<|AP h fun s m h=>.mg 14 2 (Ae s) (DC m)<|.aW<|CV
def dQ (f:Int):Option Bool:=(bif decide (f≥97)then some (decide (f≤122))else some false).bind fun h=>(bif h then some true else(bif decide (f≥48)then some (decide (f≤57))else some false).bind fun j=>some j).bind fun m=>some m
def aHk (dV r) (h:dQ dV=some r):BD 239 [.d (D8 dV)] [] (Ae r) []:=Ap.aI Tryz.func239 rfl<|AV<|AL<|.a 2<|AP h fun n f h=>.mg 5 3 (Ae n) (.bi f)<|.a 1<|AP h fun q j h=>.mg 10 6 (Ae q) (DC j (k2:=fun e i=>aRj))<|.aW<|CV
def aMp (h:ByteArray) (f:(Int→Option Bool)) (q:(Int→Option Bool)):Int→Option Bool:=fun j=>(bif decide (j<(h.size:Int))then(Gh h j).bind fun s=>(dQ s).bind fun u=>(bif (!u)then(Gh h j).bind fun m=>(f m).bind fun n=>some (!n)else some false).bind fun z=>(bif z then some false else q (BA (j+1)))else some true)
def aMj (h:ByteArray) (f:(Int→Option Bool)):Int→Option Bool:=bD (aMp h f) Az
def aA (h:ByteArray) (f:(Int→Option Bool)):Option Bool:=(bif decide ((h.size:Int)<1)then some true else some (decide ((h.size:Int)>32))).bind fun j=>(bif j then some false else aMj h f 0)
def aSa (n:ByteArray) (j:(Int→Option Bool)) (f:D) (m:TS Tryz.prog D8 DT f j) (r:Bool) (h:aA n j=some r):BD 236 [CP n,.d f] [] (Ae r) []:=Ap.aI Tryz.func236 rfl<|AV<|AX<|AL<|.a 3<|AP h fun O u h=>.mg 9 4 (Ae O) (.bi u)<|.aZ<|Ad h Bh fun h=>AB.skip<|AX<|AV<|AB.block<|Df (fun M=>⟨BF 33 [(0,CP n),(1,.d f),(15,AU (n.size:Int)),(16,AU M)],[],0⟩) _ _ _ (Aa 33 98307 []) h<|fun S k5 z M h=>AV<|AX<|Ad h (fun h=>AB.skip<|AX<|AB.block<|AV<|Bj h fun U I Y J h=>AL<|.a 2<|.p (Iz (k:=.i64) I Fz rfl)<|.ca (aHk U Y J)<|.a 1<|AP h fun Z L h=>.mg 24 7 (Ae Z) (.bi L (fun h=>Bj h fun x11 q x12 s h=>.a 3<|.p (Iz (k:=.i64) q Fz rfl)<|.p (wZ (d:=f) (m:TS Tryz.prog D8 DT f j) s rfl)<|.aW<|CU))<|.aZ<|Ad h Bh fun h=>AB.skip<|Aw<|.a 2<|.nil<|z _ _ (Aa 33 98307 []) h) fun h=>Ed
def aGY (f:ByteArray):Option Bool:=(aA f (fun a0=>vw a0)).bind fun h=>some h
def aiP (dX r) (h:aGY dX=some r):BD 173 [CP dX] [] (Ae r) []:=Ap.aI Tryz.func173 rfl<|AV<|AP h fun j f h=>AL<|.a 1<|.ca (aSa dX (fun a0=>vw a0) (.fn (.func 237) [] []) ⟨237,[],rfl,akG,fun a0 b m=>anP a0 b m⟩ j f)<|.aW<|CV
def vG (f:Int):Option Bool:=(bif (f==46)then some true else some (f==45)).bind fun h=>some h
def akp (dV r) (h:vG dV=some r):BD 238 [.d (D8 dV)] [] (Ae r) []:=Ap.aI Tryz.func238 rfl<|AV<|AL<|.a 2<|AP h fun j f h=>.mg 5 3 (Ae j) (.bi f)<|.aW<|CV
def aBr (f:ByteArray):Option Bool:=(aA f (fun a0=>vG a0)).bind fun h=>(bif h then(Gh f 0).bind fun j=>(dQ j).bind fun m=>some m else some false).bind fun n=>(bif n then(Gh f (BA ((f.size:Int)-1))).bind fun q=>(dQ q).bind fun s=>some s else some false).bind fun u=>some u
def aqt (dX r) (h:aBr dX=some r):BD 174 [CP dX] [] (Ae r) []:=Ap.aI Tryz.func174 rfl<|AV<|AP h fun z f h=>AL<|.a 1<|.ca (aSa dX (fun a0=>vG a0) (.fn (.func 238) [] []) ⟨238,[],rfl,alk,fun a0 b I=>akp a0 b I⟩ z f)<|.a 1<|AP h fun J j h=>.mg 6 3 (Ae J) (DC j (fun e i=>by subst e;have h:=i;exact Bj h fun L m M n h=>.a 1<|.p (Iz (k:=.i64) m Fz rfl)<|.ca (aHk L M n)<|.aW<|CU))<|.a 1<|AP h fun O q h=>.mg 11 6 (Ae O) (DC q (fun e i=>by subst e;have h:=i;exact Bj h fun S s U u h=>.a 4<|.p (Iz (k:=.i64) s Fz rfl)<|.ca (aHk S U u)<|.aW<|CU))<|.aW<|CV
def eK (f:ByteArray) (h:ByteArray):Option (ByteArray×ByteArray×Bool):=(bif (f.toList==Bf.toList)then some true else(Gh f 0).bind fun s=>(strings_IndexByte h s).bind fun u=>some (decide (u<0))).bind fun z=>(bif z then some (Bf,Bf,false)else(MR f 1 ((f).size)).bind fun I=>(strings_Cut I gZ).bind fun j=>(bif (!j.2.2)then some true else(aGY j.1).bind fun m=>some (!m)).bind fun J=>(bif J then some true else(aBr j.2.1).bind fun n=>some (!n)).bind fun q=>(bif q then some (Bf,Bf,false)else some (j.1,j.2.1,true)))
def adJ (BO alj r) (h:eK BO alj=some r):BD 121 [CP BO,CP alj] [] (.fP [CP r.1,CP r.2.1,Ae r.2.2]) []:=Ap.aI Tryz.func121 rfl<|AV<|AX<|AL<|.a 2<|AP h fun S n h=>.mg 12 6 (Ae S) (.bi n (k2:=fun h=>Bj h fun U q Y s h=>.a 2<|.p (Iz (k:=.i64) q Fz rfl)<|.ca (aia alj U Y s)<|.aW<|CU))<|.aZ<|Ad h Bh fun h=>AB.skip<|Bj h fun Z u z I h=>AL<|.a 1<|.p (je u LP (fun _=>rfl) Fz rfl)<|.ca (ape Z gZ z I)<|.aW<|AX<|AL<|.a 2<|AP h fun x8 J h=>.mg 28 4 (Ae x8) (.bi J (k2:=fun h=>AP h fun L f h=>.a 1<|.ca (aiP z.1 L f)<|.aW<|CU))<|.a 1<|AP h fun M j h=>.mg 34 3 (Ae M) (DC j (k2:=fun e i=>by subst e;have h:=i;exact AP h fun O m h=>.a 1<|.ca (aqt z.2.1 O m)<|.aW<|CU))<|OL
def qU (h:ByteArray) (f:ByteArray):Option Int:=(eK h f).bind fun j=>(bif (!j.2.2)then some 3 else some 0)
def aSh (dX YE r) (h:qU dX YE=some r):BD 386 [CP dX,CP YE] [] (AU r) []:=Ap.aI Tryz.func386 rfl<|AV<|AX<|AP h fun j f h=>AL<|.a 2<|.ca (adJ dX YE j f)<|.aW<|Z5
def qM (f:ByteArray):Option Int:=(qU f rY).bind fun h=>some h
def adt (dX r) (h:qM dX=some r):BD 354 [CP dX] [] (AU r) []:=Ap.aI Tryz.func354 rfl<|AV<|AP h fun j f h=>AL<|.a 1<|.ca (aSh dX rY j f)<|.aW<|CV
def ZW (f:ByteArray):Option Int:=(qU f uo).bind fun h=>some h
def aBR (dX r) (h:ZW dX=some r):BD 355 [CP dX] [] (AU r) []:=Ap.aI Tryz.func355 rfl<|AV<|AP h fun j f h=>AL<|.a 1<|.ca (aSh dX uo j f)<|.aW<|CV
def aIk (f:ByteArray) (k2:(Int→Option Bool)):Int→Option Bool:=fun h=>(bif decide (h<(f.size:Int))then(Gh f h).bind fun j=>(bif decide (j<33)then some true else(Gh f h).bind fun m=>some (decide (m>126))).bind fun n=>(bif n then some false else k2 (BA (h+1)))else(bif decide ((f.size:Int)≥1)then some (decide ((f.size:Int)≤32))else some false).bind fun q=>some q)
def aSO (f:ByteArray):Int→Option Bool:=bD (aIk f) Az
def aEv (f:ByteArray):Option Bool:=aSO f 0
def atE (amH r) (h:aEv amH=some r):BD 356 [CP amH] [] (Ae r) []:=Ap.aI Tryz.func356 rfl<|AV<|AX<|AV<|AB.block<|Df (fun s=>⟨BF 28 [(0,CP amH),(5,AU (amH.size:Int)),(6,AU s)],[],0⟩) _ _ _ (Aa 28 97 []) h<|fun u k2 f s h=>AV<|AX<|Ad h (fun h=>AB.skip<|AX<|AB.block<|AV<|AP h fun J j h=>AL<|.a 2<|.p (Iz (k:=.i64) j Fz rfl)<|.a 1<|AP h fun z m h=>.mg 13 5 (Ae z) (.bi m (k2:=fun h=>AP h fun L n h=>.a 2<|.p (Iz (k:=.i64) n Fz rfl)<|.aW<|CU))<|.aZ<|Ad h Bh fun h=>AB.skip<|Aw<|.a 2<|.nil<|f _ _ (Aa 28 97 []) h) fun h=>AB.exit<|AL<|.a 3<|AP h fun I q h=>.mg 23 4 (Ae I) (.bi q)<|.aW<|CV
def aD8 (f:AY):Option Bool:=(qM f.Room).bind fun h=>(bif (h != 0)then some true else(ZW f.bG).bind fun j=>some (j != 0)).bind fun m=>(bif m then some false else(bif (f.Kind==2)then(ZW f.Key).bind fun n=>some (n==0)else(bif (f.Kind==9)then(aEv f.Key).bind fun q=>some q else some true)))
def amx (aS r) (h:aD8 aS=some r):BD 290 [DI aS] [] (Ae r) []:=Ap.aI Tryz.func290 rfl<|AV<|AX<|AP h fun s f h=>AL<|.a 2<|.ca (adt aS.Room s f)<|.a 1<|AP h fun u j h=>.mg 7 5 (Ae u) (.bi j (k2:=fun h=>AP h fun z m h=>.a 2<|.ca (aBR aS.bG z m)<|.aW<|CU))<|.aZ<|Ad h Bh fun h=>AB.skip<|AX<|AV<|AB.block<|AV<|Ad h (fun h=>AP h fun I n h=>AL<|.a 2<|.ca (aBR aS.Key I n)<|.aW<|CV) fun h=>AV<|Ad h (fun h=>AP h fun J q h=>AL<|.a 2<|.ca (atE aS.Key J q)<|.aW<|CV) fun h=>Lj
def aHH (f:AO) (k2:(Int→Option Bool)):Int→Option Bool:=fun h=>(bif decide (h<(f.length:Int))then(Aq f h).bind fun j=>(bif decide (j<0)then some true else(bif decide (h>0)then(Aq f (BA (h-1))).bind fun m=>some (decide (m≥j))else some false).bind fun n=>some n).bind fun q=>(bif q then some false else k2 (BA (h+1)))else some true)
def aOs (f:AO):Int→Option Bool:=bD (aHH f) Az
def xM (f:AO):Option Bool:=aOs f 0
def aQd (ak r) (h:xM ak=some r):BD 291 [Ba ak] [] (Ae r) []:=Ap.aI Tryz.func291 rfl<|AV<|AX<|AL<|.a 1<|.p (BN AZ ak Bc rfl)<|.aW<|AB.block<|Df (fun s=>⟨BF 28 [(0,Ba ak),(5,Ba ak),(6,AU (ak.length:Int)),(7,AU s)],[],0⟩) _ _ _ (Aa 28 225 []) h<|fun u k2 f s h=>AV<|AX<|Ad h (fun h=>AB.skip<|AX<|AB.block<|AP h fun J j h=>AL<|.a 1<|.p (BK AZ j Bc CG rfl)<|.aW<|AL<|.a 2<|AP h fun z m h=>.mg 14 12 (Ae z) (.bi m (k2:=fun h=>.a 2<|AP h fun I n h=>.mg 17 8 (Ae I) (.bi n (fun h=>AP h fun L q h=>.a 3<|.p (BK AZ q Bc CG rfl)<|.aW<|CU))<|.aW<|CU))<|.aZ<|Ad h Bh fun h=>AB.skip<|Aw<|.a 2<|.nil<|f _ _ (Aa 28 225 []) h) fun h=>Ed
def uH (f:Int):Option Bool:=(bif decide (f≥1)then some (decide (f≤14))else some false).bind fun h=>some h
def aQb (dR r) (h:uH dR=some r):BD 357 [AU dR] [] (Ae r) []:=Ap.aI Tryz.func357 rfl<|AV<|AL<|.a 2<|AP h fun j f h=>.mg 5 3 (Ae j) (.bi f)<|.aW<|CV
def aE3 (f:CO):Option Bool:=(bif ((f.Users.length:Int)==0)then some ((f.Kinds.length:Int)==0)else some false).bind fun n=>(bif n then some (f.User==0)else some false).bind fun q=>(bif q then some (f.Message==0)else some false).bind fun s=>(bif s then some (f.State==0)else some false).bind fun u=>(bif u then some (f.gB==0)else some false).bind fun z=>(bif z then some (f.jI==0)else some false).bind fun h=>(bif h then some (f.lV==0)else some false).bind fun j=>(bif j then some (f.gQ==0)else some false).bind fun m=>some m
def amM (ak r) (h:aE3 ak=some r):BD 387 [Gz ak] [] (Ae r) []:=Ap.aI Tryz.func387 rfl<|AV<|AL<|.a 2<|.p (BN EN ak.Users FM rfl)<|.a 1<|AP h fun M n h=>.mg 7 5 (Ae M) (.bi n (fun h=>.a 2<|.p (BN EK ak.Kinds F8 rfl)<|.aW<|CU))<|.a 1<|AP h fun O q h=>.mg 14 3 (Ae O) (DC q)<|.a 1<|AP h fun S s h=>.mg 19 3 (Ae S) (DC s)<|.a 1<|AP h fun U u h=>.mg 24 3 (Ae U) (DC u)<|.a 1<|AP h fun Y z h=>.mg 29 3 (Ae Y) (DC z)<|.a 1<|AP h fun I f h=>.mg 34 3 (Ae I) (DC f)<|.a 1<|AP h fun J j h=>.mg 39 3 (Ae J) (DC j)<|.a 1<|AP h fun L m h=>.mg 44 3 (Ae L) (DC m)<|.aW<|CV
def aCf (f:Int):Option Int:=some f
def aBl (f:CW) (j:Int):Option Int:=(aE3 f.Levels).bind fun h=>(bif (!h)then aCf (EP .or .i64 j 128)else aCf j)
def yE (f:CW) (h:Int):Option Int:=(bif decide ((f.iE.length:Int)>0)then aBl f (EP .or .i64 h 64)else aBl f h)
def aFR (f:CW) (h:Int):Option Int:=(bif decide ((f.Allow.length:Int)>0)then yE f (EP .or .i64 h 32)else yE f h)
def aFm (f:CW) (h:Int):Option Int:=(bif (!(f.Via.toList==Bf.toList))then aFR f (EP .or .i64 h 16)else aFR f h)
def zS (f:CW) (h:Int):Option Int:=(bif f.Thread then aFm f (EP .or .i64 h 8)else aFm f h)
def aBU (f:CW) (h:Int):Option Int:=(bif (f.Target != 0)then zS f (EP .or .i64 h 4)else zS f h)
def aCJ (f:CW) (h:Int):Option Int:=(bif (f.N != 0)then aBU f (EP .or .i64 h 2)else aBU f h)
def sV (f:CW):Option Int:=(bif (!(f.Text.toList==Bf.toList))then aCJ f (EP .or .i64 0 1)else aCJ f 0)
def aaz (dV r) (h:sV dV=some r):BD 358 [GX dV] [] (AU r) []:=Ap.aI Tryz.func358 rfl<|AV<|AV<|CY (fun s=>∃(j:Int),Bz s ⟨BF 47 [(1,.ptr 0 0),(3,AU j)],[.box (Ai (Ec dV))],0⟩∧aCJ dV j=some r) (by rintro s ⟨j,f,h⟩;exact CS f<|CY (fun s=>∃(m:Int),Bz s ⟨BF 47 [(1,.ptr 0 0),(3,AU m)],[.box (Ai (Ec dV))],0⟩∧aBU dV m=some r) (by rintro s ⟨m,f,h⟩;exact CS f<|CY (fun s=>∃(n:Int),Bz s ⟨BF 47 [(1,.ptr 0 0),(3,AU n)],[.box (Ai (Ec dV))],0⟩∧zS dV n=some r) (by rintro s ⟨n,f,h⟩;exact CS f<|CY (fun s=>∃(q:Int),Bz s ⟨BF 47 [(1,.ptr 0 0),(3,AU q)],[.box (Ai (Ec dV))],0⟩∧aFm dV q=some r) (by rintro s ⟨q,f,h⟩;exact CS f<|CY (fun s=>∃(z:Int),Bz s ⟨BF 47 [(1,.ptr 0 0),(3,AU z)],[.box (Ai (Ec dV))],0⟩∧aFR dV z=some r) (by rintro s ⟨z,f,h⟩;exact CS f<|CY (fun s=>∃(I:Int),Bz s ⟨BF 47 [(1,.ptr 0 0),(3,AU I)],[.box (Ai (Ec dV))],0⟩∧yE dV I=some r) (by rintro s ⟨I,f,h⟩;exact CS f<|CY (fun s=>∃(J:Int),Bz s ⟨BF 47 [(1,.ptr 0 0),(3,AU J)],[.box (Ai (Ec dV))],0⟩∧aBl dV J=some r) (by rintro s ⟨J,f,h⟩;exact CS f<|CY (fun s=>∃(v8:Int),Bz s ⟨BF 47 [(3,AU v8)],[],0⟩∧aCf v8=some r) (by rintro s ⟨v8,f,h⟩;exact CS f<|AV<|CV)<|fun K9=>AP h fun x10 L h=>AL<|.a 2<|.ca (amM dV.Levels x10 L)<|.aW<|Ad h (fun h=>Aw<|.a 1<|.p (WA (k:=.i64) (u:=J) (v:=128) rfl)<|.a 1<|.nil<|K9 _ ⟨(EP .or .i64 J 128),Aa 47 8 [],h⟩) fun h=>AB.skip<|K9 _ ⟨J,Aa 47 8 [],h⟩)<|fun M=>AL<|.a 2<|.p (BN Ci dV.iE FW rfl)<|.aW<|Ad h (fun h=>Aw<|.a 1<|.p (WA (k:=.i64) (u:=I) (v:=64) rfl)<|.a 1<|.nil<|M _ ⟨(EP .or .i64 I 64),Aa 47 10 [(0,true)],h⟩) fun h=>AB.skip<|M _ ⟨I,Aa 47 10 [(0,true)],h⟩)<|fun O=>AL<|.a 2<|.p (BN Ci dV.Allow FW rfl)<|.aW<|Ad h (fun h=>Aw<|.a 1<|.p (WA (k:=.i64) (u:=z) (v:=32) rfl)<|.a 1<|.nil<|O _ ⟨(EP .or .i64 z 32),Aa 47 10 [(0,true)],h⟩) fun h=>AB.skip<|O _ ⟨z,Aa 47 10 [(0,true)],h⟩)<|fun S=>AV<|Ad h (fun h=>Aw<|.a 1<|.p (WA (k:=.i64) (u:=q) (v:=16) rfl)<|.a 1<|.nil<|S _ ⟨(EP .or .i64 q 16),Aa 47 10 [(0,true)],h⟩) fun h=>AB.skip<|S _ ⟨q,Aa 47 10 [(0,true)],h⟩)<|fun U=>AV<|Ad h (fun h=>Aw<|.a 1<|.p (WA (k:=.i64) (u:=n) (v:=8) rfl)<|.a 1<|.nil<|U _ ⟨(EP .or .i64 n 8),Aa 47 10 [(0,true)],h⟩) fun h=>AB.skip<|U _ ⟨n,Aa 47 10 [(0,true)],h⟩)<|fun Y=>AV<|Ad h (fun h=>Aw<|.a 1<|.p (WA (k:=.i64) (u:=m) (v:=4) rfl)<|.a 1<|.nil<|Y _ ⟨(EP .or .i64 m 4),Aa 47 10 [(0,true)],h⟩) fun h=>AB.skip<|Y _ ⟨m,Aa 47 10 [(0,true)],h⟩)<|fun K22=>AV<|Ad h (fun h=>Aw<|.a 1<|.p (WA (k:=.i64) (u:=j) (v:=2) rfl)<|.a 1<|.nil<|K22 _ ⟨(EP .or .i64 j 2),Aa 47 10 [(0,true)],h⟩) fun h=>AB.skip<|K22 _ ⟨j,Aa 47 10 [(0,true)],h⟩)<|fun Z=>AV<|Ad h (fun h=>Aw<|.a 1<|.p (WA (k:=.i64) (u:=0) (v:=1) rfl)<|.a 1<|.nil<|Z _ ⟨(EP .or .i64 0 1),Aa 47 10 [(0,true)],h⟩) fun h=>AB.skip<|Z _ ⟨0,Aa 47 10 [(0,true)],h⟩
def aKr (f:ByteArray) (j:(Int→Option Int)):Int→Option Int:=fun h=>(bif decide (h<(f.size:Int))then(Gh f h).bind fun m=>(bif decide (m<33)then some true else(Gh f h).bind fun n=>some (decide (n>126))).bind fun q=>(bif q then some 3 else j (BA (h+1)))else some 0)
def aJy (f:ByteArray):Int→Option Int:=bD (aKr f) Az
def lN (f:ByteArray):Option Int:=(bif (f.toList==Bf.toList)then some 9 else(bif decide ((f.size:Int)>64)then some 7 else aJy f 0))
def aTl (SS r) (h:lN SS=some r):BD 388 [CP SS] [] (AU r) []:=Ap.aI Tryz.func388 rfl<|AV<|AX<|AB.block<|AV<|Ad h Bh fun h=>AV<|Ad h Bh fun h=>AB.skip<|AX<|AV<|AB.block<|Df (fun q=>⟨BF 27 [(0,CP SS),(12,AU (SS.size:Int)),(13,AU q)],[],0⟩) _ _ _ (Aa 27 12289 []) h<|fun s z f q h=>AV<|AX<|Ad h (fun h=>AB.skip<|AX<|AB.block<|AV<|AP h fun I j h=>AL<|.a 2<|.p (Iz (k:=.i64) j Fz rfl)<|.a 1<|AP h fun u m h=>.mg 20 5 (Ae u) (.bi m (k2:=fun h=>AP h fun J n h=>.a 2<|.p (Iz (k:=.i64) n Fz rfl)<|.aW<|CU))<|.aZ<|Ad h Bh fun h=>AB.skip<|Aw<|.a 2<|.nil<|f _ _ (Aa 27 12289 []) h) fun h=>Ed
def aHO (f:FQ) (m:(Int→Option Int)):Int→Option Int:=fun h=>(bif decide (h<(f.length:Int))then(Aq f h).bind fun n=>(lN n).bind fun j=>(bif (j != 0)then some j else m (BA (h+1)))else some 0)
def aaQ (f:FQ):Int→Option Int:=bD (aHO f) Az
def Vr (f:FQ):Option Int:=(bif decide ((f.length:Int)>100)then some 7 else aaQ f 0)
def aQQ (ak r) (h:Vr ak=some r):BD 365 [Gq ak] [] (AU r) []:=Ap.aI Tryz.func365 rfl<|AV<|AX<|AL<|.a 1<|.p (BN Ci ak FW rfl)<|.aW<|Ad h Bh fun h=>AB.skip<|AX<|AL<|.a 1<|.p (BN Ci ak FW rfl)<|.aW<|AB.block<|Df (fun n=>⟨BF 21 [(9,Gq ak),(10,AU (ak.length:Int)),(11,AU n)],[],0⟩) _ _ _ (Aa 21 3584 []) h<|fun u z f n h=>AV<|AX<|Ad h (fun h=>AB.skip<|AX<|AB.block<|AP h fun q j h=>AL<|.p (BK Ci j FW JR rfl)<|.aW<|AP h fun s m h=>AL<|.a 1<|.ca (aTl q s m)<|.aW<|AV<|Ad h Bh fun h=>AB.skip<|Aw<|.a 2<|.nil<|f _ _ (Aa 21 3584 []) h) fun h=>Ed
def fH (f:Int):Option Bool:=(bif decide (f<(-1000))then some true else some (decide (f>1000))).bind fun h=>some h
def aGt (ahG r) (h:fH ahG=some r):BD 391 [AU ahG] [] (Ae r) []:=Ap.aI Tryz.func391 rfl<|AV<|AL<|.a 2<|AP h fun j f h=>.mg 5 3 (Ae j) (.bi f)<|.aW<|CV
def aBb (h:Gl) (j:(Int→Option Int)) (m:Int) (n:Bool):Option Int:=(bif n then some 8 else(fH h.N).bind fun f=>(bif f then some 2 else j (BA (m+1))))
abbrev MB:=List Gl
def aKn (f:MB) (n:(Int→Option Int)):Int→Option Int:=fun h=>(bif decide (h<(f.length:Int))then(Aq f h).bind fun j=>(ZW j.User).bind fun q=>(bif (q != 0)then some 3 else(bif decide (h>0)then(Aq f (BA (h-1))).bind fun m=>aBb j n h (Op.bytesLess (j.User.toList) (m.User.toList)||j.User.toList==m.User.toList)else aBb j n h false))else some 0)
def aPG (f:MB):Int→Option Int:=bD (aKn f) Az
def aAP (f:MB):Option Int:=(bif decide ((f.length:Int)>100)then some 7 else aPG f 0)
def aiS (ak r) (h:aAP ak=some r):BD 389 [NY ak] [] (AU r) []:=Ap.aI Tryz.func389 rfl<|AV<|AX<|AL<|.a 1<|.p (BN EN ak FM rfl)<|.aW<|Ad h Bh fun h=>AB.skip<|AX<|AL<|.a 1<|.p (BN EN ak FM rfl)<|.aW<|AB.block<|Df (fun z=>⟨BF 39 [(0,NY ak),(8,NY ak),(9,AU (ak.length:Int)),(10,AU z)],[],0⟩) _ _ _ (Aa 39 1793 []) h<|fun S U I z h=>AV<|AX<|Ad h (fun h=>AB.skip<|AX<|AB.block<|AP h fun j J h=>AL<|.a 1<|.p (BK EN J FM JJ rfl)<|.aW<|AB.block<|AP h fun Y L h=>AL<|.a 2<|.ca (aBR j.User Y L)<|.aW<|Ad h Bh fun h=>CY (fun s=>∃(M:Bool),Bz s ⟨BF 39 [(0,NY ak),(4,.ptr 0 0),(8,NY ak),(9,AU (ak.length:Int)),(10,AU z),(20,Ae M)],[.box (Ai (EN j))],0⟩∧aBb j U z M=some r) (by rintro s ⟨M,Z,h⟩;exact CS Z<|Ad h Bh fun h=>AP h fun O m h=>AL<|.a 2<|.ca (aGt j.N O m)<|.aW<|Ad h Bh fun h=>AB.skip<|Aw<|.a 2<|.nil<|I _ _ (Aa 39 1793 []) h)<|fun n=>Eb h (fun f h=>AP h fun q u h=>AB.draw A8 A8 A8 (.a 2<|.c (BX some f)<|.a 5<|.p (BK EN u FM JJ rfl)<|.a 5<|.nil _)<|n _ ⟨(Op.bytesLess (j.User.toList) (q.User.toList)||j.User.toList==q.User.toList),Aa 39 1050385 [(0,true)],h⟩) fun f h=>AB.draw A8 A8 A8 (.a 2<|.c (BX some f)<|.a 11<|.nil _)<|n _ ⟨false,Aa 39 1050385 [(0,true)],h⟩) fun h=>Ed
def aCr (h:Ij) (j:(Int→Option Int)) (m:Int) (n:Bool):Option Int:=(bif n then some 8 else(fH h.N).bind fun f=>(bif f then some 2 else j (BA (m+1))))
abbrev MN:=List Ij
def aNZ (f:MN) (n:(Int→Option Int)):Int→Option Int:=fun h=>(bif decide (h<(f.length:Int))then(Aq f h).bind fun j=>(uH j.Kind).bind fun q=>(bif (!q)then some 1 else(bif decide (h>0)then(Aq f (BA (h-1))).bind fun m=>aCr j n h (decide (j.Kind≤m.Kind))else aCr j n h false))else some 0)
def acD (f:MN):Int→Option Int:=bD (aNZ f) Az
def aFX (f:MN):Option Int:=(bif decide ((f.length:Int)>100)then some 7 else acD f 0)
def akx (ak r) (h:aFX ak=some r):BD 390 [NK ak] [] (AU r) []:=Ap.aI Tryz.func390 rfl<|AV<|AX<|AL<|.a 1<|.p (BN EK ak F8 rfl)<|.aW<|Ad h Bh fun h=>AB.skip<|AX<|AL<|.a 1<|.p (BN EK ak F8 rfl)<|.aW<|AB.block<|Df (fun u=>⟨BF 39 [(0,NK ak),(8,NK ak),(9,AU (ak.length:Int)),(10,AU u)],[],0⟩) _ _ _ (Aa 39 1793 []) h<|fun S U z u h=>AV<|AX<|Ad h (fun h=>AB.skip<|AX<|AB.block<|AP h fun j I h=>AL<|.a 1<|.p (BK EK I F8 JF rfl)<|.aW<|AB.block<|AP h fun Y J h=>AL<|.a 2<|.ca (aQb j.Kind Y J)<|.aW<|Ad h Bh fun h=>CY (fun s=>∃(L:Bool),Bz s ⟨BF 39 [(0,NK ak),(4,.ptr 0 0),(8,NK ak),(9,AU (ak.length:Int)),(10,AU u),(20,Ae L)],[.box (Ai (EK j))],0⟩∧aCr j U u L=some r) (by rintro s ⟨L,Z,h⟩;exact CS Z<|Ad h Bh fun h=>AP h fun M m h=>AL<|.a 2<|.ca (aGt j.N M m)<|.aW<|Ad h Bh fun h=>AB.skip<|Aw<|.a 2<|.nil<|z _ _ (Aa 39 1793 []) h)<|fun n=>Eb h (fun f h=>AP h fun O q h=>AB.draw A8 A8 A8 (.a 2<|.c (BX some f)<|.a 5<|.p (BK EK q F8 JF rfl)<|.a 5<|.nil _)<|n _ ⟨(decide (j.Kind≤O.Kind)),Aa 39 1050385 [(0,true)],h⟩) fun f h=>AB.draw A8 A8 A8 (.a 2<|.c (BX some f)<|.a 11<|.nil _)<|n _ ⟨false,Aa 39 1050385 [(0,true)],h⟩) fun h=>Ed
def ada (f:CO) (j:(Int→Option Int)):Int→Option Int:=fun h=>(bif decide (h<7)then(Aq ([f.User,f.Message,f.State,f.gB,f.jI,f.lV,f.gQ]:AO) h).bind fun m=>(fH m).bind fun n=>(bif n then some 2 else j (BA (h+1)))else some 0)
def aMX (f:CO):Int→Option Int:=bD (ada f) Az
def ZG (f:CO):Option Int:=(aAP f.Users).bind fun h=>(bif (h != 0)then some h else(aFX f.Kinds).bind fun j=>(bif (j != 0)then some j else aMX f 0))
def apS (ak r) (h:ZG ak=some r):BD 366 [Gz ak] [] (AU r) []:=Ap.aI Tryz.func366 rfl<|AV<|AX<|AP h fun u f h=>AL<|.a 2<|.ca (aiS ak.Users u f)<|.aW<|AV<|Ad h Bh fun h=>AB.skip<|AX<|AP h fun z j h=>AL<|.a 2<|.ca (akx ak.Kinds z j)<|.aW<|AV<|Ad h Bh fun h=>AB.skip<|AX<|AV<|AB.block<|Df (fun s=>⟨BF 40 [(33,.d ((MH AZ) ([ak.User,ak.Message,ak.State,ak.gB,ak.jI,ak.lV,ak.gQ]:(List Int)))),(34,AU s)],[],0⟩) _ _ _ (Aa 40 25769803776 []) h<|fun I M m s h=>AV<|AX<|Ad h (fun h=>AB.skip<|AX<|AB.block<|AP h fun J n h=>AL<|.p (aCZ (k:=.i64) AZ n aBX CG A8 rfl)<|.aW<|AP h fun L q h=>AL<|.a 1<|.ca (aGt J L q)<|.aZ<|Ad h Bh fun h=>AB.skip<|Aw<|.a 2<|.nil<|m _ _ (Aa 40 25769803776 []) h) fun h=>Ed
def aD3 (f:Bool):Option Int:=(bif f then some 7 else some 0)
def PY (h:Int) (f:CW):Option Int:=(bif (h==9)then some (!(f.Text.toList==Bf.toList))else some false).bind fun m=>(bif m then(lN f.Text).bind fun n=>some n else(bif (h==12)then some (f.Text.toList==Bf.toList)else some false).bind fun q=>(bif q then some 9 else(bif (h==12)then some (decide ((f.Text.size:Int)>32))else some false).bind fun j=>(bif j then aD3 j else aD3 (decide ((f.Text.size:Int)>400)))))
def alO (dR fD r) (h:PY dR fD=some r):BD 359 [AU dR,GX fD] [] (AU r) []:=Ap.aI Tryz.func359 rfl<|AV<|AX<|AB.block<|AL<|.a 2<|AP h fun z m h=>.mg 8 4 (Ae z) (.bi m)<|.aW<|Ad h (fun h=>AP h fun I n h=>AL<|.a 2<|.ca (aTl fD.Text I n)<|.aW<|CV) fun h=>AL<|.a 2<|AP h fun J q h=>.mg 19 4 (Ae J) (.bi q)<|.aW<|Ad h Bh fun h=>CY (fun s=>∃(u:Bool),Bz s ⟨BF 37 [(24,Ae u)],[],0⟩∧aD3 u=some r) (by rintro s ⟨u,L,h⟩;exact CS L<|Ad h Bh fun h=>Lj)<|fun K10=>AL<|.a 2<|AP h fun f j h=>.mg 27 5 (Ae f) (.bi j)<|.aW<|Ad h (fun h=>AB.skip<|K10 _ ⟨f,Aa 37 16777216 [],h⟩) fun h=>Aw<|.a 5<|.nil<|K10 _ ⟨(decide ((fD.Text.size:Int)>400)),Aa 37 16777216 [],h⟩
def wz (f:CW) (h:Int) (j:Int):Option Int:=(bif decide (f.N<h)then some true else some (decide (f.N>j))).bind fun m=>(bif m then some 2 else some 0)
def Nr (h:Int) (f:CW):Option Int:=(bif (h==2)then wz f 0 4 else(bif (h==8)then wz f 0 1000000000 else(bif (h==10)then wz f 1 10000 else(bif (h==9)then(bif (f.N==1)then some true else some (f.N==2)).bind fun j=>(bif j then some true else some (f.N==6)).bind fun m=>(bif m then some 0 else some 2)else wz f 0 3))))
def aft (dR fD r) (h:Nr dR fD=some r):BD 360 [AU dR,GX fD] [] (AU r) []:=Ap.aI Tryz.func360 rfl<|AV<|AV<|CY (fun s=>∃(m:Int) (n:Int),Bz s ⟨BF 39 [(3,.ptr 0 0),(5,AU m),(6,AU n)],[.box (Ai (Ec fD))],0⟩∧wz fD m n=some r) (by rintro s ⟨m,n,I,h⟩;exact CS I<|AX<|AL<|.a 4<|AP h fun J q h=>.mg 33 5 (Ae J) (.bi q)<|OL)<|fun K6=>AV<|AB.block<|AV<|Ad h (fun h=>Aw<|.a 1<|.nil<|K6 _ ⟨0,4,Aa 39 104 [(0,true)],h⟩) fun h=>AV<|Ad h (fun h=>Aw<|.a 1<|.nil<|K6 _ ⟨0,1000000000,Aa 39 104 [(0,true)],h⟩) fun h=>AV<|Ad h (fun h=>Aw<|.a 2<|.nil<|K6 _ ⟨1,10000,Aa 39 104 [(0,true)],h⟩) fun h=>AV<|Ad h (fun h=>AX<|AV<|AL<|.a 2<|AP h fun u f h=>.mg 21 3 (Ae u) (.bi f)<|.a 1<|AP h fun z j h=>.mg 26 2 (Ae z) (DC j)<|OL) fun h=>AB.skip<|K6 _ ⟨0,3,Aa 39 104 [(0,true)],h⟩
def RX (h:Int) (f:CW):Option Int:=(bif decide (f.Target<0)then some true else(bif (f.Target==0)then some (h != 11)else some false).bind fun j=>some j).bind fun m=>(bif m then some 2 else some 0)
def ars (dR fD r) (h:RX dR fD=some r):BD 361 [AU dR,GX fD] [] (AU r) []:=Ap.aI Tryz.func361 rfl<|AV<|AX<|AL<|.a 3<|AP h fun m f h=>.mg 8 8 (Ae m) (.bi f (k2:=fun h=>.a 3<|AP h fun n j h=>.mg 12 3 (Ae n) (.bi j)<|.aW<|CU))<|OL
def aX (h:Int) (f:CW):Option Int:=(bif f.Thread then some (f.Target==0)else some false).bind fun j=>(bif j then some 1 else some 0)
def ane (dR fD r) (h:aX dR fD=some r):BD 362 [AU dR,GX fD] [] (AU r) []:=Ap.aI Tryz.func362 rfl<|AV<|AX<|AL<|.a 2<|AP h fun j f h=>.mg 7 4 (Ae j) (.bi f)<|OL
def YN (h:Int) (f:CW):Option Int:=(bif (f.Via.toList==Bf.toList)then some 0 else(bif (f.N != 3)then some 1 else(ZW f.Via).bind fun j=>some j))
def aoA (dR fD r) (h:YN dR fD=some r):BD 363 [AU dR,GX fD] [] (AU r) []:=Ap.aI Tryz.func363 rfl<|AV<|AX<|AB.block<|AV<|Ad h Bh fun h=>AV<|Ad h Bh fun h=>AB.skip<|AP h fun j f h=>AL<|.a 2<|.ca (aBR fD.Via j f)<|.aW<|CV
def aJi (f:CW) (s:(Int→Option Int)):Int→Option Int:=fun j=>(bif decide (j<(f.Allow.length:Int))then(Aq f.Allow j).bind fun h=>(qM h).bind fun n=>(bif (n != 0)then some 3 else(bif decide (j>0)then(Aq f.Allow (BA (j-1))).bind fun m=>some (Op.bytesLess (h.toList) (m.toList)||h.toList==m.toList)else some false).bind fun q=>(bif q then some 8 else s (BA (j+1))))else some 0)
def aaF (f:CW):Int→Option Int:=bD (aJi f) Az
def VR (h:Int) (f:CW):Option Int:=(bif (h==6)then(Vr f.Allow).bind fun j=>some j else(bif decide ((f.Allow.length:Int)>0)then some (f.N != 3)else some false).bind fun m=>(bif m then some 1 else(bif decide ((f.Allow.length:Int)>100)then some 7 else aaF f 0)))
def aqF (dR fD r) (h:VR dR fD=some r):BD 364 [AU dR,GX fD] [] (AU r) []:=Ap.aI Tryz.func364 rfl<|AV<|AX<|AB.block<|AV<|Ad h (fun h=>AP h fun M q h=>AL<|.a 2<|.ca (aQQ fD.Allow M q)<|.aW<|CV) fun h=>AL<|.a 2<|.p (BN Ci fD.Allow FW rfl)<|.a 1<|AP h fun O s h=>.mg 18 4 (Ae O) (.bi s)<|.aW<|Ad h Bh fun h=>AL<|.a 2<|.p (BN Ci fD.Allow FW rfl)<|.aW<|Ad h Bh fun h=>AB.skip<|AX<|AL<|.a 2<|.p (BN Ci fD.Allow FW rfl)<|.aW<|AB.block<|Df (fun L=>⟨BF 52 [(3,.ptr 0 0),(29,Gq fD.Allow),(30,AU (fD.Allow.length:Int)),(31,AU L)],[.box (Ai (Ec fD))],0⟩) _ _ _ (Aa 52 3758096392 [(0,true)]) h<|fun S Y u L h=>AV<|AX<|Ad h (fun h=>AB.skip<|AX<|AB.block<|AP h fun z f h=>AL<|.a 1<|.p (BK Ci f FW JR rfl)<|.aW<|AX<|AP h fun I j h=>AL<|.a 1<|.ca (adt z I j)<|.aW<|Ad h Bh fun h=>AB.skip<|AL<|.a 2<|AP h fun J m h=>.mg 41 9 (Ae J) (.bi m (fun h=>AP h fun U n h=>.a 5<|.p (BK Ci n FW JR rfl)<|.aW<|CU))<|.aZ<|Ad h Bh fun h=>AB.skip<|Aw<|.a 2<|.nil<|u _ _ (Aa 52 3758096392 [(0,true)]) h) fun h=>Ed
def aDa (n:Nat) (a0:Int) (f:CW):Option Int:=bif n==359 then PY a0 f else bif n==360 then Nr a0 f else bif n==361 then RX a0 f else bif n==362 then aX a0 f else bif n==363 then YN a0 f else bif n==364 then VR a0 f else none
def ano (n a0 f r) (h:aDa n a0 f=some r):XG Tryz.prog AZ Ec AZ (ade n) (aDa n):=by
 by_cases m:n=359
 ·subst m;exact⟨359,[],rfl,aiL,fun a0 f c j=>alO a0 f c j⟩
 by_cases q:n=360
 ·subst q;exact⟨360,[],rfl,aee,fun a0 f c j=>aft a0 f c j⟩
 by_cases s:n=361
 ·subst s;exact⟨361,[],rfl,alN,fun a0 f c j=>ars a0 f c j⟩
 by_cases u:n=362
 ·subst u;exact⟨362,[],rfl,ajR,fun a0 f c j=>ane a0 f c j⟩
 by_cases z:n=363
 ·subst z;exact⟨363,[],rfl,anC,fun a0 f c j=>aoA a0 f c j⟩
 by_cases I:n=364
 ·subst I;exact⟨364,[],rfl,aoB,fun a0 f c j=>aqF a0 f c j⟩
 rw[aDa,jJ m,jJ q,jJ s,jJ u,jJ z,jJ I]at h;have h:(none:Option Int)=some r:=h;cases h
def ZR :(List NW):=[(⟨1,359⟩:NW),(⟨2,360⟩:NW),(⟨4,361⟩:NW),(⟨8,362⟩:NW),(⟨16,363⟩:NW),(⟨32,364⟩:NW)]
def aJr (f:(Int→CW→Option Int)) (h:Int) (j:CW):Option Int:=f (BA (h+1)) j
def XY (s:Int) (j:Int) (m:(Int→CW→Option Int)):Int→CW→Option Int:=fun h f=>(bif decide (h<(ZR.length:Int))then(Aq ZR h).bind fun n=>(bif ((EP .and .i64 s n.azE)==0)then aJr m h f else(aDa n.arJ j f).bind fun q=>(bif (q != 0)then some q else aJr m h f))else(bif ((EP .and .i64 s 64) != 0)then(Vr f.iE).bind fun u=>some u else(bif ((EP .and .i64 s 128) != 0)then(ZG f.Levels).bind fun z=>some z else some 0)))
def LK (h:Int) (f:Int):Int→CW→Option Int:=aV (XY h f) Az
def Kv (f:Int) (h:CW):Option Int:=(jZ f).bind fun m=>(uH f).bind fun n=>(bif (!n)then some true else(sV h).bind fun q=>some ((EP .andNot .i64 q m) != 0)).bind fun s=>(bif s then some 1 else(sV h).bind fun u=>(bif (u==0)then(kM f).bind fun j=>some (j==0)else some false).bind fun z=>(bif z then some 0 else LK m f 0 h))
def aoW (dR fD r) (h:Kv dR fD=some r):BD 292 [AU dR,GX fD] [] (AU r) []:=Ap.aI Tryz.func292 rfl<|AV<|AP h fun n S h=>AL<|.a 1<|.ca (aTy dR n S)<|.aW<|AX<|AP h fun x2 U h=>AL<|.a 1<|.ca (aQb dR x2 U)<|.a 1<|AP h fun x3 Y h=>.mg 15 6 (Ae x3) (.bi Y (k2:=fun h=>AP h fun x5 Z h=>.a 1<|.ca (aaz fD x5 Z)<|.a 1<|.p (alM (k:=.i64) (u:=x5) (v:=n) rfl)<|.aW<|CU))<|.aZ<|Ad h Bh fun h=>AB.skip<|AX<|AP h fun x7 hx7 h=>AL<|.a 1<|.ca (aaz fD x7 hx7)<|.a 1<|AP h fun x8 tZ h=>.mg 25 4 (Ae x8) (.bi tZ (fun h=>AP h fun x10 q h=>.a 1<|.ca (aR6 dR x10 q)<|.aW<|CU))<|.aZ<|Ad h Bh fun h=>AB.skip<|AL<|.a 6<|.p (Dj apA aHG [Tc (⟨1,359⟩:NW),Tc (⟨2,360⟩:NW),Tc (⟨4,361⟩:NW),Tc (⟨8,362⟩:NW),Tc (⟨16,363⟩:NW),Tc (⟨32,364⟩:NW)] rfl)<|.aW<|AX<|AL<|.a 1<|.p (BN Tc ZR aRH rfl)<|.aW<|AB.block<|DL (fun j f=>⟨BF 69 [(0,AU dR),(3,.ptr 0 0),(5,AU n),(37,.d ((Au Tc) ZR)),(38,AU (ZR.length:Int)),(39,AU j)],[.box (Ai (Ec f))],0⟩) _ _ _ _ (Aa 69 962072674345 [(0,true)]) h<|fun J25 k14 z j f h=>AV<|AX<|Ad h (fun h=>AB.skip<|CY (fun s=>Bz s ⟨BF 69 [(0,AU dR),(3,.ptr 0 0),(5,AU n),(37,.d ((Au Tc) ZR)),(38,AU (ZR.length:Int)),(39,AU j)],[.box (Ai (Ec f))],0⟩∧aJr k14 j f=some r) (by rintro s ⟨hs,h⟩;exact CS hs<|Aw<|.a 2<|.nil<|z _ _ _ (Aa 69 962072674345 [(0,true)]) h)<|fun I=>AB.block<|AP h fun J L h=>AL<|.p (BK Tc L aRH aSx rfl)<|.aW<|AX<|AL<|.a 3<|.p (QO (k:=.i64) (u:=n) (v:=J.azE) rfl)<|.aW<|Ad h (fun h=>AB.exit<|I _ ⟨Aa 69 962072674345 [(0,true)],h⟩) fun h=>AB.skip<|AP h fun x19 m h=>AL<|.a 4<|.p (aG (ano J.arJ dR f x19 m) m rfl)<|.aW<|AV<|Ad h Bh fun h=>AB.skip<|I _ ⟨Aa 69 962072674345 [(0,true)],h⟩) fun h=>AB.exit<|AX<|AL<|.a 1<|.p (QO (k:=.i64) (u:=n) (v:=64) rfl)<|.aW<|Ad h (fun h=>AP h fun uV M h=>AL<|.a 2<|.ca (aQQ f.iE uV M)<|.aW<|CV) fun h=>AB.skip<|AX<|AL<|.a 1<|.p (QO (k:=.i64) (u:=n) (v:=128) rfl)<|.aW<|Ad h (fun h=>AP h fun x24 O h=>AL<|.a 2<|.ca (apS f.Levels x24 O)<|.aW<|CV) fun h=>Lj
def Xr (f:AY) (I:Bool):Option Int:=(bif I then some 1 else(aD8 f).bind fun J=>(bif (!J)then some 3 else(bif decide (f.Time<0)then some true else some (decide (f.Time>1000000000))).bind fun L=>(bif L then some true else some (decide (f.Depth<1))).bind fun M=>(bif M then some true else some (decide (f.Depth>100000))).bind fun h=>(bif h then some 2 else(bif decide ((f.bK.length:Int)>10)then some true else some (decide ((f.bM.length:Int)>8))).bind fun j=>(bif j then some 7 else(xM f.bK).bind fun m=>(bif (!m)then some true else(xM f.bM).bind fun n=>some (!n)).bind fun q=>(bif q then some 8 else(bif ((f.bK.length:Int)==0)then some (f.Kind != 1)else some false).bind fun s=>(bif s then some 9 else(bif (f.Kind==1)then some (decide ((BA ((f.bK.length:Int)+(f.bM.length:Int)))>0))else some false).bind fun u=>(bif u then some 6 else(Kv f.Kind f.Content).bind fun z=>some z)))))))
def aC8 (f:AY):Option Int:=(bif (f.Kind==2)then some true else some (f.Kind==9)).bind fun j=>(bif decide (f.Kind<1)then Xr f true else(bif decide (f.Kind>14)then Xr f true else(ZY f.Kind).bind fun h=>(bif (!(f.State==h))then Xr f true else(bif (!(f.Key.toList==Bf.toList))then Xr f (!j)else Xr f false))))
def afG (aS r) (h:aC8 aS=some r):BD 221 [DI aS] [] (AU r) []:=Ap.aI Tryz.func221 rfl<|AV<|AL<|.a 3<|AP h fun x1 Z h=>.mg 7 4 (Ae x1) (.bi Z)<|.aW<|AX<|AB.block<|CY (fun s=>∃(v3:Bool),Bz s ⟨BF 112 [(1,.ptr 0 0),(12,Ae v3)],[.box (Ai (Ak aS))],0⟩∧Xr aS v3=some r) (by rintro s ⟨v3,hs,h⟩;exact CS hs<|Ad h Bh fun h=>AP h fun x5 hx5 h=>AL<|.a 1<|.ca (amx aS x5 hx5)<|.aW<|Ad h Bh fun h=>AL<|.a 3<|AP h fun x7 hx7 h=>.mg 46 4 (Ae x7) (.bi hx7)<|.a 1<|AP h fun x9 uq h=>.mg 52 3 (Ae x9) (DC uq)<|.a 1<|AP h fun x11 I h=>.mg 57 3 (Ae x11) (DC I)<|.aW<|Ad h Bh fun h=>AL<|.a 2<|.p (BN AZ aS.bK Bc rfl)<|.a 1<|AP h fun x14 J h=>.mg 66 5 (Ae x14) (.bi J (k2:=fun h=>.a 2<|.p (BN AZ aS.bM Bc rfl)<|.aW<|CU))<|.aW<|Ad h Bh fun h=>AP h fun x17 L h=>AL<|.a 2<|.ca (aQd aS.bK x17 L)<|.a 1<|AP h fun x18 M h=>.mg 77 5 (Ae x18) (.bi M (k2:=fun h=>AP h fun xW O h=>.a 2<|.ca (aQd aS.bM xW O)<|.aW<|CU))<|.aW<|Ad h Bh fun h=>AL<|.a 2<|.p (BN AZ aS.bK Bc rfl)<|.a 1<|AP h fun uV S h=>.mg 88 4 (Ae uV) (.bi S)<|.aW<|Ad h Bh fun h=>AL<|.a 3<|AP h fun x25 U h=>.mg 97 9 (Ae x25) (.bi U (fun h=>.a 2<|.p (BN AZ aS.bK Bc rfl)<|.a 2<|.p (BN AZ aS.bM Bc rfl)<|.aW<|CU))<|.aW<|Ad h Bh fun h=>AB.skip<|AP h fun x28 Y h=>AL<|.a 4<|.ca (aoW aS.Kind aS.Content x28 Y)<|.aW<|CV)<|fun n=>Eb h (fun f h=>AB.draw A8 A8 A8 (.a 3<|.c (BX some f)<|.a 22<|.nil _)<|n _ ⟨true,Aa 112 4098 [(0,true)],h⟩) fun f h=>Eb h (fun j h=>AB.draw A8 A8 A8 (.a 3<|.c (BX some f)<|.a 4<|.c (BX some j)<|.a 17<|.nil _)<|n _ ⟨true,Aa 112 4098 [(0,true)],h⟩) fun j h=>AP h fun z q h=>Eb h (fun m h=>AB.draw A8 A8 A8 (.a 3<|.c (BX some f)<|.a 4<|.c (BX some j)<|.a 4<|.ca (kC aS.Kind z q)<|.a 2<|.c (BX some m)<|.a 9<|.nil _)<|n _ ⟨true,Aa 112 4098 [(0,true)],h⟩) fun m h=>Eb h (fun u h=>AB.draw A8 A8 A8 (.a 3<|.c (BX some f)<|.a 4<|.c (BX some j)<|.a 4<|.ca (kC aS.Kind z q)<|.a 2<|.c (BX some m)<|.a 3<|.c (BX some u)<|.a 5<|.nil _)<|n _ ⟨(!x1),Aa 112 4098 [(0,true)],h⟩) fun u h=>AB.draw A8 A8 A8 (.a 3<|.c (BX some f)<|.a 4<|.c (BX some j)<|.a 4<|.ca (kC aS.Kind z q)<|.a 2<|.c (BX some m)<|.a 3<|.c (BX some u)<|.a 5<|.nil _)<|n _ ⟨false,Aa 112 4098 [(0,true)],h⟩
def aMc (f:FQ) (h:FQ) (m:(Int→Option Bool)):Int→Option Bool:=fun j=>(bif decide (j<(f.length:Int))then(Aq f j).bind fun n=>(Aq h j).bind fun q=>(bif (!(n.toList==q.toList))then some false else m (BA (j+1)))else some true)
def aRa (f:FQ) (h:FQ):Int→Option Bool:=bD (aMc f h) Az
def sW (f:FQ) (h:FQ):Option Bool:=(bif ((f.length:Int) != (h.length:Int))then some false else aRa f h 0)
def aTD (gY gI r) (h:sW gY gI=some r):BD 293 [Gq gY,Gq gI] [] (Ae r) []:=Ap.aI Tryz.func293 rfl<|AV<|AX<|AL<|.a 1<|.p (BN Ci gY FW rfl)<|.a 1<|.p (BN Ci gI FW rfl)<|.aW<|Ad h Bh fun h=>AB.skip<|AX<|AL<|.a 1<|.p (BN Ci gY FW rfl)<|.aW<|AB.block<|Df (fun n=>⟨BF 26 [(0,Gq gY),(1,Gq gI),(12,AU (gY.length:Int)),(13,AU n)],[],0⟩) _ _ _ (Aa 26 12291 []) h<|fun q s f n h=>AV<|AX<|Ad h (fun h=>AB.skip<|AX<|AB.block<|AV<|Bj h fun u j z m h=>Ep A8 A8 A8 (.a 2<|.p (BK Ci j FW JR rfl)<|.a 3<|.p (BK Ci m FW JR rfl)<|.a 2<|.nil _)<|Ad h Bh fun h=>AB.skip<|Aw<|.a 2<|.nil<|f _ _ (Aa 26 12291 []) h) fun h=>Ed
def aIO (f:MB) (h:MB) (m:(Int→Option Bool)):Int→Option Bool:=fun j=>(bif decide (j<(f.length:Int))then(Aq f j).bind fun n=>(Aq h j).bind fun q=>(bif (!aDY n q)then some false else m (BA (j+1)))else some true)
def aPF (f:MB) (h:MB):Int→Option Bool:=bD (aIO f h) Az
def aAu (f:MB) (h:MB):Option Bool:=(bif ((f.length:Int) != (h.length:Int))then some false else aPF f h 0)
def ali (gY gI r) (h:aAu gY gI=some r):BD 294 [NY gY,NY gI] [] (Ae r) []:=Ap.aI Tryz.func294 rfl<|AV<|AX<|AL<|.a 1<|.p (BN EN gY FM rfl)<|.a 1<|.p (BN EN gI FM rfl)<|.aW<|Ad h Bh fun h=>AB.skip<|AX<|AL<|.a 1<|.p (BN EN gY FM rfl)<|.aW<|AB.block<|Df (fun s=>⟨BF 26 [(0,NY gY),(1,NY gI),(12,AU (gY.length:Int)),(13,AU s)],[],0⟩) _ _ _ (Aa 26 12291 []) h<|fun u z m s h=>AV<|AX<|Ad h (fun h=>AB.skip<|AX<|AB.block<|AV<|Bj h fun f n j q h=>Ep A8 A8 A8 (.a 2<|.p (BK EN n FM JJ rfl)<|.a 3<|.p (BK EN q FM JJ rfl)<|.a 1<|.p (x:=(Ae (!aDY f j))) (aML [.string f.User,.int .i64 f.N] [.string j.User,.int .i64 j.N] (ahn f j) Bd afa rfl)<|.nil _)<|Ad h Bh fun h=>AB.skip<|Aw<|.a 2<|.nil<|m _ _ (Aa 26 12291 []) h) fun h=>Ed
def aHT (f:MN) (h:MN) (m:(Int→Option Bool)):Int→Option Bool:=fun j=>(bif decide (j<(f.length:Int))then(Aq f j).bind fun n=>(Aq h j).bind fun q=>(bif (!aDH n q)then some false else m (BA (j+1)))else some true)
def aQC (f:MN) (h:MN):Int→Option Bool:=bD (aHT f h) Az
def aBQ (f:MN) (h:MN):Option Bool:=(bif ((f.length:Int) != (h.length:Int))then some false else aQC f h 0)
def ak0 (gY gI r) (h:aBQ gY gI=some r):BD 295 [NK gY,NK gI] [] (Ae r) []:=Ap.aI Tryz.func295 rfl<|AV<|AX<|AL<|.a 1<|.p (BN EK gY F8 rfl)<|.a 1<|.p (BN EK gI F8 rfl)<|.aW<|Ad h Bh fun h=>AB.skip<|AX<|AL<|.a 1<|.p (BN EK gY F8 rfl)<|.aW<|AB.block<|Df (fun s=>⟨BF 26 [(0,NK gY),(1,NK gI),(12,AU (gY.length:Int)),(13,AU s)],[],0⟩) _ _ _ (Aa 26 12291 []) h<|fun u z m s h=>AV<|AX<|Ad h (fun h=>AB.skip<|AX<|AB.block<|AV<|Bj h fun f n j q h=>Ep A8 A8 A8 (.a 2<|.p (BK EK n F8 JF rfl)<|.a 3<|.p (BK EK q F8 JF rfl)<|.a 1<|.p (x:=(Ae (!aDH f j))) (aML [.int .i64 f.Kind,.int .i64 f.N] [.int .i64 j.Kind,.int .i64 j.N] (alV f j) Bd anU rfl)<|.nil _)<|Ad h Bh fun h=>AB.skip<|Aw<|.a 2<|.nil<|m _ _ (Aa 26 12291 []) h) fun h=>Ed
def aDt (f:CW) (h:CW):Option Bool:=(bif (!(f.Text.toList==h.Text.toList))then some true else some (f.N != h.N)).bind fun U=>(bif U then some true else some (f.Target != h.Target)).bind fun Y=>(bif Y then some true else some (!(f.Thread==h.Thread))).bind fun Z=>(bif Z then some true else some (!(f.Via.toList==h.Via.toList))).bind fun x7=>(bif x7 then some true else(sW f.Allow h.Allow).bind fun j=>some (!j)).bind fun x9=>(bif x9 then some true else(sW f.iE h.iE).bind fun m=>some (!m)).bind fun n=>(bif n then some false else(aAu f.Levels.Users h.Levels.Users).bind fun q=>(bif q then(aBQ f.Levels.Kinds h.Levels.Kinds).bind fun s=>some s else some false).bind fun u=>(bif u then some (f.Levels.User==h.Levels.User)else some false).bind fun z=>(bif z then some (f.Levels.Message==h.Levels.Message)else some false).bind fun I=>(bif I then some (f.Levels.State==h.Levels.State)else some false).bind fun J=>(bif J then some (f.Levels.gB==h.Levels.gB)else some false).bind fun L=>(bif L then some (f.Levels.jI==h.Levels.jI)else some false).bind fun M=>(bif M then some (f.Levels.lV==h.Levels.lV)else some false).bind fun O=>(bif O then some (f.Levels.gQ==h.Levels.gQ)else some false).bind fun S=>some S)
def aou (gY gI r) (h:aDt gY gI=some r):BD 222 [GX gY,GX gI] [] (Ae r) []:=Ap.aI Tryz.func222 rfl<|AV<|AB.arI [] 108 0x68383206638310641830062182f064302e062302d05c082c05a082b060102a05e1029060302805c182805e302705a182705c202605a28250580024056002305818220500822056182104e0821058202004c0820056281f04a081f054301e050101e052301d04e101d050201c04c181c04e281b04a181b04c281a04a201a048181904400190461818042001804820170400017046281603e0016044101503c0815042101403a0814044201304018130380813042281203e18120360812040281103e2011034081103c2010038101003a280f036100f038280e036200e034180e032100d02a000d030100c028000c032200b02e180b026000b030280a02c180a024000a02e280902c2009022000902a2008026100802008080282807024100701e080702628060242006022180601c0806020280501e200501c100501a2004016100401000040182803014100300e000301628020142002012180200c0002010280100e200100c100100a08010082800006200000410000020000 [51,52] ⟨BF 121 [(2,.ptr 0 0),(3,.ptr 1 0),(5,.ptr 2 0),(6,.ptr 3 0)],[.box (Ai (Ec gY)),.box (Ai (Ec gI)),.box (Ai (Dz gY.Levels)),.box (Ai (Dz gI.Levels))],0⟩ ⟨gU (Aa 121 108 [(0,true),(1,true),(2,true),(3,true)]),gU (Aa 121 108 [(0,true),(1,true),(3,true),(2,true)]),trivial⟩<|AX<|AL<|.a 5<|AP h fun x1 S h=>.mg 16 6 (Ae x1) (.bi S)<|.a 1<|AP h fun x3 U h=>.mg 24 5 (Ae x3) (DC U)<|.a 1<|AP h fun x5 Y h=>.mg 31 5 (Ae x5) (DC Y)<|.a 1<|AP h fun x7 Z h=>.mg 38 5 (Ae x7) (DC Z)<|.a 1<|AP h fun x9 uq h=>.mg 45 6 (Ae x9) (DC uq (k2:=fun e i=>by subst e;have h:=i;exact AP h fun x11 f h=>.a 4<|.ca (aTD gY.Allow gI.Allow x11 f)<|.aW<|CU))<|.a 1<|AP h fun x12 j h=>.mg 53 6 (Ae x12) (DC j (k2:=fun e i=>by subst e;have h:=i;exact AP h fun x14 m h=>.a 4<|.ca (aTD gY.iE gI.iE x14 m)<|.aW<|CU))<|.aZ<|Ad h Bh fun h=>AB.skip<|AP h fun x16 n h=>AL<|.a 4<|.ca (ali gY.Levels.Users gI.Levels.Users x16 n)<|.a 1<|AP h fun x17 q h=>.mg 66 5 (Ae x17) (DC q (fun e i=>by subst e;have h:=i;exact AP h fun x19 s h=>.a 4<|.ca (ak0 gY.Levels.Kinds gI.Levels.Kinds x19 s)<|.aW<|CU))<|.a 1<|AP h fun xW u h=>.mg 73 5 (Ae xW) (DC u)<|.a 1<|AP h fun uV z h=>.mg 80 5 (Ae uV) (DC z)<|.a 1<|AP h fun x24 I h=>.mg 87 5 (Ae x24) (DC I)<|.a 1<|AP h fun zX J h=>.mg 94 5 (Ae zX) (DC J)<|.a 1<|AP h fun x28 L h=>.mg 101 5 (Ae x28) (DC L)<|.a 1<|AP h fun x30 M h=>.mg 108 5 (Ae x30) (DC M)<|.a 1<|AP h fun x32 O h=>.mg 115 5 (Ae x32) (DC O)<|.aW<|CV
def jE (f:ByteArray):Option ByteArray:=(eK f xP).bind fun h=>some h.2.1
def aHj (BO r) (h:jE BO=some r):BD 85 [CP BO] [] (CP r) []:=Ap.aI Tryz.func85 rfl<|AV<|AP h fun j f h=>AL<|.a 1<|.ca (adJ BO xP j f)<|.aW<|AV<|CV
def aB (f:AY) (h:Bool):Option Int:=(bif h then some 6 else(o8 f).bind fun j=>(bif (j != f.Id)then some 11 else(jE f.bG).bind fun m=>(bif (!aBt f.qR (⟨m,f.Id⟩:Nk))then some 12 else some 0)))
def aEW (f:AY):Option Int:=(aC8 f).bind fun n=>(bif (n != 0)then some n else(ig f).bind fun h=>(bif (!h)then(uh f.Kind f.Content).bind fun j=>(aDt f.Content j).bind fun m=>aB f (!m)else aB f false))
def aoQ (aS r) (h:aEW aS=some r):BD 159 [DI aS] [] (AU r) []:=Ap.aI Tryz.func159 rfl<|AV<|AX<|AP h fun S J h=>AL<|.a 1<|.ca (afG aS S J)<|.aW<|AV<|Ad h Bh fun h=>AB.skip<|AX<|AB.block<|CY (fun s=>∃(L:Bool),Bz s ⟨BF 40 [(1,.ptr 0 0),(9,Ae L)],[.box (Ai (Ak aS))],0⟩∧aB aS L=some r) (by rintro s ⟨L,U,h⟩;exact CS U<|Ad h Bh fun h=>AP h fun Y M h=>Ep A8 A8 A8 (.a 1<|.ca (aQS aS Y M)<|.a 4<|.nil _)<|Ad h Bh fun h=>AP h fun m O h=>Ep A8 A8 A8 (.a 4<|.ca (aHj aS.bG m O)<|.a 3<|.p (x:=(Ae (!aBt aS.qR (⟨m,aS.Id⟩:Nk)))) (aML [.string aS.qR.Server,.int .i64 aS.qR.Sum] [.string ((⟨m,aS.Id⟩:Nk).Server),.int .i64 ((⟨m,aS.Id⟩:Nk).Sum)] (aem aS.qR (⟨m,aS.Id⟩:Nk)) Bd amD rfl)<|.a 1<|.nil _)<|Ad h Bh fun h=>Lj)<|fun K9=>AP h fun n j h=>Eb h (fun f h=>Bj h fun q u z I h=>AB.draw A8 A8 A8 (.a 1<|.ca (aAc aS n j)<|.a 1<|.c (BX some f)<|.a 6<|.ca (aQ2 aS.Kind aS.Content q u)<|.ca (aou aS.Content q z I)<|.a 3<|.nil _)<|K9 _ ⟨(!z),Aa 40 514 [(0,true)],h⟩) fun f h=>AB.draw A8 A8 A8 (.a 1<|.ca (aAc aS n j)<|.a 1<|.c (BX some f)<|.a 11<|.nil _)<|K9 _ ⟨false,Aa 40 514 [(0,true)],h⟩
def aEM (f:Aj) (j:(Int→Option Int)):Int→Option Int:=fun h=>(bif decide (h<(f.length:Int))then(Aq f h).bind fun m=>(Aq f (BA (h-1))).bind fun n=>(bif decide (m.Id≤n.Id)then some 8 else j (BA (h+1)))else some 0)
def aB5 (f:Aj):Int→Option Int:=bD (aEM f) Az
def X3 (f:Aj) (n:(Int→Option Int)):Int→Option Int:=fun h=>(bif decide (h<(f.length:Int))then(Aq f h).bind fun j=>(Aq f 0).bind fun m=>(bif (!(j.Room.toList==m.Room.toList))then some 13 else n (BA (h+1)))else aB5 f 1)
def uK (f:Aj):Int→Option Int:=bD (X3 f) Az
def wR (f:Aj) (m:(Int→Option Int)):Int→Option Int:=fun h=>(bif decide (h<(f.length:Int))then(Aq f h).bind fun n=>(aEW n).bind fun j=>(bif (j != 0)then some j else m (BA (h+1)))else uK f 0)
def aOa (f:Aj):Int→Option Int:=bD (wR f) Az
def PG (f:Aj):Option Int:=(bif decide ((f.length:Int)>2000)then some 7 else aOa f 0)
def ahz (ak r) (h:PG ak=some r):BD 111 [BH ak] [] (AU r) []:=Ap.aI Tryz.func111 rfl<|AV<|AX<|AL<|.a 1<|.p (BN Ak ak C9 rfl)<|.aW<|Ad h Bh fun h=>AB.skip<|AX<|AL<|.a 1<|.p (BN Ak ak C9 rfl)<|.aW<|AB.block<|Df (fun L=>⟨BF 56 [(0,BH ak),(12,BH ak),(13,AU (ak.length:Int)),(14,AU L)],[],0⟩) _ _ _ (Aa 56 28673 []) h<|fun O k3 u L h=>AV<|AX<|Ad h (fun h=>AB.skip<|AX<|AB.block<|AP h fun S z h=>AL<|.p (BK Ak z C9 Ch rfl)<|.aW<|AP h fun U I h=>AL<|.a 1<|.ca (aoQ S U I)<|.aW<|AV<|Ad h Bh fun h=>AB.skip<|Aw<|.a 2<|.nil<|u _ _ (Aa 56 28673 []) h) fun h=>AB.exit<|AX<|AL<|.a 1<|.p (BN Ak ak C9 rfl)<|.aW<|AB.block<|Df (fun M=>⟨BF 56 [(0,BH ak),(24,BH ak),(25,AU (ak.length:Int)),(26,AU M)],[],0⟩) _ _ _ (Aa 56 117440513 []) h<|fun Y k9 J M h=>AV<|AX<|Ad h (fun h=>AB.skip<|AX<|AB.block<|AP h fun Z f h=>AL<|.p (BK Ak f C9 Ch rfl)<|.aW<|AP h fun x12 j h=>Ep A8 A8 A8 (.a 3<|.p (BK Ak j C9 Ch rfl)<|.a 3<|.nil _)<|Ad h Bh fun h=>AB.skip<|Aw<|.a 2<|.nil<|J _ _ (Aa 56 117440513 []) h) fun h=>AB.exit<|AX<|AV<|AB.block<|Df (fun m=>⟨BF 56 [(0,BH ak),(8,AU m)],[],0⟩) _ _ _ (Aa 56 257 []) h<|fun J20 k15 n m h=>AX<|AL<|.a 2<|.p (BN Ak ak C9 rfl)<|.aW<|Ad h (fun h=>AB.skip<|AX<|AB.block<|Bj h fun x17 q x18 s h=>Ep A8 A8 A8 (.a 2<|.p (BK Ak q C9 Ch rfl)<|.a 5<|.p (BK Ak s C9 Ch rfl)<|.a 3<|.nil _)<|Ad h Bh fun h=>AB.skip<|Aw<|.a 3<|.nil<|n _ _ (Aa 56 257 []) h) fun h=>Ed
def ac1 (f:Aj) (m:(Int→(List (Int×Int))→Option (List (Int×Int)))):Int→(List (Int×Int))→Option (List (Int×Int)):=fun h j=>(bif decide (h≥0)then(Aq f h).bind fun n=>m (BA (h-1)) (Dl j n.Id h)else some j)
def abM (f:Aj):Int→(List (Int×Int))→Option (List (Int×Int)):=aV (ac1 f) Az
def XL (f:Aj):Option (List (Int×Int)):=abM f (BA ((f.length:Int)-1)) []
def xH (ak r) (h:XL ak=some r):BD 117 [BH ak] [] (.mp 0) [.map (List.map (BJ BM AZ) r)]:=Ap.aI Tryz.func117 rfl<|AV<|AL<|.a 1<|.p (BN Ak ak C9 rfl)<|.e (x:=.mp 0) [.map (List.map (BJ BM AZ) [])] (aoE (kd:=.i64) (n:=(ak.length:Int)) QK rfl)<|.aW<|AX<|AL<|.a 1<|.p (BN Ak ak C9 rfl)<|.aW<|AB.block<|DL (fun f j=>⟨BF 23 [(0,BH ak),(3,.mp 0),(4,AU f)],[.map (List.map (BJ BM AZ) j)],0⟩) _ _ _ _ (Aa 23 25 [(0,true)]) h<|fun z I q f j h=>AX<|AV<|Ad h (fun h=>AB.skip<|AX<|AB.block<|AP h fun u s h=>Aw<|.a 3<|.p (BK Ak s C9 Ch rfl)<|.a 3<|.e [.map (List.map (BJ BM AZ) (Dl j u.Id f))] (pS (k:=0) (key:=u.Id) (val:=f) (m:=j) AZ QK Gv A8 rfl)<|.nil<|Aw<|.a 3<|.nil<|q _ _ _ (Aa 23 25 [(0,true)]) h) fun h=>H9
def aMM (f:AO) (h:(List (Int×Int))) (k2:(Int→Option Bool)):Int→Option Bool:=fun j=>(bif decide (j<(f.length:Int))then(Aq f j).bind fun m=>(bif (!((CX h m).isSome))then some false else k2 (BA (j+1)))else some true)
def aSz (f:AO) (h:(List (Int×Int))):Int→Option Bool:=bD (aMM f h) Az
def sN (f:AO) (h:(List (Int×Int))):Option Bool:=aSz f h 0
def aeW (adX afw r) (h:sN adX afw=some r):BD 223 [Ba adX,.ptr 0 0] [.box [.mp 1],.map (List.map (BJ BM AZ) afw)] (Ae r) [.box [.mp 1],.map (List.map (BJ BM AZ) afw)]:=Ap.aI Tryz.func223 rfl<|AV<|AX<|AL<|.a 1<|.p (BN AZ adX Bc rfl)<|.aW<|AB.block<|Df (fun q=>⟨BF 23 [(1,.ptr 0 0),(8,Ba adX),(9,AU (adX.length:Int)),(10,AU q)],[.box [.mp 1],.map (List.map (BJ BM AZ) afw)],2⟩) _ _ _ (Aa 23 1794 [(0,true),(1,true)]) h<|fun s k2 f q h=>AV<|AX<|Ad h (fun h=>AB.skip<|AX<|AB.block<|AP h fun j n h=>AL<|.p (BK AZ n Bc CG rfl)<|.aW<|AL<|.a 2<|.p (x:=.fP [AU ((CX afw j).getD 0),Ae ((CX afw j).isSome)]) (aEm (k:=1) (key:=j) (m:=afw) AZ 0 QK Gv zero3 A8 A8 A8 rfl)<|.aW<|AV<|Ad h (fun h=>AV<|aMt) fun h=>AB.skip<|Aw<|.a 2<|.nil<|f _ _ (Aa 23 1794 [(0,true),(1,true)]) h) fun h=>AB.exit<|AV<|aMt
def aMS (f:Aj) (q:(Int→(List (Int×Int))→Option Bool)):Int→(List (Int×Int))→Option Bool:=fun h j=>(bif decide (h<(f.length:Int))then(Aq f h).bind fun s=>(sN s.bK j).bind fun u=>(bif (!u)then some true else(Aq f h).bind fun m=>(sN m.bM j).bind fun n=>some (!n)).bind fun z=>(bif z then some false else q (BA (h+1)) j)else some true)
def aQi (f:Aj):Int→(List (Int×Int))→Option Bool:=aV (aMS f) Az
def aDw (f:Aj):Option Bool:=(XL f).bind fun h=>aQi f 0 h
def aqn (ak r) (h:aDw ak=some r):BD 160 [BH ak] [] (Ae r) []:=Ap.aI Tryz.func160 rfl<|AV<|AP h fun L s h=>AL<|.a 1<|.e (x:=.mp 0) [.map (List.map (BJ BM AZ) L)] (Dh [] [BH ak] (xH ak L s) rfl)<|.aW<|AL<|.p (x:=.fn (.func 223) [] [.ptr 1 0]) (Oj (fi:=[]) (ca:=[.ptr 1 0]) rfl rfl rfl)<|.aW<|AX<|AL<|.a 1<|.p (BN Ak ak C9 rfl)<|.aW<|AB.block<|DL (fun M f=>⟨BF 33 [(0,BH ak),(4,.fn (.func 223) [] [.ptr 0 0]),(10,AU (ak.length:Int)),(11,AU M)],[.box [.mp 1],.map (List.map (BJ BM AZ) f)],0⟩) _ _ _ _ (Aa 33 3089 [(1,true),(0,true)]) h<|fun U Z u M f h=>AV<|AX<|Ad h (fun h=>AB.skip<|AX<|AB.block<|AV<|Bj h fun O z S I h=>AL<|.a 3<|.p (BK Ak z C9 Ch rfl)<|.a 2<|.e (x:=(Ae S)) [.box [.mp 1],.map (List.map (BJ BM AZ) f)] (aH [.ent 0,.ent 1] [] [.ptr 0 0] [Ba O.bK] (aeW O.bK f S I) rfl (hE:=(LH A8<|LH A8<|trivial)))<|.a 1<|AP h fun Y J h=>.mg 22 9 (Ae Y) (.bi J (k2:=fun h=>Bj h fun j m n q h=>.a 3<|.p (BK Ak m C9 Ch rfl)<|.a 2<|.e (x:=(Ae n)) [.box [.mp 1],.map (List.map (BJ BM AZ) f)] (aH [.ent 0,.ent 1] [] [.ptr 0 0] [Ba j.bM] (aeW j.bM f n q) rfl (hE:=(LH A8<|LH A8<|trivial)))<|.aW<|CU))<|.aZ<|Ad h Bh fun h=>AB.skip<|Aw<|.a 2<|.nil<|u _ _ _ (Aa 33 3089 [(0,true),(1,true)]) h) fun h=>Ed
def aJG (f:AY) (n:Aj) (h:(List (Int×Int))) (q:(Int→Int→Option (Bool×(List (Int×Int))))):Int→Int→Option (Bool×(List (Int×Int))):=fun j m=>(bif decide (m<(f.bK.length:Int))then(Aq f.bK m).bind fun s=>(Aq n ((CX h s).getD 0)).bind fun u=>q (WI j u.Depth) (BA (m+1))else(bif decide (f.Depth>j)then some ((BA (f.Depth-j))==1)else some false).bind fun z=>some (z,h))
def acK (h:AY) (j:Aj) (f:(List (Int×Int))):Int→Int→Option (Bool×(List (Int×Int))):=aV (aJG h j f) Az
def aNm (f:AY) (j:Aj) (h:(List (Int×Int))) (k2:(Int→Option (Bool×(List (Int×Int))))):Int→Option (Bool×(List (Int×Int))):=fun m=>(bif decide (m<(f.bM.length:Int))then(Aq f.bM m).bind fun n=>(Aq j ((CX h n).getD 0)).bind fun q=>(bif decide (q.Depth≥f.Depth)then some (false,h)else k2 (BA (m+1)))else(bif ((f.bK.length:Int)==0)then some ((f.Depth==1),h)else(Aq f.bK 0).bind fun s=>(Aq j ((CX h s).getD 0)).bind fun u=>acK f j h u.Depth 0))
def abb (h:AY) (j:Aj) (f:(List (Int×Int))):Int→Option (Bool×(List (Int×Int))):=bD (aNm h j f) Az
def aFF (h:Aj) (f:(List (Int×Int))) (j:AY):Option (Bool×(List (Int×Int))):=abb j h f 0
def ag6 (ak Uw fE r) (h:aFF ak Uw fE=some r):BD 161 [BH ak,.mp 0,DI fE] [.map (List.map (BJ BM AZ) Uw)] (Ae r.1) [.map (List.map (BJ BM AZ) r.2)]:=Ap.aI Tryz.func161 rfl<|AV<|AX<|AL<|.a 2<|.p (BN AZ fE.bM Bc rfl)<|.aW<|AB.block<|Df (fun Y=>⟨BF 75 [(0,BH ak),(1,.mp 0),(5,.ptr 1 0),(13,Ba fE.bM),(14,AU (fE.bM.length:Int)),(15,AU Y)],[.map (List.map (BJ BM AZ) Uw),.box (Ai (Ak fE))],1⟩) _ _ _ (Aa 75 57379 [(0,true),(1,true)]) h<|fun J19 k2 I Y h=>AV<|AX<|Ad h (fun h=>AB.skip<|AX<|AB.block<|AP h fun Z J h=>AL<|.p (BK AZ J Bc CG rfl)<|.aW<|AP h fun x5 L h=>Ep A8 A8 A8 (.a 3<|.p (x:=(AU ((CX Uw Z).getD 0))) (Z9 (k:=0) (key:=Z) (m:=Uw) AZ 0 QK Gv zero3 A8 A8 A8 rfl)<|.p (BK Ak L C9 Ch rfl)<|.a 5<|.nil _)<|Ad h eB fun h=>AB.skip<|Aw<|.a 2<|.nil<|I _ _ (Aa 75 57379 [(0,true),(1,true)]) h) fun h=>AB.exit<|AX<|AL<|.a 2<|.p (BN AZ fE.bK Bc rfl)<|.aW<|Ad h eB fun h=>AB.skip<|Bj h fun x8 M x9 O h=>AL<|.a 4<|.p (BK AZ M Bc CG rfl)<|.a 1<|.p (x:=(AU ((CX Uw x8).getD 0))) (Z9 (k:=0) (key:=x8) (m:=Uw) AZ 0 QK Gv zero3 A8 A8 A8 rfl)<|.p (BK Ak O C9 Ch rfl)<|.aW<|AX<|AL<|.a 2<|.p (BN AZ fE.bK Bc rfl)<|.aW<|AB.block<|DL (fun f j=>⟨BF 75 [(0,BH ak),(1,.mp 0),(5,.ptr 1 0),(9,AU f),(48,Ba fE.bK),(49,AU (fE.bK.length:Int)),(50,AU j)],[.map (List.map (BJ BM AZ) Uw),.box (Ai (Ak fE))],1⟩) _ _ _ _ (Aa 75 1970324836975139 [(0,true),(1,true)]) h<|fun J18 k12 n f j h=>AV<|AX<|Ad h (fun h=>AB.skip<|AX<|AB.block<|AP h fun q s h=>AL<|.p (BK AZ s Bc CG rfl)<|.aW<|AP h fun S u h=>Aw<|.a 4<|.p (x:=(AU ((CX Uw q).getD 0))) (Z9 (k:=0) (key:=q) (m:=Uw) AZ 0 QK Gv zero3 A8 A8 A8 rfl)<|.p (BK Ak u C9 Ch rfl)<|.a 2<|.p (x:=(AU (WI f S.Depth))) (aqU rfl)<|.a 1<|.nil<|Aw<|.a 2<|.nil<|n _ _ _ (Aa 75 1970324836975139 [(0,true),(1,true)]) h) fun h=>AB.exit<|AL<|.a 4<|AP h fun U z h=>.mg 68 6 (Ae U) (.bi z)<|.aW<|Oq
def aNs (f:Aj) (m:(Int→(List (Int×Int))→Option Int)):Int→(List (Int×Int))→Option Int:=fun h n=>(bif decide (h<(f.length:Int))then(Aq f h).bind fun q=>(aFF f n q).bind fun j=>(bif (!j.1)then some 15 else m (BA (h+1)) j.2)else some 0)
def acZ (f:Aj):Int→(List (Int×Int))→Option Int:=aV (aNs f) Az
def aGn (f:Aj):Option Int:=(aDw f).bind fun h=>(bif (!h)then some 14 else(XL f).bind fun j=>acZ f 0 j)
def alc (ak r) (h:aGn ak=some r):BD 112 [BH ak] [] (AU r) []:=Ap.aI Tryz.func112 rfl<|AV<|AX<|AP h fun L f h=>AL<|.a 1<|.ca (aqn ak L f)<|.aW<|Ad h Bh fun h=>AB.skip<|AP h fun z j h=>AL<|.a 1<|.e (x:=.mp 0) [.map (List.map (BJ BM AZ) z)] (Dh [] [BH ak] (xH ak z j) rfl)<|.aW<|AX<|AL<|.a 1<|.p (BN Ak ak C9 rfl)<|.aW<|AB.block<|DL (fun I m=>⟨BF 24 [(0,BH ak),(3,.mp 0),(11,AU (ak.length:Int)),(12,AU I)],[.map (List.map (BJ BM AZ) m)],0⟩) _ _ _ _ (Aa 24 6153 [(0,true)]) h<|fun M O n I m h=>AV<|AX<|Ad h (fun h=>AB.skip<|AX<|AB.block<|AV<|Bj h fun J q s u h=>AL<|.a 4<|.p (BK Ak q C9 Ch rfl)<|.a 1<|.e (x:=(Ae s.1)) [.map (List.map (BJ BM AZ) s.2)] (Dh [.ent 0] [BH ak,.mp 0,DI J] (ag6 ak m J s u) rfl)<|.aW<|Ad h Bh fun h=>AB.skip<|Aw<|.a 2<|.nil<|n _ _ _ (Aa 24 6153 [(0,true)]) h) fun h=>Ed
end Go.Proofs.YtolgdkhlelfpoaaGreat
end
