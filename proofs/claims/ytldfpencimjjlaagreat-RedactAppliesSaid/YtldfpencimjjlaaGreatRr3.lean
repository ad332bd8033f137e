/- Part 3 of what the laws' proofs lean on: states of the walk, typed functions of the program and their laws (short forms written by wip/shrink.py; no condition). -/
import Derived.Test.YtldfpencimjjlaaGreatRr2
set_option linter.defProp false
set_option linter.unnecessarySimpa false
set_option linter.unusedVariables false
set_option linter.unusedSimpArgs false
section
namespace Go.Proofs.YtldfpencimjjlaaGreat
open Go.RowKit Go.Sort
section
variable {α : Type}
def bW (le:α→α→Bool) (x:α):List α→List α
 | []=>[x]
 |y::l=>bif le x y then x::y::l else y::bW le x l
def RH (le:α→α→Bool) (l:List α):List α:=l.foldr (bW le) []
def aJX (le:α→α→Bool) (x:α):∀l,(bW le x l).Perm (x::l)
 | []=>.refl _
 |y::l=>by
  unfold bW;cases h:le x y with
  |true=>exact .refl _
  |false=>exact((aJX le x l).cons y).trans (.swap x y l)
def dP (le:α→α→Bool):∀l,(RH le l).Perm l
 | []=>.refl _
 |x::l=>(aJX le x (RH le l)).trans ((dP le l).cons x)
def aU3 {le:α→α→Bool} (q:∀x y z,le x y=true→le y z=true→le x z=true) (u:∀x y,le x y=false→le y x=true) (x:α):∀l,l.Pairwise (fun a b=>le a b=true)→(bW le x l).Pairwise (fun a b=>le a b=true)
 | [],_=>by simp[bW]
 |y::l,h=>by
  have h':=PG.1 h;unfold bW;cases m:le x y with
  |true=>
   refine PG.2 ⟨fun z j=>?_,h⟩;rcases F8.1 j with rfl|j
   ·exact m
   exact q x y z m (h'.1 z j)
  |false=>
   refine PG.2 ⟨fun z j=>?_,aU3 q u x l h'.2⟩;rcases F8.1 ((aJX le x l).mem_iff.1 j)with rfl|j
   ·exact u _ _ m
   exact h'.1 z j
def aa0 {le:α→α→Bool} (j:∀x y z,le x y=true→le y z=true→le x z=true) (m:∀x y,le x y=false→le y x=true):∀l:List α,(RH le l).Pairwise (fun a b=>le a b=true)
 | []=>.nil
 |x::l=>aU3 j m x _ (aa0 j m l)
def aR2 {le:α→α→Bool} (j:∀x y z,le x y=true→le y z=true→le x z=true) (q:∀x y,le x y=false→le y x=true) (ha:∀x y,le x y=true→le y x=true→x=y) {l m:List α} (u:m.Perm l) (hs:m.Pairwise (fun a b=>le a b=true)):m=RH le l:=
 (u.trans (dP le l).symm).eq_of_pairwise (fun a b _ _ I J=>ha a b I J) hs (aa0 j q l)
def aP6 {e:α→D} {enc:α→List Value} (j:∀x,(e x).cells=(enc x).map .lit):∀l:List α,flat (l.map e)=(l.flatMap enc).map fun v=>.d (.lit v)
 | []=>rfl
 |x::l=>by rw[LC,WM,aP6 j l,j,Nz,JM,zU];rfl
def aGl {enc:α→List Value} {k:Nat} (j:∀x,(enc x).length=k):∀l:List α,(l.flatMap enc).length=l.length*k
 | []=>BP
 |x::l=>by rw[Nz,EP,j,aGl j l,GI,Yl,aDF,QU]
def aRn {e:α→D} {enc:α→List Value} {k:Nat} (q:∀x,(e x).cells=(enc x).map .lit) (J:∀x,(enc x).length=k) (U:∀x,∀v∈enc x,v.oneCell'=true) {ok:Nat→Prop} {w:World} {H:List Bj} {h:Bj} {T:TypeId} {l:List α}:
 Ez ok w H h (.arr T k (l.map e))↔h.size=k∧nO w T k h.v l.length (l.flatMap enc):=by
 have hl:=aGl J l;constructor
 ·rintro⟨u,_,xs,m,z,L⟩;refine⟨u,?_⟩;rw[Cm]at m
  have :xs=l.flatMap enc:=by
   rw[aP6 q]at z L;rw[Cm]at z;refine zL z fun i hi M=>?_;have O:=(L i aEW).2;simp only[List.getD,JO,Dj M,Ic,Nr,Dj hi]at O;cases O with |d _ _ h=>rw[Dv.ah1 h]
  rw[←this];exact m
 rintro⟨u,m⟩;refine⟨u,fun x I=>?_,l.flatMap enc,by rw[Cm];exact m,?_⟩
 ·obtain⟨n,_,rfl⟩:=FH.1 I;rw[q,Cm,J]
 rw[aP6 q];refine⟨BP,fun i hi=>?_⟩;have j:i<(l.flatMap enc).length:=GR
 simp only[List.getD,JO,Dj j,Ic,Nr];refine⟨?_,.d _ _ (.lit _)⟩;obtain⟨x,_,I⟩:=TD.1 (EU j);exact U x _ I
def amr {j:Array Value} (hs:j.size=2):j= #[j.getD 0 undef,j.getD 1 undef]:=by
 refine Zd (by simp[hs]) fun i q m=>?_;simp at m;have :i=0∨i=1:=AB
 rcases this with rfl|rfl<;>simp[Array.getD,hs]
def Ah.aBb {P:Program} {f g:FuncId} {T:TypeId} {k:Nat} {e:α→D} {enc:α→List Value} (L:∀x,(e x).cells=(enc x).map .lit) (hk:∀x,(enc x).length=k) (h1:∀x,∀v∈enc x,v.oneCell'=true) {l r:List α}
 (h:∀(v:Value) (w:World),nO w T k v l.length (l.flatMap enc)→Calls P f #[v,.func (.func g) #[] #[]] w fun x w'=>x=.returned (.tuple #[])∧nO w' T k v r.length (r.flatMap enc)∧Turns v w w'):
 Ah P f [.aO 0,.d (.fn (.func g) [] [])] [.arr T k (l.map e)] (.fP []) [.arr T k (r.map e)]:=by
 intro ok X H w z M hs ha;have h0:=ha 0 BP;have O:=ha 1 BP;rw[amr hs];obtain⟨hd,hh,hok⟩:=Gj M.ent M.hlen (k:=0) rfl;obtain hv:=QE h0 hh
 have hf:z.getD 1 undef=.func (.func g) #[] #[]:=by
  simp only[List.getD,aHI,aIk,Nr]at O;generalize z.getD 1 undef=u at O;cases O with
  |d _ _ O=>
   cases O with
   |fn _ _ _ vs us hl hm'=>
    have e1:vs= #[]:=aH NP;have e2:us= #[]:=aH (by simpa using hm');rw[e1,e2]
 rw[hv,hf];obtain⟨hz,how⟩:=(aRn L hk h1).1 hok;refine(h hd.v w how).mono ?_;rintro x w' ⟨rfl,U,J⟩;have q:=fun b Y=>M.blk 0 _ hd b rfl rfl hh Y
 have hg:=M.change (ok':=ok) (H':=H) (w':=w') (es':=[.arr T k (r.map e)]) (fun c=>Df hd.v=some c) J.os J.tape J.output J.size J.block (fun c L _=>⟨(q c L).1,(q c L).2.2⟩) (fun _ h=>h) (fun _ h=>.inl h) (.refl _) M.hlen (by
  intro j e' h' m Z
  match j,m with
  |0,m=>
   simp at m;subst m;rw[hh]at Z;obtain rfl:=D5 Z;refine .inr ⟨(aRn L hk h1).2 ⟨hz,U⟩,fun _ b Y=>⟨(q b Y).1,Vr (q b Y).2.1 J.size,(q b Y).2.2,fun k' e'' h'' hne I=>?_⟩⟩
   match k',I with
   |0,_=>exact absurd rfl hne
   |k'+1,I=>simp at I
  |k+1,m=>simp at m)
 exact⟨_,ok,H,rfl,hg.1,.fP [] #[] rfl (fun i hi=>OX)⟩
end
section
variable {α : Type} [Inhabited α]
def ad5 {enc:α→List Value} {k:Nat} (m:∀x,(enc x).length=k) (l:List α):(flatK enc k l.toArray).toList=l.flatMap enc:=by
 have key:∀(l:List α) (t:Nat),t<l.length*k→(enc (l[t/k]?.getD default))[t % k]? =(l.flatMap enc)[t]? :=by
  intro l
  induction l with
  |nil=>intro t j;simp at j
  |cons x l z=>
   intro t j;rw[GI,Yl,aDF]at j;rw[Nz];by_cases h:t<k
   ·rw[Nat.div_eq_of_lt h,Nat.mod_eq_of_lt h,Gs (by rw[m];exact h)];rfl
   have h':k≤t:=Um h;rcases Yp k with q|q
   ·subst q;simp at j
   have I:t/k=(t-k)/k+1:=Nat.div_eq_sub_div q h';rw[I,Nat.mod_eq_sub_mod h',Jr (by rw[m];exact h'),m,←z (t-k) AB,aHI]
 refine zL (by simp[aGl m]) fun t J L=>?_;have j:t<l.length*k:=UZ
 have :=key l t j;rw[Dj L]at this;have u:=get_flatK enc k l.toArray t PO;rw[rG _ _ PO]at u;rw[Array.getElem_toList,u];have M:(l.toArray)[t/k]! =l[t/k]?.getD default:=BP
 rw[M];simp[List.getElem!_eq_getElem?_getD,this]
end
def TP (a b:Int):Int:=if a<b then -1 else if a>b then 1 else 0
def YL (p q:Int×Int×Int):Int:=if p.2.1=q.2.1 then(if p.2.2=q.2.2 then TP p.1 q.1 else TP p.2.2 q.2.2)else TP q.2.1 p.2.1
def aNF (a b:Int):TP a b<0↔a<b:=by
 unfold TP;split
 ·omega
 split<;>omega
def aoO (p q:Int×Int×Int):YL p q<0↔q.2.1<p.2.1∨p.2.1=q.2.1∧(p.2.2<q.2.2∨p.2.2=q.2.2∧p.1<q.1):=by
 unfold YL;split
 ·split
  ·rw[aNF];omega
  rw[aNF];omega
 rw[aNF];omega
def agv (a b:Int) (W:World):Calls Tryz.prog 405 #[.int .i64 a,.int .i64 b] W fun e w'=>e=.returned (.int .i64 (TP a b))∧w'=W:=by
 unfold TP
 go_enter Tryz.func405,Tryz.ntmps405
 go_wp2
 all_goals (go_ret;exact⟨rfl,rfl⟩)
set_option maxHeartbeats 1000000 in
def ah4 (r p1 p2 p3 q1 q2 q3:Int) (hr:r=if p2=q2 then(if p3=q3 then TP p1 q1 else TP p3 q3)else TP q2 p2) (W:World):Calls Tryz.prog 404 #[.agg #[.int .i64 p1,.int .i64 p2,.int .i64 p3],.agg #[.int .i64 q1,.int .i64 q2,.int .i64 q3]] W fun e w'=>e=.returned (.int .i64 r)∧∃q m,w'=grow (W.drewN q) m:=by
 have j:=agv;generalize TP=c at j hr;have u:p2≠q2→c q2 p2=r:=fun h=>by rw[hr,DL h]
 have z:p2=q2→p3≠q3→c p3 q3=r:=fun h k=>by rw[hr,D9 h,DL k]
 have I:p2=q2→p3=q3→c p1 q1=r:=fun h k=>by rw[hr,D9 h,D9 k]
 clear hr
 go_enter Tryz.func404,Tryz.ntmps404
 go_wp2_with (go_at_call 405;refine(j _ _ _).mono ?_;rintro e w' ⟨rfl,rfl⟩)
 all_goals go_ret
 ·rename_i h;rw[u LJ];exact⟨rfl,0,_,aP2⟩
 ·rename_i h k;rw[z LJ (by simpa using k)];exact⟨rfl,0,_,aP2⟩
 rename_i h k;rw[I LJ (by simpa using k)];exact⟨rfl,0,_,aP2⟩
def KZ (p q:Int×Int×Int):Bool:= !decide (YL q p<0)
def yG (p q:Int×Int×Int):KZ p q=true↔¬(p.2.1<q.2.1∨q.2.1=p.2.1∧(q.2.2<p.2.2∨q.2.2=p.2.2∧q.1<p.1)):=by
 unfold KZ;rw[Rn,Y7,aoO]
def aNL (x y z:Int×Int×Int) (h:KZ x y=true) (k:KZ y z=true):KZ x z=true:=by
 rw[yG]at *;omega
def acP (x y:Int×Int×Int) (h:KZ x y=false):KZ y x=true:=by
 have h:¬KZ x y=true:=by rw[h];decide
 rw[yG]at *;omega
def ado (x y:Int×Int×Int) (h:KZ x y=true) (k:KZ y x=true):x=y:=by
 rw[yG]at *;obtain⟨j,m,q⟩:=x;obtain⟨u,z,I⟩:=y;simp only[Rk]at *;omega
def abp (p q:Int×Int×Int):KZ p q=false↔(p.2.1<q.2.1∨q.2.1=p.2.1∧(q.2.2<p.2.2∨q.2.2=p.2.2∧q.1<p.1)):=by
 rw[←LK,yG,Decidable.not_not]
def apn (x y z:Int×Int×Int) (h:KZ y x=false) (k:KZ z y=false):KZ z x=false:=by
 rw[abp]at *;omega
section
variable {α : Type}
def aAH (f:α→Int×Int×Int) (l:List α):Option (List α):=if l.length≤1099511627776 then some (RH (fun x y=>KZ (f x) (f y)) l)else none
def Ov (f:α→Int×Int×Int) (x:α):List Value:=[.int .i64 (f x).1,.int .i64 (f x).2.1,.int .i64 (f x).2.2]
def agC (f:α→Int×Int×Int) (x:α):(Ov f x).length=3:=rfl
def aa6 (f:α→Int×Int×Int) (x:α):∀v∈Ov f x,v.oneCell'=true:=fun v j=>by
 simp[Ov]at j;rcases j with rfl|rfl|rfl<;>rfl
def aBq (f:α→Int×Int×Int) (x y:α):ltOf (fun x y=>YL (f x) (f y)) x y= !KZ (f y) (f x):=by simp[ltOf,KZ]
def afj (f:α→Int×Int×Int):SWO (ltOf fun x y:α=>YL (f x) (f y)):=by
 refine⟨fun x=>?_,fun x y z h k=>?_,fun x y z h k=>?_⟩
 ·rw[aBq,(yG (f x) (f x)).2 AB];rfl
 ·rw[aBq,Rn]at *;exact apn _ _ _ h k
 rw[aBq,Bool.not_eq_false']at *;exact aNL _ _ _ k h
variable [Inhabited α]
def afa (f:α→Int×Int×Int) (blk off size:Nat) (w:World):CmpLays Tryz.prog 404 #[] (Ov f) 3 (fun x y=>YL (f x) (f y)) blk off size w:=
 fun m os j _ x y=>ah4 (YL (f x) (f y)) (f x).1 (f x).2.1 (f x).2.2 (f y).1 (f y).2.1 (f y).2.2 rfl (sortWorldK (Ov f) 3 w blk off m j os)
set_option maxHeartbeats 2000000 in
def ata (f:α→Int×Int×Int) (hf:∀x y,f x=f y→x=y) (e:α→D) (he:∀x,e x=.agg [Ac (f x).1,Ac (f x).2.1,Ac (f x).2.2]) (l r:List α) (h:aAH f l=some r):
 Ap 403 [.aO 0,.d (.fn (.func 404) [] [])] [.arr 330 3 (l.map e)] (.fP []) [.arr 330 3 (r.map e)]:=by
 unfold aAH at h;split at h
 ·rename_i hn;obtain rfl:=D5 h;have U:=agC f;refine Ah.aBb (enc:=Ov f) (fun x=>by rw[he];rfl) U (aa6 f) fun v w how=>?_;generalize hr:RH (fun x y=>KZ (f x) (f y)) l=r;have u:r.length=l.length:=by rw[←hr];exact(dP _ l).length_eq
  rcases how.2 with⟨rfl,h0⟩|⟨g,cap,I,rfl,hbase,hg,hnc,hcm,hcs,J⟩
  ·have hl:l=[]:=H9 h0;have hl':r=[]:=H9 (by rw[u,h0]);subst hl;subst hl';refine(AnyF.slices_SortFunc_none (P:=Tryz.prog) (ρ:=Tryz.Zt) { Tryz.as5 with } none 0 _ w).mono ?_;rintro e w' ⟨rfl,h⟩;subst h;exact⟨rfl,nO.nil _ _ _,Turns.refl _ _⟩
  have Y:g<w.heap.size:=(GZ.1 hg).1;have m:=ad5 (enc:=Ov f) U l
  have hH:HoldsK (Ov f) 3 w g 0 l.toArray:=by
   unfold HoldsK;have L:(flatK (Ov f) 3 l.toArray).size=l.length*3:=BP
   generalize flatK (Ov f) 3 l.toArray=F at m L;intro j M;refine⟨?_,by simp[World.frozen?,hg]⟩;have e0:(I.toList.take (l.length*3))[j]? =(l.flatMap (Ov f))[j]? :=by rw[J]
   rw[Nv AB,←m]at e0;simp only[World.cell?,hg,JJ];simp only[Option.isSome_none,RX,KN];rw[←zD,e0,zD,rG F j M,jP M];rfl
  have eg:∀args w,(callFunc 404 args).run Tryz.prog w=.ok (.enter 404 args) w:=enters_of Tryz.func404 AA rfl;have :=AnyQ.slices_SortFunc (P:=Tryz.prog) (ρ:=Tryz.Zt) Tryz.as5 3 Tryz.isAgg330 Tryz.sizeOf330 (Ov f) U (aa6 f) (fun x y=>YL (f x) (f y)) (afj f) 404 #[] g 0 cap l.toArray w eg (afa f _ _ _ _) hH Y Dz;refine this.mono ?_;rintro e' w' ⟨rfl,O,n,os,hp,hs,rfl⟩;obtain⟨Z,_,q⟩:=hp;have hsz':O.size=l.length:=by simpa using Z
  have e1:O.extract 0 l.toArray.size=O:=by rw[←Z];exact Array.extract_size
  rw[e1,Array.extract_size]at q
  have hm:O.toList=r:=by
   rw[←hr];refine aR2 (le:=fun x y=>KZ (f x) (f y)) (fun x y z=>aNL (f x) (f y) (f z)) (fun x y=>acP (f x) (f y)) (fun x y h k=>hf _ _ (ado (f x) (f y) h k)) q ?_;refine MO.2 fun i j hi M hij=>?_;have :=hs i j (El _) hij (by simpa[hsz']using M);rw[aBq,rG O i GR,rG O j aEW]at this;simpa using this
  obtain rfl:O=r.toArray:=by rw[←hm]
  have hF:=ad5 (enc:=Ov f) U r;have L:(flatK (Ov f) 3 r.toArray).size=l.length*3:=by simp[u]
  generalize hFF:flatK (Ov f) 3 r.toArray=F at hF L;refine⟨rfl,⟨by rw[aGl U],.inr ⟨g,cap,putCells id 0 F I,by rw[u],El _,?_,AB,hcm,by simpa[putCells]using hcs,?_⟩⟩,⟨rfl,rfl,rfl,by simp[sortWorldK,putRowK],fun c hc hne=>?_⟩⟩
  ·unfold sortWorldK putRowK;rw[hFF,heap_grow_old _ _ aGm];simp[putRow,mapBlock,Sort.ahead,Oi,hg,onCells]
  ·rw[←hF,u];apply bU;intro j;by_cases M:j<l.length*3
   ·have hjc:j<I.size:=by have :=Jw 3 hnc;omega
    rw[Nv M,zD,zD];have hjF:j<F.size:=AB
    simp[putCells,hjF,hjc]
   rw[List.getElem?_take_eq_none AB,IC Dz]
  unfold sortWorldK putRowK;rw[heap_grow_old _ _ (by simpa using hc)];have :g≠c:=fun e=>hne xM;simp[putRow,mapBlock,Sort.ahead,Oi,this]
 cases h
end
end Go.Proofs.YtldfpencimjjlaaGreat
end
section
namespace Go.Proofs.YtldfpencimjjlaaGreat
open Go.RowKit
def DF.freeze {C:EW} {ok:Nat→Prop} {H:List Bj} {es:List BN} {w:World} (q:DF C ok H es w) {k:Nat} {e:BN} {hd:Bj} (hk:es[k]? =some e) (hl:e.live=true) (O:H[k]? =some hd):DF C (fun b=>ok b∨Df hd.v=some b) H (es.set k .dead) w:=by
 have z:k<es.length:=(G5.1 hk).1;have L:=fun b m=>q.blk k _ hd b hk hl O m;have hg:Eb ok w (fun b=>ok b∨Df hd.v=some b) w:=fun b m=>⟨.inl m,rfl⟩
 refine⟨q.fr,fun b m=>.inl (q.yZ b m),?_,?_,q.names,by simp[q.hlen],?_,?_,?_⟩
 ·rintro b (m|m)
  ·exact q.y8 b m
  exact .inr (L b m).2.2
 ·rintro b (m|m)
  ·exact q.kW b m
  exact(L b m).2.1
 ·intro j e' h' he I;rcases NC z he with⟨rfl,rfl⟩|⟨_,J⟩
  ·trivial
  exact(q.ent j e' h' J I).mono hg (.refl _) (fun _ _ _=>rfl)
 ·intro j e' h' b he M I m;rcases NC z he with⟨rfl,rfl⟩|⟨hne,J⟩
  ·cases M
  have h3:=q.blk j e' h' b J M I m;refine⟨fun u=>?_,h3.2⟩;rcases u with u|u
  ·exact h3.1 u
  exact hne (q.Fj j k e' _ h' hd b J hk M hl I O m u)
 intro i j e1 e2 h1 h2 b he1 he2 U Y hh1 hh2 hb1 hb2;rcases NC z he1 with⟨rfl,rfl⟩|⟨_,Z⟩
 ·cases U
 rcases NC z he2 with⟨rfl,rfl⟩|⟨_,asG⟩
 ·cases Y
 exact q.Fj i j e1 e2 h1 h2 b Z asG U Y hh1 hh2 hb1 hb2
section
variable {P : Program} {o : Oper} {es : List BN}
def af2 {t M O:TypeId} {x:Operand} {k:Nat} {m:List (Value×D)} (ht:P.underlying t=some (.map M O)) (U:es[k]? =some (.map m)) (ho:o.op=.range t x):Bl P o [(x,.mp k)] es (.ptr es.length 0) (es.set k .dead++[.iter m []]):=
 .eff fun C ok H a w q hn=>by
  obtain⟨hd,Y,z⟩:=Gj q.ent q.hlen U;obtain⟨b,ms,clock,Z,I,h3⟩:=z;have hx:=UE (hn (x,.mp k) BP) Y;simp only at hx;have hb:b<w.heap.size:=(GZ.1 I).1;have m0:=q.freeze U rfl Y;have g0:Eb ok w (fun c=>ok c∨Df hd.v=some c) w:=fun c u=>⟨.inl u,rfl⟩
  have J:Df hd.v=some b:=by rw[Z];rfl
  have g1:Eb (fun c=>ok c∨Df hd.v=some c) w (fun c=>ok c∨Df hd.v=some c) (w.alloc (.mapIter (some b) clock #[] clock)):=fun c u=>⟨u,KC _ _ _ (m0.kW c u)⟩
  have L:Ez (fun c=>ok c∨Df hd.v=some c) (w.alloc (.mapIter (some b) clock #[] clock)) (H++[⟨.pointer (some ⟨w.heap.size,0,none⟩),0⟩]) ⟨.pointer (some ⟨w.heap.size,0,none⟩),0⟩ (.iter m []):=
   ⟨w.heap.size,b,ms,clock, #[],rfl,jo _ _,.inr J,(KC _ _ _ hb).trans I,(h3.mono g0).mono g1,rfl,fun j i hj=>by simp at hj⟩
  obtain⟨m1,g2⟩:=m0.push (.mapIter (some b) clock #[] clock) ⟨.pointer (some ⟨w.heap.size,0,none⟩),0⟩ _ (aC1 w) L;refine⟨.pointer (some ⟨w.heap.size,0,none⟩),_,_,_,.inl ?_,g0.trans g2,Names.push _ _,m1,.ptr _ _ w.heap.size 0 aI3⟩;have hr:=run_range_map (P:=P) w t M O b ms clock ht I;simp[execOp,ho,hx,Z,hr]
def born_inj {ok:Nat→Prop} {w:World} {es:List (Value×D)} {ms:Array MapEntry} {clock:Nat} (h:Ku ok w es ms clock) {i j:Nat} {m n:MapEntry} (hi:ms[i]? =some m) (u:ms[j]? =some n) (z:m.born=n.born):i=j:=by
 rcases aF6 i j with q|q|q
 ·have :=h.inc i j m n q hi u;omega
 ·exact q
 have :=h.inc j i n m q u hi;omega
def amf {ok:Nat→Prop} {w:World} {es:List (Value×D)} {ms:Array MapEntry} {clock:Nat} (h:Ku ok w es ms clock):(ms.toList.map (·.born)).Nodup:=by
 unfold List.Nodup;rw[MO];intro i j hi m q;simp only[Cm,TB]at hi m;have u:ms[i]? =some ms[i]:=Qy
 have z:ms[j]? =some ms[j]:=by simp[m]
 simp only[QI,Array.getElem_toList];intro e;have :=born_inj h u z e;omega
def at7 {K V:Type} {x:Operand} {n i:Nat} {ek:K→Value} {ev:V→D} {m:List (K×V)} {vis:List Nat} {p:K×V} (hp:m[i]? =some p) (he:es[n]? =some (.iter (m.map (CX ek ev)) (vis++[i]))) (ho:o.op=.entry x):
 Bl P o [(x,.ptr n 0)] es (.fP [.d (.lit (ek p.1)),.d (ev p.2)]) es:=
 .pure fun ok H a w u hl hn=>by
  obtain⟨hd,hh,I⟩:=Gj u hl he;obtain⟨bi,M,ms,clock,seen,O,h2,h3,h4,U,h6,h7⟩:=I;have J:=hn (x,.ptr n 0) BP;simp only at J;generalize hv:a.eval x=v at J;cases J with
  |ptr _ _ b' s Y=>
   rw[hh]at Y;obtain rfl:=D5 Y;simp only[Value.pointer.injEq,MK,Addr.mk.injEq]at O;obtain⟨rfl,_⟩:=O;obtain⟨e,Z,q2⟩:=h7 vis.length i BP;have L:(m.map (CX ek ev))[i]? =some (CX ek ev p):=by rw[JO,hp];rfl
   obtain⟨r1,r2,_⟩:=U.ent i _ e L Z;refine⟨.tuple #[e.key,e.val],?_,.fP _ _ rfl fun j hj=>?_⟩
   ·have q:seen.back?=some e.born:=by
     rw[Array.back?_eq_getElem?,h6];simpa using q2
    have z:e∈ms.toList:=by
     rw[Array.mem_toList_iff];exact Array.mem_of_getElem? Z
    have hf:ms.find? (·.born==e.born)=some e:=by rw[←Array.find?_toList];exact find_born e ms.toList (amf U) z
    have g1:(getObj b').run P w=.ok (.mapIter (some M) clock seen clock) w:=by simp[getObj,Sem.run,h2]
    have g2:(getObj M).run P w=.ok (.map ms clock) w:=Ri h4;simp[execOp,ho,hv,Instr.entry,g1,g2,q,hf]
   match j,hj with
   |0,_=>rw[show([Ag.d (.lit (ek p.1)),.d (ev p.2)]:List Ag).getD 0 .junk=.d (.lit (ek p.1))from rfl,show(#[e.key,e.val]:Array Value).getD 0 undef=e.key from rfl,r1];exact .d _ _ (.lit _)
   |1,_=>exact .d _ _ r2
end
def ai8 {P:Program} {w:World} {ok:Nat→Prop} {ty:TypeId} {bi U clock:Nat} {seen:Array Nat} {ms:Array MapEntry} {es:List (Value×D)} (hi:w.heap[bi]? =some (.mapIter (some U) clock seen clock)) (hb:w.heap[U]? =some (.map ms clock)) (hM:Ku ok w es ms clock):
 ((leftOf ms seen).size=0∧(Instr.next (.pointer (some ⟨bi,0,none⟩)) false ty).run P w=.ok (.tuple #[.bool false]) w)∨
 ∃e∈(leftOf ms seen).toList,∃m:World,(m=w∨m=w.drew)∧(Instr.next (.pointer (some ⟨bi,0,none⟩)) false ty).run P w=.ok (.tuple #[.bool true,e.key,e.val]) (m.putObj bi (.mapIter (some U) clock (seen.push e.born) clock)):=by
 have u:∀x∈ms.toList,x.born<clock:=fun x z=>by
  obtain⟨i,hi,rfl⟩:=Ia z;have I:i<ms.size:=GR
  have Y:i<es.length:=by rw[←hM.len];exact I
  have :=(hM.ent i es[i] ms[i] (by simp[Y]) (by simp[I])).2.2;simpa using this
 simp only[Instr.next,getObj,FV,Sem.run,hi,hb,Result.andThen,next_test_false seen ms clock clock u (EG _),RX,KN];unfold leftOf;have q:∀x∈(Array.filter (fun e=> !seen.contains e.born) ms).toList,x.born<clock:=fun x z=>u x (by simp at z ⊢;exact z.1);generalize Array.filter (fun e=> !seen.contains e.born) ms=L at q ⊢;have e1:L.filter (fun x=>decide (x.born<clock))=L:=Array.filter_eq_self.2 (fun x z=>by simpa using q x VN)
 have e2:L.filter (fun x=>decide (x.born≥clock))= #[]:=by
  rw[Array.filter_eq_empty_iff];intro x z;have :=q x VN;simp;omega
 simp only[e1,e2,Array.append_empty];by_cases h0:L.size=0
 ·left;have :L= #[]:=aH h0;subst this;refine⟨rfl,?_⟩;simp[choose,Sem.run,Question.forced]
 right;have Z:L.isEmpty=false:=by simp[Array.isEmpty,h0]
 simp only[Z,RX,KN,Array.empty_append,Array.size_map]
 have hch:∃(j:Nat) (m:World),j<L.size∧(m=w∨m=w.drew)∧(choose (Question.mapNext L.size)).run P w=.ok j m:=by
  by_cases hf:L.size≤1
  ·exact⟨0,w,AB,.inl rfl,by simp[choose,Sem.run,Question.forced,hf]⟩
  exact⟨_,w.drew,mW _ AB,.inr rfl,by
   simp only[choose,Sem.run,Question.forced,Gi,hf,KN,Question.cut]
   rfl⟩
 obtain⟨j,m,hj,J,M⟩:=hch;refine⟨L[j],BP,m,J,?_⟩;have hi1:m.heap[bi]? =some (.mapIter (some U) clock seen clock):=by rcases J with rfl|rfl<;>exact hi
 have O:∀(o':Obj),(setObj bi o').run P m=.ok () (m.putObj bi o'):=fun o'=>by simp[setObj,Sem.run,hi1,World.putObj]
 simp only[M,Array.getElem?_map,jP hj,Ic,FV,O,Result.andThen];rfl
section
variable {P : Program} {ops : Array Oper} {o : Oper} {rest l : List Oper} {σ : BI} {Q : Exit → BI → Prop} {K V : Type}
def amS {ms:Array MapEntry} {seen:Array Nat} {e:MapEntry} (h:e∈(leftOf ms seen).toList):e∈ms.toList∧e.born∉seen:=by
 unfold leftOf at h;simp at h;exact⟨by simpa using h.1,h.2⟩
def DU.next {ek:K→Value} {ev:V→D} {x:Operand} {ty:Bool} (n:Nat) (m:List (K×V)) (vis:List Nat) (hn:σ.ents[n]? =some (.iter (m.map (CX ek ev)) vis)) (ho:o.op=.next x false) (hx:σ.get x=.ptr n 0) (hg:Jg ops σ o.guard=some true)
 (h0:(∀i,i<m.length→i∈vis)→DU P ops rest (σ.sF o.dst (.fP [.d (EY false)])) Q)
 (h1:∀i p,m[i]? =some p→i∉vis→DU P ops rest (σ.put o.dst (.fP [.d (EY true),.d (.lit (ek p.1)),.d (ev p.2)]) (σ.ents.set n (.iter (m.map (CX ek ev)) (vis++[i])))) Q):DU P ops (o::rest) σ Q:=by
 refine⟨fun ro l2 Q' C ok H a w z hk=>?_⟩;show wpListIn (J5 ro) 0 P ops Q' (o::(rest++l2)) a w;unfold wpListIn;rw[D9 (PZ z (NQ hg))];have hv:=hx▸z.get x;obtain⟨hd,Z,hent⟩:=Gj z.mem.ent z.mem.hlen hn;obtain⟨bi,L,ms,clock,seen,q1,q2,q3,q4,q5,q6,q7⟩:=hent
 have J:a.eval x=.pointer (some ⟨bi,0,none⟩):=by
  generalize a.eval x=v at hv;cases hv with
  |ptr _ _ b' s hH=>
   rw[Z]at hH;obtain rfl:=D5 hH;simp only[Value.pointer.injEq,MK,Addr.mk.injEq]at q1;obtain⟨rfl,_⟩:=q1;rfl
 have hlen:ms.size=m.length:=by rw[q5.len,Cm]
 unfold Oper.wpIn;rw[eP _ _ _ (by rw[ho];intro c h;cases h)];rcases ai8 (P:=P) (ty:=o.type) q2 q4 q5 with⟨hs,hr⟩|⟨e,M,w1,hw1,hr⟩
 ·have he:(execOp a.eval o).run P w=.ok (.value (.tuple #[.bool false])) w:=by simp[execOp,ho,J,hr]
  rw[he];refine⟨fun _ _=>trivial,?_⟩
  refine(h0 fun i hi=>?_).run ro l2 Q' C ok H _ w (z.put o.dst (.refl _ _) (.refl _) z.mem (.fP _ _ rfl fun j q=>by
   match j,q with
   |0,_=>exact .d _ _ (.lit _))) hk
  have O:i<ms.size:=AB
  have hnot:ms[i]∉(leftOf ms seen).toList:=by
   have :leftOf ms seen= #[]:=aH hs;rw[this];simp
  have hin:ms[i].born∈seen:=by
   apply XG;intro hc;refine hnot ?_;unfold leftOf;simp[hc]
  obtain⟨j,q,U⟩:=Array.getElem_of_mem hin;have hjv:j<vis.length:=AB
  obtain⟨e,r1,r2⟩:=q7 j vis[j] (by simp[hjv])
  have hb:e.born=ms[i].born:=by
   have e3:seen[j]? =some seen[j]:=by simp[q]
   rw[e3,U]at r2;exact(D5 r2).symm
  have :=born_inj q5 r1 (show ms[i]? =some ms[i] by simp[O]) hb;rw[←this];simp
 have he:(execOp a.eval o).run P w=.ok (.value (.tuple #[.bool true,e.key,e.val])) (w1.putObj bi (.mapIter (some L) clock (seen.push e.born) clock)):=by simp[execOp,ho,J,hr]
 rw[he];refine⟨fun _ _=>trivial,?_⟩;obtain⟨aGA,hes⟩:=amS M;obtain⟨i,hi,hie⟩:=Ia aGA;have O:i<ms.size:=GR
 have Y:ms[i]? =some e:=by rw[←hie];simp[O]
 have him:i<m.length:=AB
 have hpe:(m.map (CX ek ev))[i]? =some (CX ek ev m[i]):=by simp[him]
 obtain⟨r1,r2,_⟩:=q5.ent i _ e hpe Y
 have aGB:i∉vis:=fun hc=>by
  obtain⟨j,q,U⟩:=Ia hc;obtain⟨e2,s1,s2⟩:=q7 j i (by simp[←U,q]);rw[Y]at s1;obtain rfl:=D5 s1;exact hes (Array.mem_of_getElem? s2)
 have I:DF C ok H σ.ents w1∧Eb ok w ok w1:=by
  rcases hw1 with rfl|rfl
  ·exact⟨z.mem,.refl _ _⟩
  exact z.mem.drew
 have hi1:w1.heap[bi]? =some (.mapIter (some L) clock seen clock):=by rcases hw1 with rfl|rfl<;>exact q2
 have u:w1.heap[L]? =some (.map ms clock):=(I.2 L q3).2.trans q4;have hne:L≠bi:=fun e=>by rw[e,hi1]at u;cases u
 obtain⟨m2,g2⟩:=I.1.akp (o:=.mapIter (some L) clock (seen.push e.born) clock) (e':=.iter (m.map (CX ek ev)) (vis++[i])) hn rfl Z (by rw[q1];rfl)
  (fun g=>⟨bi,L,ms,clock,seen.push e.born,q1,WJ (GZ.1 hi1).1,q3,(Yf hne).trans u,(q5.mono I.2).mono g,by simp[q6],fun j i' q=>by
   by_cases hjl:j<vis.length
   ·rw[Gs hjl]at q;obtain⟨e2,s1,s2⟩:=q7 j i' q;exact⟨e2,s1,by rw[Array.getElem?_push_lt AB];simpa[jP (show j<seen.size by omega)]using s2⟩
   have hj2:j=vis.length:=by
    have :=(G5.1 q).1;simp at this;omega
   subst hj2;simp at q;subst q
   exact⟨e,Y,by rw[←q6];simp⟩⟩)
 have g3:=I.2.trans g2
 have hp:=(h1 i m[i] (by simp[him]) aGB).run ro l2 Q' C ok H (a.put o.dst (.tuple #[.bool true,e.key,e.val])) _ (z.put o.dst (x:=.fP [.d (EY true),.d (.lit (ek m[i].1)),.d (ev m[i].2)]) g3 (.refl _) m2 (.fP _ _ rfl fun j q=>by
  match j,q with
  |0,_=>exact .d _ _ (.lit _)
  |1,_=>
   show R ok _ H (.d (.lit (ek m[i].1))) e.key;rw[r1];exact .d _ _ (.lit _)
  |2,_=>exact .d _ _ (r2.mono g3))) hk
 exact hp
def AO.aDd {A Rr:Type} {cd:Code} (S:List Nat→A→BI) (m:List (K×V)) (step:A→K×V→Option A) (Kf:A→Option Rr) (r:Rr) (a0:A) (hs:Bz σ (S [] a0))
 (L:∀vis:List Nat,vis.Nodup→(∀i,i∈vis↔i<m.length)→((vis.filterMap fun(i:Nat)=>m[i]?).foldlM step a0).bind Kf=some r)
 (round:∀(J:BI→Prop) (vis:List Nat) (a:A),((∀i,i<m.length→i∈vis)→Kf a=some r)→(∀i p,m[i]? =some p→i∉vis→∃a',step a p=some a'∧∀s,Bz s (S (vis++[i]) a')→J s)→AO P cd (S vis a) (Lc J Q)):AO P (.loop cd) σ Q:=by
 have U:∀vis:List Nat,vis.Nodup→(∀i∈vis,i<m.length)→∃rest,(vis++rest).Nodup∧(∀i,i∈vis++rest↔i<m.length):=fun vis q u=>by
  refine⟨(List.range m.length).filter fun i=> !vis.contains i,?_,fun i=>?_⟩
  ·refine xG.2 ⟨q,List.Pairwise.filter _ List.nodup_range,fun a ha b Y e=>?_⟩;subst e;rw[FM]at Y;simp[ha]at Y
  rw[Gw,FM];constructor
  ·rintro(h|h)
   ·exact u i h
   simpa using h.1
  intro h;by_cases hc:i∈vis
  ·exact .inl hc
  exact .inr ⟨LJ,by simp[hc]⟩
 refine AO.loop (fun n s=>∃vis a,n=m.length-vis.length∧vis.Nodup∧(∀i∈vis,i<m.length)∧(vis.filterMap fun(i:Nat)=>m[i]?).foldlM step a0=some a∧Bz s (S vis a)) (m.length) ⟨[],a0,BP,aN,fun i h=>IU,rfl,hs⟩ ?_;rintro n s ⟨vis,a,rfl,q,u,hf,M⟩;refine CZ M (round _ vis a (fun hc=>?_) (fun i p hp hi=>?_))
 ·have :=L vis q (fun i=>⟨u i,hc i⟩);rw[hf]at this;exact this
 have him:i<m.length:=(G5.1 hp).1;have z:(vis++[i]).Nodup:=xG.2 ⟨q,BP,fun a ha b Y e=>by simp at Y;subst Y;subst e;exact hi ha⟩
 have I:∀j∈vis++[i],j<m.length:=fun j Z=>by
  rcases Gw.1 Z with h|h
  ·exact u j h
  simp at h;subst h;exact him
 obtain⟨rest,h1,h2⟩:=U (vis++[i]) z I;have h3:=L _ h1 h2;rw[lK,lK]at h3;simp only[QD,List.filterMap_nil,hp,List.foldlM_append,UQ,List.foldlM_nil,hf,bind,pure,Aa]at h3;cases hst:step a p with
 |none=>rw[hst]at h3;simp at h3
 |some a'=>
  refine⟨a',rfl,fun s hs=>⟨m.length-(vis++[i]).length,?_,vis++[i],a',rfl,z,I,?_,hs⟩⟩
  ·have :vis.length<m.length:=by
    have M:vis.length≤(List.range m.length).length:=by
     refine aWg q ?_;intro j Z;simpa using u j Z
    have O:(vis++[i]).length≤(List.range m.length).length:=by
     refine aWg z ?_;intro j Z;simpa using I j Z
    simp at O;omega
   simp;omega
  rw[lK,List.foldlM_append,hf];simp[hp,hst]
end
def as7 {α:Type}:∀(m:List α) (vis:List Nat),vis.Nodup→(∀i,i∈vis↔i<m.length)→(vis.filterMap fun(i:Nat)=>m[i]?).Perm m:=fun m vis j q=>by
 have u:vis.Perm (List.range m.length):=by
  rw[List.perm_iff_count];intro a;rw[j.count,List.nodup_range.count];simp[q a]
 have z:((List.range m.length).filterMap fun(i:Nat)=>m[i]?)=m:=by
  apply bU;intro i
  have :∀(n:Nat),n≤m.length→((List.range n).filterMap fun(i:Nat)=>m[i]?)=m.take n:=by
   intro n
   induction n with
   |zero=>intro _;simp
   |succ n I=>
    intro L;rw[List.range_succ,lK,I AB];have hl:n<m.length:=AB
    simp[hl]
  rw[this m.length (EG _),Gm]
 have J:=u.filterMap (fun(i:Nat)=>m[i]?)
 rwa [z]at J
def aJW {α β:Type} {c:α→Bool} {f:α→β} {b:Nat}:∀(l:List α) (v:List β),
 l.foldlM (fun v p=>bif c p then(Ci b v [f p]).bind fun x=>some x else some v) v=if(v.length+(l.filter c).length)*b≤140737488355328∨l.filter c=[]then some (v++(l.filter c).map f)else none
 | [],v=>BP
 |p::l,v=>by
  rw[UQ];cases q:c p with
  |false=>
   have m:=aJW (c:=c) (f:=f) (b:=b) l v;simp only[BM,bind,Aa,m,Rl,q,RX,KN]
  |true=>
   simp only[BZ,Rl,q,Jv];have z:Ci b v [f p]=if(v.length+[f p].length)*b≤140737488355328 then some (v++[f p])else none:=rfl
   rw[z];by_cases j:(v.length+[f p].length)*b≤140737488355328
   ·rw[D9 j];have m:=aJW (c:=c) (f:=f) (b:=b) l (v++[f p]);simp only[Aa,bind,m];have u:(v++[f p]).length+(l.filter c).length=v.length+(p::l.filter c).length:=Dz
    rw[u];by_cases hl:l.filter c=[]
    ·rw[hl]at u ⊢;simp only[GI,NK]at j ⊢;simp[j]
    simp[hl]
   rw[DL j];simp only[Option.bind_none,bind];rw[DL];rintro(h|h)
   ·refine j (F6 (Jw _ ?_) h);simp
   cases h
def apb {α β Rr:Type} {c:α→Bool} {f:α→β} {b:Nat} {q m:List α} {v:List β} {Kf:List β→Option Rr} {r:Rr} (z:q.Perm m) (I:∀x y,x.Perm y→Kf x=Kf y)
 (h:(m.foldlM (fun v p=>bif c p then(Ci b v [f p]).bind fun x=>some x else some v) v).bind Kf=some r):
 (q.foldlM (fun v p=>bif c p then(Ci b v [f p]).bind fun x=>some x else some v) v).bind Kf=some r:=by
 rw[aJW]at h ⊢;have j:=z.filter c
 have e:((v.length+(q.filter c).length)*b≤140737488355328∨q.filter c=[])↔((v.length+(m.filter c).length)*b≤140737488355328∨m.filter c=[]):=by
  rw[j.length_eq];constructor
  ·rintro(h|h)
   ·exact .inl h
   exact .inr (by rw[h]at j;exact j.symm.eq_nil)
  rintro(h|h)
  ·exact .inl h
  exact .inr (by rw[h]at j;exact j.eq_nil)
 by_cases u:((v.length+(m.filter c).length)*b≤140737488355328∨m.filter c=[])
 ·rw[D9 u]at h;rw[D9 (e.2 u)];simp only[Aa]at h ⊢;rw[←h];exact I _ _ ((j.map f).append_left v)
 rw[DL u]at h;cases h
section
variable {K V : Type} [BEq K]
def Fl :List (K×V)→K→Nat
 | [],_=>0
 |p::m,k=>bif k==p.1 then 0 else Fl m k+1
def adT {ek:K→Value} {kd:TypeDesc} (hs:∀a b,Instr.sameNow kd (ek a) (ek b)=some (a==b)) (k:K) (v:V):∀(m:List (K×V)) (l:List MapEntry) (i:Nat),l.map (·.key)=m.map (fun p=>ek p.1)→
 (Instr.findNow kd (ek k) l i=some none∧D6 m k=none∧Et m k v=m++[(k,v)]∧Fl m k=m.length)∨
 ∃e p,Instr.findNow kd (ek k) l i=some (some (i+Fl m k,e.val))∧l[Fl m k]? =some e∧m[Fl m k]? =some p∧D6 m k=some p.2∧(k==p.1)=true∧Et m k v=m.set (Fl m k) (k,v)
 | [],[],_,_=>.inl ⟨rfl,rfl,rfl,rfl⟩
 | [],_::_,_,h=>IU
 |_::_,[],_,h=>IU
 |p::m,e::l,i,h=>by
  simp only[LC,aMU]at h;cases j:(k==p.1)with
  |true=>
   refine .inr ⟨e,p,?_,?_,?_,?_,j,?_⟩
   ·simp[Instr.findNow,h.1,hs,j,Fl]
   ·simp[Fl,j]
   ·simp[Fl,j]
   ·simp[D6,j]
   simp[Et,Fl,j]
  |false=>
   rcases adT hs k v m l (i+1) h.2 with⟨q,u,z,I⟩|⟨e',J,q,u,z,I,L,M⟩
   ·refine .inl ⟨?_,?_,?_,?_⟩
    ·simp[Instr.findNow,h.1,hs,j,q]
    ·simp[D6,j,u]
    ·simp[Et,j,z]
    simp[Fl,j,I]
   refine .inr ⟨e',J,?_,by simpa[Fl,j]using u,by simpa[Fl,j]using z,?_,L,?_⟩
   ·simp[Instr.findNow,h.1,hs,j,q,Fl];omega
   ·simp[D6,j,I]
   simp[Et,j,M,Fl]
def aQQ (k:K) (v:V):∀m:List (K×V),(Et m k v)[Fl m k]? =some (k,v)
 | []=>rfl
 |p::m=>by
  cases j:(k==p.1)with
  |true=>simp[Et,Fl,j]
  |false=>simp[Et,Fl,j,aQQ k v m]
def aTF (k:K) (v u:V):∀m:List (K×V),(Et m k v).set (Fl m k) (k,u)=Et m k u
 | []=>rfl
 |p::m=>by
  cases j:(k==p.1)with
  |true=>simp[Et,Fl,j]
  |false=>simp[Et,Fl,j,aTF k v u m]
end
section
variable {ok : Nat → Prop} {w : World} {es : List (Value × D)} {ms : Array MapEntry} {clock : Nat}
def Ry.nil:Ry #[] 0:=⟨rfl,fun i e h=>IU⟩
def Ry.push (h:Ry ms clock) {k v:Value}:Ry (ms.push { key:=k,val:=v,born:=clock }) (clock+1):=by
 refine⟨by simp[h.1],fun i e j=>?_⟩;rw[aJY]at j;split at j
 ·rename_i m;obtain rfl:=D5 j;rw[m];exact h.1
 exact h.2 i e j
def Ry.modify (h:Ry ms clock) (j:Nat) (f:MapEntry→MapEntry) (q:∀e,(f e).born=e.born):Ry (ms.modify j f) clock:=by
 refine⟨by simp[h.1],fun i e m=>?_⟩;rw[Oi]at m;split at m
 ·rw[VL]at m;obtain⟨u,z,rfl⟩:=m;rw[q];exact h.2 i u z
 exact h.2 i e m
def Ry.find (h:Ry ms clock) {n:Nat} (m:n<ms.size):ms.findIdx? (fun e=>(e.born:Int)==(n:Int))=some n:=by
 rw[Array.findIdx?_eq_some_iff_getElem];refine⟨m,?_,fun j q=>?_⟩
 ·have :=h.2 n ms[n] (by simp[m]);simp[this]
 have :=h.2 j ms[j] (by simp[Nat.lt_trans q m]);simp[this];omega
def arW (ms:Array MapEntry) (j:Nat) (k v:Value) (m:∀e,ms[j]? =some e→e.key=k):(ms.modify j fun e=>{ e with val:=v })=ms.modify j fun e=>{ e with key:=k,val:=v }:=by
 apply vN;intro i;rw[Oi,Oi];split
 ·rename_i e;subst e;cases q:ms[j]? with
  |none=>rfl
  |some e=>simp[m e q]
 rfl
def akQ (ms:Array MapEntry) (j:Nat) (k v:Value) (m:∀e,ms[j]? =some e→e.val=v):(ms.modify j fun e=>{ e with key:=k })=ms.modify j fun e=>{ e with key:=k,val:=v }:=by
 apply vN;intro i;rw[Oi,Oi];split
 ·rename_i e;subst e;cases q:ms[j]? with
  |none=>rfl
  |some e=>simp[m e q]
 rfl
end
section
variable {P : Program} {o : Oper} {es : List BN} {K V : Type} [BEq K]
def ao5 {t:TypeId} {j:Array (Nat×Operand)} {m:List (Nat×Nat)} {z:Value} {cs:List Ag} (q:JD P t m z) (vs:List Ag) (u:KA (fun(i:Nat)=>m[i]?) (Fa z) j.toList vs=cs) (I:Na (fun(i:Nat)=>m[i]?) (Fa z).length j.toList vs=true) (J:o.op=.build t j):
 Bl P o (O1 j.toList vs) es (.ag cs) es:=u▸asR q vs I J
def RI (x y:Int):Int:=bif decide (y>x)then y else x
def adz {x y:Operand} {ats:Array TypeId} {kd:IntKind} {a b:Int} (u:o.op=.call { callee:=.builtin .max,args:= #[x,y],argTypes:=ats }):
 Bl P o [(x,.d (.lit (.int kd a))),(y,.d (.lit (.int kd b)))] es (.d (.lit (.int kd (RI a b)))) es:=
 .pure fun ok H c w _ _ j=>by
  have m:=(Ej j).1.lit;have q:=(Ej j).2.lit;simp only at m q;have e:RI a b=if b>a then b else a:=by unfold RI;by_cases h:b>a<;>simp[h]
  refine⟨.int kd (RI a b),?_,.d _ _ (.lit _)⟩;rw[e];simp[execOp,u,resolve,invoke,builtin,m,q,Go.run_max_int2]
def aPa {t:TypeId} (z:o.op=.makeMap t none):Bl P o [] es (.mp es.length) (es++[.gV []]):=
 .eff fun C ok H a w q O=>by
  have u:Ez ok (w.alloc (.map #[] 0)) (H++[⟨.map (some w.heap.size),0⟩]) ⟨.map (some w.heap.size),0⟩ (.gV []):=
   ⟨w.heap.size, #[],0,rfl,(aKt w _).1,⟨rfl,fun i e m I=>by simp at I,fun i j m n _ q=>V3⟩,.nil⟩
  obtain⟨J,L⟩:=q.push (.map #[] 0) ⟨.map (some w.heap.size),0⟩ _ (fun b u=>aJr) u;refine⟨.map (some w.heap.size),_,ok,_,.inl ?_,L,Names.push _ _,J,.mp _ _ 0 rfl aI3⟩;have M:(newObj (.map #[] 0)).run P w=.ok w.heap.size (w.alloc (.map #[] 0)):=rfl;simp[execOp,z,Instr.makeMap,M]
def rJ {t J L:TypeId} {x y:Operand} {k:Nat} {ek:K→Value} (ev:V→D) (M:V) {z:Value} {m:List (K×V)} {key:K} (Z:P.underlying t=some (.map J L)) (hk:KeyTy P J ek) (hz:(P.info? L).bind (·.zero)=some z) (q:Yz z=ev M) (u:z.cells.all (·.oneCell')=true)
 (he:es[k]? =some (.gV (m.map (CX ek ev)))) (ho:o.op=.lookup t x y false):Bl P o [(x,.mp k),(y,.d (.lit (ek key)))] es (.d (ev ((D6 m key).getD M))) es:=
 .pure fun ok H a w j hl O=>by
  obtain⟨hd,hh,I⟩:=Gj j hl he;obtain⟨b,ms,clock,h1,h2,h3,_⟩:=I;have U:=UE (Ej O).1 hh;have Y:=(Ej O).2.lit;simp only at U Y;obtain⟨v,hr,hv⟩:=aCb (key:=key) ev Z hk hz q u h2 h3 false;refine⟨v,?_,.d _ _ hv⟩;simp[execOp,ho,U,Y,h1,hr]
def arx {t J L:TypeId} {x y:Operand} {k:Nat} {ek:K→Value} (ev:V→D) (M:V) {z:Value} {m:List (K×V)} {key:K} (Z:P.underlying t=some (.map J L)) (hk:KeyTy P J ek) (hz:(P.info? L).bind (·.zero)=some z) (q:Yz z=ev M) (u:z.cells.all (·.oneCell')=true)
 (he:es[k]? =some (.gV (m.map (CX ek ev)))) (ho:o.op=.lookup t x y true):Bl P o [(x,.mp k),(y,.d (.lit (ek key)))] es (.fP [.d (ev ((D6 m key).getD M)),.d (EY (D6 m key).isSome)]) es:=
 .pure fun ok H a w j hl O=>by
  obtain⟨hd,hh,I⟩:=Gj j hl he;obtain⟨b,ms,clock,h1,h2,h3,_⟩:=I;have U:=UE (Ej O).1 hh;have Y:=(Ej O).2.lit;simp only at U Y;obtain⟨v,hr,hv⟩:=aCb (key:=key) ev Z hk hz q u h2 h3 true;refine⟨.tuple #[v,.bool (D6 m key).isSome],?_,.fP _ _ rfl fun i hi=>?_⟩
  ·simp[execOp,ho,U,Y,h1,hr]
  match i,hi with
  |0,_=>exact .d _ _ hv
  |1,_=>exact .d _ _ (.lit _)
def zF {C:EW} {ok:Nat→Prop} {H:List Bj} {w:World} (I:DF C ok H es w) {k:Nat} {es0 q:List (Value×D)} {b clock j:Nat} {ms m:Array MapEntry} {hd:Bj} (J:es[k]? =some (.gV es0)) (L:H[k]? =some hd) (u:hd.v=.map (some b)) (z:w.heap[b]? =some (.map ms clock))
 (M:Ku ok w q m j) (O:Ry m j):(setObj b (.map m j)).run P w=.ok () (w.putObj b (.map m j))∧DF C ok H (es.set k (.gV q)) (w.putObj b (.map m j))∧Eb ok w ok (w.putObj b (.map m j)):=by
 refine⟨by simp[setObj,Sem.run,z,World.putObj],I.akp J rfl L qZ fun U=>⟨b,m,j,u,WJ (GZ.1 z).1,M.mono U,O⟩⟩
def aic {t kt vt:TypeId} {x y u:Operand} {k:Nat} {ek:K→Value} (ev:V→D) {m:List (K×V)} {key:K} {val:V} (ht:P.underlying t=some (.map kt vt)) (J:KeyTy P kt ek) (Y:es[k]? =some (.gV (m.map (CX ek ev)))) (ho:o.op=.mapUpdate t x y u):
 Bl P o [(x,.mp k),(y,.d (.lit (ek key))),(u,.d (ev val))] es .junk (es.set k (.gV ((Et m key val).map (CX ek ev)))):=
 .eff fun C ok H a w L Z=>by
  obtain⟨hd,hh,hok⟩:=Gj L.ent L.hlen Y;obtain⟨b,ms,clock,M,O,U,h4⟩:=hok;have hx:=UE (Z (x,.mp k) BP) hh;have hy:=(Z (y,.d (.lit (ek key))) BP).lit;have hu:Dv ok w (ev val) (a.eval u):=by have :=Z (u,.d (ev val)) BP;cases this with |d _ _ h=>exact h
  simp only at hx hy;obtain⟨kd,q,hs⟩:=J.same;have hks:ms.toList.map (·.key)=m.map (fun p=>ek p.1):=by rw[U.keys];simp[CX,wF]
  have z:=J.check;rcases aI2 (i:=0) hs key val m ms.toList hks with⟨q1,_,q3⟩|⟨j,e,p,q1,q2,q3,_,q5,q6⟩
  ·have hM:=U.push (k:=ek key) hu;obtain⟨r1,r2,r3⟩:=zF (P:=P) L Y hh M O hM h4.push;refine⟨undef,_,ok,H,.inr ⟨rfl,?_⟩,r3,.refl _,?_,.junk _⟩
   ·simp[execOp,ho,hx,hy,M,Instr.mapUpdate,underlying,ht,Ri O,z,Instr.findKey,q,q1,r1]
   rw[q3,JM];exact r2
  have hM:=U.modify (k:=ek key) hu j;obtain⟨r1,r2,r3⟩:=zF (P:=P) L Y hh M O hM (h4.modify j _ fun _=>rfl)
  have I:e.key=ek key:=by
   have h5:(m.map (CX ek ev))[j]? =some (CX ek ev p):=by rw[JO,q3];rfl
   rw[(U.ent j _ e h5 nR).1,J.eq _ _ q5];rfl
  have hst:∀w,(Instr.keyThatStays (ek key) (ek key)).run P w=.ok (ek key) w:=fun w=>by simp[Instr.keyThatStays,J.bits]
  have hms:ms[j]? =some e:=nR
  refine⟨undef,_,ok,H,.inr ⟨rfl,?_⟩,r3,.refl _,?_,.junk _⟩
  ·simp[execOp,ho,hx,hy,M,Instr.mapUpdate,underlying,ht,Ri O,z,Instr.findKey,q,q1,hms,I,hst,r1]
  rw[q6,aDc];exact r2
def aNE {t kt vt:TypeId} {x y:Operand} {k:Nat} {ek:K→Value} (ev:V→D) (J:V) {z:Value} {m:List (K×V)} {key:K} (ht:P.underlying t=some (.map kt vt)) (hk:KeyTy P kt ek) (hz:(P.info? vt).bind (·.zero)=some z) (hzv:Yz z=ev J) (hzl:z.cells.all (·.oneCell')=true)
 (he:es[k]? =some (.gV (m.map (CX ek ev)))) (ho:o.op=.mapEntry t x y):
 Bl P o [(x,.mp k),(y,.d (.lit (ek key)))] es (.fP [.d (ev ((D6 m key).getD J)),.d (Ac (Fl m key:Nat))]) (es.set k (.gV ((Et m key ((D6 m key).getD J)).map (CX ek ev)))):=
 .eff fun C ok H a w hm hn=>by
  obtain⟨hd,hh,hok⟩:=Gj hm.ent hm.hlen he;obtain⟨b,ms,clock,h1,h2,L,h4⟩:=hok;have hx:=UE (Ej hn).1 hh;have hy:=(Ej hn).2.lit;simp only at hx hy;obtain⟨kd,M,hs⟩:=hk.same;have hks:ms.toList.map (·.key)=m.map (fun p=>ek p.1):=by rw[L.keys];simp[CX,wF]
  have O:=hk.check;have hml:ms.size=m.length:=by have :=L.len;simpa using this
  obtain⟨i0,hi0,hz'⟩:=jR.1 hz;rcases adT (i:=0) hs key ((D6 m key).getD J) m ms.toList hks with⟨q1,q2,q3,q4⟩|⟨e,p,q1,q2,q3,q4,q5,q6⟩
  ·have U:Dv ok w (ev ((D6 m key).getD J)) z:=by
    rw[q2];have :=abm (ok:=ok) (w:=w) hzl;rw[hzv]at this;exact this
   have hM:=L.push (k:=ek key) U;obtain⟨r1,r2,Y⟩:=zF (P:=P) hm he hh h1 h2 hM h4.push;refine⟨.tuple #[z,goInt clock],_,ok,H,.inl ?_,Y,.refl _,?_,.fP _ _ rfl fun i hi=>?_⟩
   ·simp[execOp,ho,hx,hy,h1,Instr.mapEntry,underlying,ht,Ri h2,O,Instr.findKey,M,q1,r1,zeroValue,typeInfo,hi0,hz']
   ·rw[q3,JM];exact r2
   match i,hi with
   |0,_=>
    have u:=U.mono Y;exact .d _ _ u
   |1,_=>
    have :goInt (clock:Nat)=.int .i64 (Fl m key:Nat):=by rw[q4,←hml,←h4.1];rfl
    show R ok _ H (.d (Ac (Fl m key:Nat))) (goInt clock);rw[this];exact .d _ _ (.lit _)
  have h5:(m.map (CX ek ev))[Fl m key]? =some (CX ek ev p):=by rw[JO,q3];rfl
  have j:ms[Fl m key]? =some e:=nR
  have q:=L.ent _ _ e h5 j;have U:Dv ok w (ev ((D6 m key).getD J)) e.val:=by rw[q4];exact q.2.1
  have hM:=L.modify (k:=ek key) U (Fl m key);have hmk:=akQ ms (Fl m key) (ek key) e.val (fun e' Z=>by rw[j]at Z;rw[←D5 Z]);rw[←hmk]at hM;have hkey:e.key=ek key:=by rw[q.1,hk.eq _ _ q5];rfl
  obtain⟨r1,r2,Y⟩:=zF (P:=P) hm he hh h1 h2 hM (h4.modify _ _ fun _=>rfl);have hst:∀w,(Instr.keyThatStays (ek key) (ek key)).run P w=.ok (ek key) w:=fun w=>by simp[Instr.keyThatStays,hk.bits]
  have I:e.born=Fl m key:=h4.2 _ e j;refine⟨.tuple #[e.val,goInt (Fl m key:Nat)],_,ok,H,.inl ?_,Y,.refl _,?_,.fP _ _ rfl fun i hi=>?_⟩
  ·simp[execOp,ho,hx,hy,h1,Instr.mapEntry,underlying,ht,Ri h2,O,Instr.findKey,M,q1,j,hkey,hst,r1,I]
  ·rw[q6,aDc];exact r2
  match i,hi with
  |0,_=>
   have u:=U.mono Y;exact .d _ _ u
  |1,_=>exact .d _ _ (.lit _)
def aJ7 {t kt:TypeId} {x s u:Operand} {k:Nat} {ek:K→Value} (ev:V→D) {m:List (K×V)} {key:K} {z0 val:V} (hk:KeyTy P kt ek) (Z:es[k]? =some (.gV ((Et m key z0).map (CX ek ev)))) (ho:o.op=.entryStore t x s u):
 Bl P o [(x,.mp k),(s,.d (Ac (Fl m key:Nat))),(u,.d (ev val))] es .junk (es.set k (.gV ((Et m key val).map (CX ek ev)))):=
 .eff fun C ok H a w L M=>by
  obtain⟨hd,hh,O⟩:=Gj L.ent L.hlen Z;obtain⟨b,ms,clock,h1,h2,U,h4⟩:=O;have hx:=UE (M (x,.mp k) BP) hh;have hy:a.eval s=.int .i64 (Fl m key:Nat):=(M (s,.d (Ac (Fl m key:Nat))) BP).lit;have hu:Dv ok w (ev val) (a.eval u):=by have :=M (u,.d (ev val)) BP;cases this with |d _ _ h=>exact h
  simp only at hx;have j:=aQQ key z0 m;have h5:((Et m key z0).map (CX ek ev))[Fl m key]? =some (CX ek ev (key,z0)):=by rw[JO,j];rfl
  have q:Fl m key<ms.size:=by
   have h6:=(G5.1 j).1;have :=U.len;rw[Cm]at this;omega
  have z:ms[Fl m key]? =some ms[Fl m key]:=by simp[q]
  have I:=U.ent _ _ _ h5 z;have hM:=U.modify (k:=ek key) hu (Fl m key);have Y:=arW ms (Fl m key) (ek key) (a.eval u) (fun e' J=>by rw[z]at J;rw[←D5 J];exact I.1);rw[←Y]at hM;obtain⟨r1,r2,r3⟩:=zF (P:=P) L Z hh h1 h2 hM (h4.modify _ _ fun _=>rfl);refine⟨undef,_,ok,H,.inr ⟨rfl,?_⟩,r3,.refl _,?_,.junk _⟩
  ·simp[execOp,ho,hx,hy,h1,Instr.entryStore,Ri h2,asInt,asIntOf,h4.find q,r1]
  have e1:((Et m key z0).map (CX ek ev)).set (Fl m key) (ek key,ev val)=(Et m key val).map (CX ek ev):=by
   rw[←aTF key z0 val m,aDc];rfl
  rw[←e1];exact r2
end
section
variable {P : Program} {σ : BI} {Q : Exit → BI → Prop} {c : Operand} {x y : Code}
def DN {A:Type} {b:Bool} {u v z:A} (h:(bif b then u else v)=z) (j:u=z→AO P x σ Q) (m:v=z→AO P y σ Q) (q:σ.get c=.d (.lit (.bool b)):=by kernel_rfl):AO P (.cond c x y) σ Q:=
 AO.cond b q (fun e=>j (SY e h)) (fun e=>m (SK e h))
def Bf {A:Type} {b:Bool} {u v z:A} (h:(bif b then u else v)=z) (j:u=z→Q .normal σ) (m:v=z→AO P y σ Q) (q:σ.get c=.d (.lit (.bool b)):=by kernel_rfl):AO P (.cond c .skip y) σ Q:=DN h (fun e=>AO.skip (j e)) m q
def Az {A:Type} {b:Bool} {u v z:A} (h:(bif b then u else v)=z) (j:u=z→AO P x σ Q) (m:v=z→Q .normal σ) (q:σ.get c=.d (.lit (.bool b)):=by kernel_rfl):AO P (.cond c x .skip) σ Q:=DN h j (fun e=>AO.skip (m e)) q
end
section
variable {P : Program} {ops : Array Oper} {o : Oper} {rest : List Oper} {σ σ' : BI} {K : Exit → BI → Prop} {ns : List (Operand × Ag)} {x : Ag} {es' : List BN}
def DU.f (h:Bl P o ns σ.ents x es') (k:DU P ops rest (σ.put o.dst x es') K) (j:(ns.map fun n=>σ.get n.1)=ns.map (·.2):=by kernel_rfl) (m:Jg ops σ o.guard=some true:=by kernel_rfl) (q:(MX ns).all (tmpsOf o).contains=true:=by kernel_rfl):DU P ops (o::rest) σ K:=DU.e es' h k rfl j m q
def Chain.f (h:Bl P o ns σ.ents x es') (k:Chain P ops rest (σ.put o.dst x es') σ') (j:(ns.map fun n=>σ.get n.1)=ns.map (·.2):=by kernel_rfl) (m:Jg ops σ o.guard=some true:=by kernel_rfl):Chain P ops (o::rest) σ σ':=Chain.e es' h k rfl j m
def FB.f {rs:List Ag} {ess:List (List BN)} {bs:List Bool} (h:Bl P o ns σ.ents x es') (k:FB P ops rest (σ.put o.dst x es') rs ess bs σ') (j:(ns.map fun n=>σ.get n.1)=ns.map (·.2):=by kernel_rfl) (m:Jg ops σ o.guard=some true:=by kernel_rfl)
 (q:(MX ns).all (tmpsOf o).contains=true:=by kernel_rfl):FB P ops (o::rest) σ (x::rs) (es'::ess) (true::bs) σ':=FB.e es' h k rfl j m q
end
def WS {A:Type} {b:Bool} {u v z:A} (h:(bif b then u else v)=z):(b=true∧u=z)∨(b=false∧v=z):=by
 cases b with
 |true=>exact .inl ⟨rfl,h⟩
 |false=>exact .inr ⟨rfl,h⟩
def CU {A:Type} {a b:A} (h:some a=some b):a=b:=D5 h
def Zh {α β γ:Type} {x:Option α} {y:α→Option β} {f:α→β→Option γ} {z:γ} (h:(x.bind fun a=>(y a).bind (f a))=some z):∃a,x=some a∧∃b,y a=some b∧f a b=some z:=by
 obtain⟨a,j,h⟩:=Dh h;obtain⟨b,m,h⟩:=Dh h;exact⟨a,j,b,m,h⟩
def aDf {α β γ δ:Type} {x:Option α} {y:α→Option β} {w:α→β→Option δ} {f:α→β→δ→Option γ} {z:γ} (h:(x.bind fun a=>(y a).bind fun b=>(w a b).bind (f a b))=some z):∃a,x=some a∧∃b,y a=some b∧∃d,w a b=some d∧f a b d=some z:=by
 obtain⟨a,j,b,m,h⟩:=Zh h;obtain⟨d,q,h⟩:=Dh h;exact⟨a,j,b,m,d,q,h⟩
def AP {α β:Type} {x:Option α} {f:α→Option β} {z:β} {G:Prop} (h:x.bind f=some z) (k:∀a,x=some a→f a=some z→G):G:=by
 obtain⟨a,j,h⟩:=Dh h;exact k a j h
def Bh {α β γ:Type} {x:Option α} {y:α→Option β} {f:α→β→Option γ} {z:γ} {G:Prop} (h:(x.bind fun a=>(y a).bind (f a))=some z) (k:∀a,x=some a→∀b,y a=some b→f a b=some z→G):G:=by
 obtain⟨a,j,b,m,h⟩:=Zh h;exact k a j b m h
def I8 {α β γ δ:Type} {x:Option α} {y:α→Option β} {w:α→β→Option δ} {f:α→β→δ→Option γ} {z:γ} {G:Prop} (h:(x.bind fun a=>(y a).bind fun b=>(w a b).bind (f a b))=some z) (k:∀a,x=some a→∀b,y a=some b→∀d,w a b=some d→f a b d=some z→G):G:=by
 obtain⟨a,j,b,m,d,q,h⟩:=aDf h;exact k a j b m d q h
section
variable {P : Program} {o : Oper} {es : List BN} {α : Type}
def BG {x y:Operand} {t e:TypeId} {i:Int} {agg:Bool} {size:Nat} (enc:α→D) {l:List α} {a:α} (h:Ai l i=some a) (j:P.underlying t=some (.slice e)) (m:ET P e agg size) (q:o.op=.indexAddr t x y) (hs:(enc a).cells.length=size:=by kernel_rfl):
 Bl P o [(x,.d (BQ enc l)),(y,.d (.lit (.int .i64 i)))] es (.d (.ref (enc a).cells 0)) es:=nG enc h j m hs q
def DY {t e:TypeId} {size m len:Nat} {z:Value} (hE:GN P t e size m) (I:(P.info? e).bind (·.zero)=some z) (ys:List D) {j:Array (Nat×Operand)} (J:o.op=.buildSlice t len j) (L:z.cells.all (·.oneCell')=true:=by kernel_rfl) (q:z.cells.size=size:=by kernel_rfl) (hlen:Nat.ble (len*size) 16777216=true:=by kernel_rfl)
 (M:Na (fun i=>some (i*size,size)) (len*size) j.toList (ys.map .d)=true:=by kernel_rfl) (O:KA (fun i=>some (i*size,size)) (RF z (len*size)) j.toList (ys.map .d)=flat ys:=by kernel_rfl) (hl:ys.length=len:=by kernel_rfl) (u:ys.all (fun y=>decide (y.cells.length=size))=true:=by kernel_rfl):
 Bl P o (O1 j.toList (ys.map .d)) es (.d (.sl ys)) es:=abg hE I L q (Dt hlen) (ys.map .d) ys M O hl u J
def Gp {t e:TypeId} {size m len:Nat} {z:Value} (hE:GN P t e size m) (I:(P.info? e).bind (·.zero)=some z) (ys:List D) {j:Array (Nat×Operand)} (J:o.op=.buildSlice t len j) (L:z.cells.all (·.oneCell')=true:=by kernel_rfl) (q:z.cells.size=size:=by kernel_rfl) (hlen:Nat.ble (len*size) 16777216=true:=by kernel_rfl)
 (M:Na (fun i=>some (i*size,size)) (len*size) j.toList (ys.map .d)=true:=by kernel_rfl) (O:KA (fun i=>some (i*size,size)) (RF z (len*size)) j.toList (ys.map .d)=flat ys:=by kernel_rfl) (hl:ys.length=len:=by kernel_rfl) (u:ys.all (fun y=>decide (y.cells.length=size))=true:=by kernel_rfl):
 Bl P o (O1 j.toList (ys.map .d)) es (.aO es.length) (es++[.arr e size ys]):=aJ4 hE I L q (Dt hlen) (ys.map .d) ys M O hl u J
def DU.aM {ops:Array Oper} {l:List Oper} {σ:BI} {K:Exit→BI→Prop} [T:Kn P] {M:BI→Prop} (n:Nat) (k:M (RV (II T ops n l σ))) (hl:l.length=n:=by kernel_rfl) (h:(II T ops n l σ).isSome=true:=by kernel_rfl):DU P ops l σ (Lc M K):=
 .a n (by rw[aEH (ZW hl)];exact .aZ k) h
end
def Ef {A:Type} {b:Bool} {u v z:A} {G:Prop} (h:(bif b then u else v)=z) (j:b=true→u=z→G) (k2:b=false→v=z→G):G:=by
 rcases WS h with⟨e,h⟩|⟨e,h⟩
 ·exact j e h
 exact k2 e h
def asD {A:Type} (o:Option A) (f:A→Ag):Ag:=match o with
 |none=>.d (.lit (.pointer none))
 |some a=>f a
def arJ {A:Type} (o:Option A) (f:A→List BN):List BN:=match o with
 |none=>[]
 |some a=>f a
def uS {A B:Type} (o:Option A) (x:Option B) (f:A→Option B):Option B:=match o with
 |none=>x
 |some a=>f a
def abk {A B:Type} {x z:Option B} {f:A→Option B} (h:uS none x f=z):x=z:=h
def aRa {A B:Type} {x z:Option B} {a:A} {f:A→Option B} (h:uS (some a) x f=z):f a=z:=h
section
variable {P : Program} {o : Oper} {es : List BN}
def adD {t t':TypeId} {x y:Operand} {k off:Nat} (z:P.underlying t=some (.pointer (P.pointee t))) (I:o.op=.binOp .eql t x y t'):Bl P o [(x,.ptr k off),(y,.d (.lit (.pointer none)))] es (.d (EY false)) es:=
 .pure fun _ _ a w _ _ m=>⟨.bool false,by
  have j:=(Ej m).1;have q:=(Ej m).2.lit;simp only at j q;generalize J:a.eval x=u at j;cases j with
  |ptr _ _ b s M=>
   have L:(eqGuard .eql t x y (Value.pointer (some ⟨b,off,none⟩)) (.pointer none)).run P w=.ok () w:=by
    unfold eqGuard;simp[pure,Sem.run_pure']
   simp only[execOp,I,J,q,FV,L,Fb,run_eql_pointer_nil w t _ z,GY]
   rfl,.d _ _ (.lit _)⟩
def aS0 {t t':TypeId} {x y:Operand} (u:P.underlying t=some (.pointer (P.pointee t))) (z:o.op=.binOp .eql t x y t'):Bl P o [(x,.d (.lit (.pointer none))),(y,.d (.lit (.pointer none)))] es (.d (EY true)) es:=
 .pure fun _ _ a w _ _ j=>⟨.bool true,by
  have m:=(Ej j).1.lit;have q:=(Ej j).2.lit;simp only at m q
  have I:(eqGuard .eql t x y (Value.pointer none) (.pointer none)).run P w=.ok () w:=by
   unfold eqGuard;simp[pure,Sem.run_pure']
  simp only[execOp,z,m,q,FV,I,Fb,run_eql_pointer_nil w t _ u,GY]
  rfl,.d _ _ (.lit _)⟩
end
def aPP :List ResultVar→Bool
 | []=>true
 | .tmp _::rs=>aPP rs
 |_::_=>false
def aAW (σ:BI):List ResultVar→List Ag
 | []=>[]
 | .tmp t::rs=>σ.slots.getD t .junk::aAW σ rs
 |_::rs=>.junk::aAW σ rs
def aQq {P:Program} {σ:BI}:∀{rs:List ResultVar},aPP rs=true→YV P σ rs (aAW σ rs)
 | [],_=>trivial
 | .tmp _::_,h=>⟨rfl,aQq h⟩
def Ed {P:Program} {σ:BI} {rs:List ResultVar} {j:Ag} {E':List BN} (π:List (Nat×Bool)) (ha:aPP rs=true:=by kernel_rfl) (m:Ue σ.base σ.ents π=true:=by kernel_rfl) (q:j=(jm (aAW σ rs)).back π:=by kernel_rfl) (u:E'=SX σ.ents π:=by kernel_rfl):
 ∃xs π,YV P σ rs xs∧Ue σ.base σ.ents π=true∧j=(jm xs).back π∧E'=SX σ.ents π:=⟨_,π,aQq ha,m,q,u⟩
def TG :Nat→Nat→List (Nat×Nat×Nat)
 |0,_=>[]
 |n+1,x=>(x % 2048,x/2048 % 64,x/131072 % 2048)::TG n (x/268435456)
def aNx :List (Nat×Nat×Nat)→List (List Nat)→Nat→List (List Nat)
 | [],N,_=>N
 |t::Tr,N,n=>bif Nat.beq t.2.2 n then aNx Tr (N++[t.2.1::N.getD t.1 []]) (n+1)else aNx Tr N n
def P6 (n x:Nat):List (List Nat):=aNx (TG n x) [[]] 1
section
variable {P : Program} [T : Kn P] {id : Nat} {ops : Array Oper} {σ : BI} {Q : Exit → BI → Prop} {y : Code}
def AO.aEt (L:List (KT P)) (n x j:Nat) (m:Q .normal (JW T L ops σ ((P6 n x).getD j []))) (q:P.follows .mixedOrders=true:=by kernel_rfl) (u:ZT ops (P6 n x) (TG n x) [j]=true:=by kernel_rfl)
 (z:((TG n x).map fun t=>Td T L ops (JW T L ops σ ((P6 n x).getD t.1 [])) t.2.1)=(TG n x).map fun t=>some (JW T L ops σ ((P6 n x).getD t.2.2 []),Ug L t.2.1):=by kernel_rfl) (I:(P6 n x).getD 0 [0]=[]:=by kernel_rfl):AO P (.region id ops true) σ Q:=
 AO.node1 L _ _ j m q u I z
def rX (L:List (KT P)) (n x j:Nat) (m:AO P y (JW T L ops σ ((P6 n x).getD j [])) Q) (q:P.follows .mixedOrders=true:=by kernel_rfl) (u:ZT ops (P6 n x) (TG n x) [j]=true:=by kernel_rfl)
 (z:((TG n x).map fun t=>Td T L ops (JW T L ops σ ((P6 n x).getD t.1 [])) t.2.1)=(TG n x).map fun t=>some (JW T L ops σ ((P6 n x).getD t.2.2 []),Ug L t.2.1):=by kernel_rfl) (I:(P6 n x).getD 0 [0]=[]:=by kernel_rfl):AO P (.seq (.region id ops true) y) σ Q:=
 AO.aFy L _ _ j m q u I z
def AO.atj (L:List (KT P)) (n x:Nat) (F:List Nat) (j:BI) (m:Qn (fun k=>zk (JW T L ops σ ((P6 n x).getD k [])) j) F) (q:AO P y j Q) (u:P.follows .mixedOrders=true:=by kernel_rfl) (z:ZT ops (P6 n x) (TG n x) F=true:=by kernel_rfl)
 (I:((TG n x).map fun t=>Td T L ops (JW T L ops σ ((P6 n x).getD t.1 [])) t.2.1)=(TG n x).map fun t=>some (JW T L ops σ ((P6 n x).getD t.2.2 []),Ug L t.2.1):=by kernel_rfl) (J:(P6 n x).getD 0 [0]=[]:=by kernel_rfl):AO P (.seq (.region id ops true) y) σ Q:=
 AO.aFz L _ _ F j m q u z J I
end
end Go.Proofs.YtldfpencimjjlaaGreat
end
section
namespace Go
open Go.Proofs.YtldfpencimjjlaaGreat
variable {P : Program}
def aHF (w:World) (O U ty m:TypeId) (b o q z:Nat) (a:Addr) (u I k n:Nat) (cs:List Value)
 (Y:P.underlying O=some (.slice m)) (hs:(P.info? m).map (·.size)=some k) (Z:n=Nat.min u q) (hl:cs.length=n*k)
 (J:∀j v,cs[j]? =some v→w.cell? (a.add j)=some v) (hc:∀j,j<cs.length→(w.cell? ⟨b,o+j,none⟩).isSome=true) (hf:∀j,j<cs.length→w.frozen? ⟨b,o+j,none⟩=false) (h1:∀v∈cs,v.oneCell'=true):
 (Builtin.copy_ #[O,U] ty #[.slice (some ⟨b,o,none⟩) q z,.slice (some a) u I]).run P w=.ok (goInt n) (w.setCells b o cs):=by
 have L:=aLO (P:=P) w a cs J;have hst:=run_storeCells_cells (P:=P) b o cs 0 w (by simpa using hc) (by simpa using hf) h1;rw[hl]at L;cases M:P.info? m with
 |none=>simp[M]at hs
 |some i=>
  have hi:i.size=k:=by simpa[M]using hs
  simp[Builtin.copy_,aCq Y,Builtin.lenOf,Builtin.firstCells,sizeOf,typeInfo,M,hi,←Z,L,hst]
end Go
namespace Go.Proofs.YtldfpencimjjlaaGreat
open Go.Shelf Go.RowKit Go.Lib
section
variable {P : Program} {o : Oper} {es : List BN}
def YJ (x y:Int):Int:=bif decide (y<x)then y else x
def aiH {x y:Operand} {ats:Array TypeId} {kd:IntKind} {a b:Int} (u:o.op=.call { callee:=.builtin .min,args:= #[x,y],argTypes:=ats }):
 Bl P o [(x,.d (.lit (.int kd a))),(y,.d (.lit (.int kd b)))] es (.d (.lit (.int kd (YJ a b)))) es:=
 .pure fun ok H c w _ _ j=>by
  have m:=(Ej j).1.lit;have q:=(Ej j).2.lit;simp only at m q;have e:YJ a b=if b<a then b else a:=by unfold YJ;by_cases h:b<a<;>simp[h]
  refine⟨.int kd (YJ a b),?_,.d _ _ (.lit _)⟩;rw[e];simp[execOp,u,resolve,invoke,builtin,m,q,Go.run_min_int2]
end
set_option linter.unusedVariables false
set_option linter.unusedSimpArgs false
set_option maxHeartbeats 4000000 in
set_option maxRecDepth 100000 in
def agI (b n c i vb vc:Nat) (cs vs:List Value) (w:World) (hi:i<n) (hroom:n+1≤c) (hc63:c≤9223372036854775807) (hvb:vb≠b)
 (hcl:cs.length=n*29) (hvl:vs.length=29)
 (hcs:∀j v,cs[j]? =some v→w.cell? ⟨b,j,none⟩=some v) (hsp:∀j,j<(n+1)*29→(w.cell? ⟨b,j,none⟩).isSome=true) (hfz:∀j,j<(n+1)*29→w.frozen? ⟨b,j,none⟩=false)
 (hvs:∀j v,vs[j]? =some v→w.cell? ⟨vb,j,none⟩=some v) (h1c:∀v∈cs,v.oneCell'=true) (h1v:∀v∈vs,v.oneCell'=true)
 (tA tB:TypeId) (kA kB:Nat) (hsa:w.shape? vb=some (tA,kA)) (hsb:w.shape? b=some (tB,kB)) (hkB:kB≠0) (hfa:w.frozen? ⟨vb,0,none⟩=false) (hfe:w.frozen? ⟨vb,kA,none⟩=false):
 Calls Tryz.prog 64 #[.slice (some ⟨b,0,none⟩) n c,.int .i64 i,.slice (some ⟨vb,0,none⟩) 1 vc] w fun e w'=>
  e=.returned (.slice (some ⟨b,0,none⟩) (n+1) c)∧w'=(w.drew.setCells b ((i+1)*29) (cs.drop (i*29))).setCells b (i*29) vs:=by
 have hz2:¬((i:Int)=(n:Int)):=AB
 have hw1:Am ((i:Int)+1)=(i:Int)+1:=QY
 have hw2:Am ((n:Int)+1)=(n:Int)+1:=QY
 have hb1:(0:Int)≤(i:Int)+1:=AB
 have hin:i≤n:=AB
 have htn:((i:Int)+1).toNat=i+1:=AB
 have aHl:((n:Int)+1).toNat=n+1:=AB
 have hb2:¬(c=i+1):=AB
 have hb3:(i:Int)≤(n:Int)+1:=AB
 have hb4:¬(c=i):=AB
 have hb5:¬((c:Int)<(n:Int)+1):=AB
 have u:(Tryz.prog.info? 35).map (·.size)=some 29:=AA
 have O:∀w,(Go.sizeOf 35).run Tryz.prog w=.ok 29 w:=fun w=>by
  cases U:Tryz.prog.info? 35 with
  |none=>simp[U]at u
  |some i=>
   have h0:i.size=29:=by simpa[U]using u
   simp[sizeOf,typeInfo,U,h0]
 have Y:∀Z cb,(callFunc 98 #[.slice (some ⟨vb,0,none⟩) 1 vc,.slice (some ⟨b,(i+1)*29,none⟩) Z cb]).run Tryz.prog w=.ok (.value (.bool false)) w:=fun Z cb=>by
  rw[run_callFunc_extern Tryz.func98 AA AA AA (e:=Extern.SlicesOverlaps.overlaps #[22,22] #[4]) AA,
   Lib.run_overlaps_apart w 22 4 35 WU 29 O ⟨vb,0,none⟩ ⟨b,(i+1)*29,none⟩ 1 vc Z cb hvb tA tB kA kB hsa hsb hkB hfa hfe]
  rfl
 have z:(cs.drop (i*29)).length=(n-i)*29:=by rw[LP,hcl,Nat.sub_mul]
 have I:∀ty BJ sc,(Builtin.copy_ #[22,22] ty #[.slice (some ⟨b,(i+1)*29,none⟩) (n-i) BJ,.slice (some ⟨b,i*29,none⟩) (n+1-i) sc]).run Tryz.prog w.drew=.ok (goInt (n-i:Nat)) (w.drew.setCells b ((i+1)*29) (cs.drop (i*29))):=fun ty BJ sc=>
  aHF w.drew _ _ ty 35 b ((i+1)*29) (n-i) BJ ⟨b,i*29,none⟩ (n+1-i) sc 29 (n-i) (cs.drop (i*29)) WU u aH6 z
   (fun j v m=>by rw[mJ];exact hcs (i*29+j) v (by rwa [QJ]at m))
   (fun j m=>hsp _ aJ0) (fun j m=>hfz _ aJ0) (fun v hv=>h1c v (aM4 hv))
 obtain⟨W1,q⟩:∃W1,W1=w.drew.setCells b ((i+1)*29) (cs.drop (i*29)):=⟨_,rfl⟩
 have J:∀k,k<(n+1)*29→(W1.cell? ⟨b,k,none⟩).isSome=true:=fun k hk=>by
  rw[q];exact isSome_setCells b (cs.drop (i*29)) ((i+1)*29) w.drew (fun j m=>hsp _ aJ0) _ (hsp k hk)
 have L:∀(W:World),(∀x,W.cell? x=W1.cell? x)→(∀x,W.frozen? x=W1.frozen? x)→∀ty BJ,(Builtin.copy_ #[22,22] ty #[.slice (some ⟨b,i*29,none⟩) (n+1-i) BJ,.slice (some ⟨vb,0,none⟩) 1 vc]).run Tryz.prog W=.ok (goInt (1:Nat)) (W.setCells b (i*29) vs):=fun W M hWf ty BJ=>
  aHF W _ _ ty 35 b (i*29) (n+1-i) BJ ⟨vb,0,none⟩ 1 vc 29 1 vs WU u aH6 (by rw[hvl])
   (fun j v m=>by
    rw[mJ,M,q,World.cell?_setCells_out b _ _ _ _ (fun h _=>absurd h hvb),JJ]
    exact hvs j v m)
   (fun j m=>by rw[M];exact J _ AB) (fun j m=>by rw[hWf,q,World.frozen?_setCells];exact hfz _ AB) h1v
 rw[←q]at I;have mixed:Tryz.prog.follows .mixedOrders=true:=AA
 go_enter Tryz.func64,Tryz.ntmps64
 go_wp2_with (simp only[Y])
 go_region_law_o (refine step_copy_runI rfl _ _ 22 22 rfl _ _ Rch Rch (I _ _ _) ?_)
 go_wp2_with (at_builtin;refine wpList_copy_runI _ rfl _ _ 22 22 rfl _ _ rfl rfl (L _ (fun _=>rfl) (fun _=>rfl) _ _) ?_)
 go_ret
 first|exact⟨rfl,rfl⟩|exact⟨rfl,by rw[q]⟩
set_option maxHeartbeats 4000000 in
set_option maxRecDepth 100000 in
def aiO (b n c i vb vc:Nat) (cs vs:List Value) (w:World) (hi:i<n) (hnc:n≤c) (hroom:c<n+1) (hbig:(n+1)*376≤140737488355328)
 (hcl:cs.length=n*29) (hvl:vs.length=29)
 (hcs:∀j v,cs[j]? =some v→w.cell? ⟨b,j,none⟩=some v) (hvs:∀j v,vs[j]? =some v→w.cell? ⟨vb,j,none⟩=some v) (h1c:∀v∈cs,v.oneCell'=true) (h1v:∀v∈vs,v.oneCell'=true):
 Calls Tryz.prog 64 #[.slice (some ⟨b,0,none⟩) n c,.int .i64 i,.slice (some ⟨vb,0,none⟩) 1 vc] w fun e w'=>∃G ROW,e=.returned (.slice (some ⟨w.heap.size,0,none⟩) (n+1) G)∧n+1≤G∧G≤maxLen∧G*29≤ROW.size∧ROW.toList.take (i*29)=cs.take (i*29)∧
  w'=(((w.alloc (.cells ROW 35)).drew.setCells w.heap.size (i*29) vs).drew).setCells w.heap.size ((i+1)*29) (cs.drop (i*29)):=by
 have hE:GN Tryz.prog 22 35 29 376:=LX AA;obtain⟨i0,z0,Z,hz0,hzs,hzb,hzc⟩:=hE.info;have hsz:(Tryz.prog.info? 35).map (·.size)=some 29:=by rw[Z];simp[hzs]
 have mixed:Tryz.prog.follows .mixedOrders=true:=AA
 have hz2:¬((i:Int)=(n:Int)):=AB
 have hz3:(c:Int)<(n:Int)+1:=AB
 have hil:i*29<cs.length:=AB
 have hbw:b<w.heap.size:=block_lt_of_cell (hcs 0 _ (Dj AB));have hvw:vb<w.heap.size:=block_lt_of_cell (hvs 0 _ (Dj AB));have hkk:(n:Int)+1-(i:Int)=((n+1-i:Nat):Int):=AB
 have M:i+(n+1-i)=n+1:=AB
 have O:(cs.take (i*29)).length=i*29:=by rw[Fr];omega
 have J:(Builtin.firstCells i0.size i (.slice (some ⟨b,0,none⟩) i c)).run Tryz.prog w.drew=.ok (cs.take (i*29)).toArray w.drew:=by
  rw[hzs]
  exact run_firstCells_some w.drew 29 i ⟨b,0,none⟩ i c (cs.take (i*29)) (by rw[O]) (fun j v m=>by
   rw[mJ,JJ];rw[zM]at m;split at m
   ·exact hcs j v m
   cases m)
 have I:∀ty,(Builtin.append_ #[22,3] ty #[.slice (some ⟨b,0,none⟩) i c,.int .i64 ((n:Int)+1-(i:Int))]).run Tryz.prog w=
  .ok (.slice (some ⟨w.heap.size,0,none⟩) (n+1) (grownCap w (n+1) c 35)) (w.drew.alloc (.cells ((cs.take (i*29)).toArray++Builtin.zeroCells z0.cells (n+1-i)++Builtin.zeroCells z0.cells (grownCap w (n+1) c 35-(n+1))) 35)):=fun ty=>by
  have h:=Lib.run_append_grow_zeros w 22 3 ty 35 i0 z0 .i64 .i64 hE.und AA Z hz0 (some ⟨b,0,none⟩) i c (cs.take (i*29)) J (n+1-i) AB AB AB AB (by rw[hzb];omega) (by rw[hzb,M];exact growslice_fits AB AB);rw[M]at h;rw[hkk];exact h
 have hGn:n+1≤grownCap w (n+1) c 35:=grownCap_ge w _ _ _;have U:=grownCap_le_maxLen w (n+1) c 35 aFl;obtain⟨G,hG⟩:∃G,G=grownCap w (n+1) c 35:=⟨_,rfl⟩
 obtain⟨ROW,q⟩:∃ROW:Array Value,ROW=(cs.take (i*29)).toArray++Builtin.zeroCells z0.cells (n+1-i)++Builtin.zeroCells z0.cells (G-(n+1)):=⟨_,rfl⟩
 rw[←hG]at I hGn U;rw[←q]at I
 have hRl:ROW.size=G*29:=by
  rw[q];simp[Builtin.zeroCells,hzc];omega
 have hRt:ROW.toList.take (i*29)=cs.take (i*29):=by
  rw[q];simp[Ht];rw[vP O]
 obtain⟨W1,u⟩:∃W1,W1=w.drew.alloc (.cells ROW 35):=⟨_,rfl⟩
 rw[←u]at I
 have hN:∀j,j<(n+1)*29→(W1.cell? ⟨w.heap.size,j,none⟩).isSome=true:=fun j m=>by
  rw[u,World.cell?_alloc_at (w:=w.drew) ROW _ w.heap.size j rfl,jP AB];rfl
 have hNf:∀j,W1.frozen? ⟨w.heap.size,j,none⟩=false:=fun j=>by rw[u];exact World.frozen?_alloc_at (w:=w.drew) ROW _ w.heap.size j rfl
 have hOb:∀j v,w.cell? ⟨b,j,none⟩=some v→W1.cell? ⟨b,j,none⟩=some v:=fun j v h=>by rw[u,World.cell?_alloc_past (w:=w.drew) _ b j hbw];exact h
 have hOv:∀j v,w.cell? ⟨vb,j,none⟩=some v→W1.cell? ⟨vb,j,none⟩=some v:=fun j v h=>by rw[u,World.cell?_alloc_past (w:=w.drew) _ vb j hvw];exact h
 have hcpA:∀(W:World),(∀x,W.cell? x=W1.cell? x)→(∀x,W.frozen? x=W1.frozen? x)→∀ty BJ,(Builtin.copy_ #[22,22] ty #[.slice (some ⟨w.heap.size,i*29,none⟩) (n+1-i) BJ,.slice (some ⟨vb,0,none⟩) 1 vc]).run Tryz.prog W=.ok (goInt (1:Nat)) (W.setCells w.heap.size (i*29) vs):=fun W z Y ty BJ=>
  aHF W _ _ ty 35 w.heap.size (i*29) (n+1-i) BJ ⟨vb,0,none⟩ 1 vc 29 1 vs hE.und hsz aH6 (by rw[hvl])
   (fun j v m=>by rw[mJ,z,JJ];exact hOv _ v (hvs j v m))
   (fun j m=>by rw[z];exact hN _ AB) (fun j m=>by rw[Y];exact hNf _) h1v
 have hG63:G≤9223372036854775807:=by unfold maxLen at U;omega
 have hGi:¬(G=i):=AB
 have hGim:¬(G=i+1):=AB
 have hci:¬(c=i):=AB
 have hbN:b≠w.heap.size:=AB
 have hdl:(cs.drop (i*29)).length=(n-i)*29:=by rw[LP,hcl,Nat.sub_mul]
 have L:∀(W:World),(∀x,W.cell? x=(W1.setCells w.heap.size (i*29) vs).cell? x)→(∀x,W.frozen? x=(W1.setCells w.heap.size (i*29) vs).frozen? x)→∀ty BJ sc,(Builtin.copy_ #[22,22] ty #[.slice (some ⟨w.heap.size,(i+1)*29,none⟩) (n-i) BJ,.slice (some ⟨b,i*29,none⟩) (n-i) sc]).run Tryz.prog W=.ok (goInt (n-i:Nat)) (W.setCells w.heap.size ((i+1)*29) (cs.drop (i*29))):=fun W z Y ty BJ sc=>
  aHF W _ _ ty 35 w.heap.size ((i+1)*29) (n-i) BJ ⟨b,i*29,none⟩ (n-i) sc 29 (n-i) (cs.drop (i*29)) hE.und hsz aH6 hdl
   (fun j v m=>by
    rw[mJ,z,World.cell?_setCells_out _ _ _ _ _ (fun h _=>absurd h hbN)]
    exact hOb _ v (hcs (i*29+j) v (by rwa [QJ]at m)))
   (fun j m=>by rw[z];exact isSome_setCells _ vs (i*29) W1 (fun t ht=>hN _ AB) _ (hN _ (by rw[hdl]at m;omega)))
   (fun j m=>by rw[Y,World.frozen?_setCells];exact hNf _) (fun v hv=>h1c v (aM4 hv))
 subst u;have hE1:∀x,((w.alloc (.cells ROW 35)).drew).cell? x=(w.drew.alloc (.cells ROW 35)).cell? x:=fun x=>rfl;have hE2:∀x,((w.alloc (.cells ROW 35)).drew).frozen? x=(w.drew.alloc (.cells ROW 35)).frozen? x:=fun x=>rfl;have hF1:∀x,(((w.alloc (.cells ROW 35)).drew.setCells w.heap.size (i*29) vs).drew).cell? x=((w.drew.alloc (.cells ROW 35)).setCells w.heap.size (i*29) vs).cell? x:=fun x=>rfl;have hF2:∀x,(((w.alloc (.cells ROW 35)).drew.setCells w.heap.size (i*29) vs).drew).frozen? x=((w.drew.alloc (.cells ROW 35)).setCells w.heap.size (i*29) vs).frozen? x:=fun x=>rfl;have hw1:Am ((i:Int)+1)=(i:Int)+1:=QY
 have hw2:Am ((n:Int)+1)=(n:Int)+1:=QY
 have hw3:Am ((n:Int)+1-(i:Int))=(n:Int)+1-(i:Int):=QY
 have hb1:(0:Int)≤(i:Int)+1:=AB
 have hin:i≤n:=AB
 have htn:((i:Int)+1).toNat=i+1:=AB
 have hb3:(i:Int)≤(n:Int):=AB
 clear hkk M J q hG hil O
 go_enter Tryz.func64,Tryz.ntmps64
 go_wp2_with (first
  |(at_builtin;refine aLy _ rfl _ _ _ _ rfl _ _ rfl rfl _ _ (I _) ?_)
  |(at_builtin;refine wpList_copy_runI _ rfl _ _ 22 22 rfl _ _ rfl rfl (hcpA _ hE1 hE2 _ _) ?_)
  |(at_builtin;refine wpList_copy_runI _ rfl _ _ 22 22 rfl _ _ rfl rfl (L _ (fun _=>rfl) (fun _=>rfl) _ _ _) ?_))
 go_region_law_o (refine step_copy_runI rfl _ _ 22 22 rfl (.slice (some ⟨w.heap.size,(i+1)*29,none⟩) (n-i) (G-(i+1))) (.slice (some ⟨b,i*29,none⟩) (n-i) (c-i)) Rch Rch (L _ hF1 hF2 3 (G-(i+1)) (c-i)) ?_)
 go_wp2
 go_ret
 exact⟨G,ROW,rfl,hGn,U,ZW hRl.symm,hRt,rfl⟩
def putAt (j:Array Value):Nat→List Value→Array Value
 |_,[]=>j
 |o,v::r=>putAt (j.setIfInBounds o v) (o+1) r
def ZG :∀(vs:List Value) (o:Nat) (j:Array Value),(putAt j o vs).size=j.size
 | [],_,_=>rfl
 |v::r,o,j=>by rw[putAt,ZG r];simp
def rP :∀(vs:List Value) (o:Nat) (m:Array Value),o+vs.length≤m.size→(putAt m o vs).toList=m.toList.take o++vs++m.toList.drop (o+vs.length)
 | [],o,m,_=>by simp[putAt]
 |v::r,o,m,h=>by
  simp only[GI]at h;rw[putAt,rP r (o+1) _ Dz,aJ6];refine bU fun j=>?_;simp only[Ht,List.getElem?_append,Fr,fV,TB,zM,aIb,QJ,GI,XW,aR5]
  grind
def nK (b:Nat):∀(vs:List Value) (o:Nat) (w:World) (j:Array Value) (e:TypeId) (fr:Nat×Nat),w.heap[b]? =some (.cells j e fr)→(w.setCells b o vs).heap[b]? =some (.cells (putAt j o vs) e fr)
 | [],_,_,_,_,_,h=>h
 |v::r,o,w,j,e,fr,h=>by
  rw[World.setCells,putAt];refine nK b r (o+1) _ _ e fr ?_;simp[World.setCell,Oi,h]
set_option maxHeartbeats 4000000 in
set_option maxRecDepth 100000 in
def aqa {v:Value} {n vb vc:Nat} {xs news:List Value} {w:World} (hown:nO w 35 29 v n xs) (hsrc:Wy w (.slice (some ⟨vb,0,none⟩) 1 vc) 1 29 news) (hb:(n+1)*376≤140737488355328):
 Calls Tryz.prog 64 #[v,.int .i64 n,.slice (some ⟨vb,0,none⟩) 1 vc] w fun e w'=>∃v',e=.returned v'∧nO w' 35 29 v' (n+1) (xs++news)∧w.grownBy w' v.ownBlock∧∀g,Df v'=some g→Df v=some g∨w.heap.size≤g:=by
 have hE:GN Tryz.prog 22 35 29 376:=LX AA;obtain⟨v',w',q,u,z,I⟩:=aK9 (ty:=22) hE hown hsrc hb aFl;have mixed:Tryz.prog.follows .mixedOrders=true:=AA
 rcases hown.2 with⟨rfl,L⟩|⟨g,cap,M,rfl,_,Y,O,j,U,m⟩
 ·subst L
  go_enter Tryz.func64,Tryz.ntmps64
  go_wp2_with (at_builtin;refine aLy _ rfl _ _ _ _ rfl _ _ rfl rfl _ _ q ?_)
  go_ret
  exact⟨v',rfl,u,z,I⟩
 have J:cap≤9223372036854775807:=by unfold maxLen at j;omega
 go_enter Tryz.func64,Tryz.ntmps64
 go_wp2_with (at_builtin;refine aLy _ rfl _ _ _ _ rfl _ _ rfl rfl _ _ q ?_)
 all_goals (go_ret;exact⟨v',rfl,u,z,I⟩)
def qj (b:Nat):∀(vs:List Value) (o:Nat) (w:World),(w.setCells b o vs).os=w.os∧(w.setCells b o vs).tape=w.tape∧(w.setCells b o vs).output=w.output∧(w.setCells b o vs).heap.size=w.heap.size∧∀i,i≠b→(w.setCells b o vs).heap[i]? =w.heap[i]?
 | [],_,_=>⟨rfl,rfl,rfl,rfl,fun _ _=>rfl⟩
 |v::r,o,w=>by
  obtain⟨j,m,q,u,z⟩:=qj b r (o+1) (w.setCell ⟨b,o,none⟩ v);rw[World.setCells];refine⟨j,m,q,by rw[u];simp[World.setCell],fun i hi=>?_⟩;rw[z i hi];simp[World.setCell,Oi,Ne.symm hi]
def akS {j:Array Value} {xs vs:List Value} {a N k:Nat} (q:j.toList.take N=xs) (hl:xs.length=N) (m:vs.length=k) (ha:a≤N) (hs:N+k≤j.size):
 (putAt (putAt j (a+k) (xs.drop a)) a vs).toList.take (N+k)=xs.take a++vs++xs.drop a:=by
 have hd:(xs.drop a).length=N-a:=by rw[LP,hl]
 rw[rP vs a _ (by rw[ZG];omega),rP (xs.drop a) (a+k) j AB,m,hd]
 have u:(j.toList.take (a+k)++xs.drop a++j.toList.drop (a+k+(N-a))).take a=xs.take a:=by
  rw[Ht,List.take_append_of_le_length Dz,aN5,←q,aN5,qP AB,qP ha]
 have z:(j.toList.take (a+k)++xs.drop a++j.toList.drop (a+k+(N-a))).drop (a+k)=xs.drop a++j.toList.drop (a+k+(N-a)):=by
  rw[Ht,List.drop_left' Dz]
 rw[u,z,←Ht,vP (by simp[hd,m,hl];omega)]
def aov {j:Array Value} {xs vs:List Value} {a N k:Nat} (q:j.toList.take a=xs.take a) (hl:xs.length=N) (m:vs.length=k) (ha:a≤N) (hs:N+k≤j.size):
 (putAt (putAt j a vs) (a+k) (xs.drop a)).toList.take (N+k)=xs.take a++vs++xs.drop a:=by
 have hd:(xs.drop a).length=N-a:=by rw[LP,hl]
 rw[rP (xs.drop a) (a+k) _ (by rw[ZG];omega),rP vs a j AB,m,hd,q];have u:(xs.take a++vs++j.toList.drop (a+k)).take (a+k)=xs.take a++vs:=vP (by simp[m,hl];omega);rw[u,vP (by simp[hd,m,hl];omega)]
def pG {w:World} {g n:Nat} {m:Array Value} {xs:List Value} {T:TypeId} {fr:Nat×Nat} (q:w.heap[g]? =some (.cells m T fr)) (u:m.toList.take n=xs) (j:Nat) (v:Value) (h:xs[j]? =some v):w.cell? ⟨g,j,none⟩=some v:=by
 unfold World.cell?;simp only[q];rw[←u,zM]at h;split at h
 ·simpa using h
 cases h
def anl {w:World} {g:Nat} {m:Array Value} {T:TypeId} {fr:Nat×Nat} (q:w.heap[g]? =some (.cells m T fr)) (j:Nat) (h:j<m.size):(w.cell? ⟨g,j,none⟩).isSome=true:=by
 unfold World.cell?;simp[q,h]
def aKh {w:World} {g:Nat} {m:Array Value} {T:TypeId} (q:w.heap[g]? =some (.cells m T (0,0))) (j:Nat):w.frozen? ⟨g,j,none⟩=false:=by
 unfold World.frozen?;simp[q]
def atA {v:Value} {n vb vc i:Nat} {xs m:List Value} {w:World} (hi:i≤n) (I:nO w 35 29 v n xs) (h1:∀u∈xs,u.oneCell'=true) (hx:nO w 35 29 (.slice (some ⟨vb,0,none⟩) 1 vc) 1 m) (Y:∀u∈m,u.oneCell'=true) (hne:Df v≠some vb) (hb:(n+1)*376≤140737488355328):
 Calls Tryz.prog 64 #[v,.int .i64 i,.slice (some ⟨vb,0,none⟩) 1 vc] w fun e w'=>∃v',e=.returned v'∧nO w' 35 29 v' (n+1) (xs.take (i*29)++m++xs.drop (i*29))∧Turns v w w'∧∀g,Df v'=some g→Df v=some g∨w.heap.size≤g:=by
 have J:=I.1;have L:m.length=29:=by have :=hx.1;omega
 rcases hx.2 with⟨e0,_⟩|⟨vb',aHm,aGC,e0,_,M,hvn,_,hvs,Z⟩
 ·cases e0
 injection e0 with e1 _ e3
 injection e1 with e1
 injection e1 with e1
 subst e1 e3;rcases bf i n with hin|hin
 ·rcases I.2 with⟨_,h0⟩|⟨g,cap,U,rfl,_,hg,hnc,hcm,hcs,z⟩
  ·omega
  have hgv:vb≠g:=fun e=>hne xM;have hil:i*29≤n*29:=Jw _ hi;rcases bf n cap with q|q
  ·have hfit:(n+1)*29≤U.size:=F6 (Jw _ q) hcs;refine(agI g n cap i vb vc xs m w hin q (by unfold maxLen at hcm;omega) hgv J L (pG hg z) (fun j hj=>anl hg j AB) (fun j _=>aKh hg j) (pG M Z) h1 Y 35 35 aGC.size U.size (by simp[World.shape?,M]) (by simp[World.shape?,hg]) AB (aKh M 0) (aKh M _)).mono ?_;rintro e w' ⟨rfl,rfl⟩;have hh:=nK g m (i*29) _ _ _ _ (nK g (xs.drop (i*29)) ((i+1)*29) w.drew U 35 (0,0) hg);obtain⟨a1,a2,a3,a4,a5⟩:=qj g (xs.drop (i*29)) ((i+1)*29) w.drew;obtain⟨b1,b2,b3,b4,b5⟩:=qj g m (i*29) (w.drew.setCells g ((i+1)*29) (xs.drop (i*29)));refine⟨_,rfl,⟨?_,.inr ⟨g,cap,_,rfl,El _,hh,q,hcm,by rw[ZG,ZG];exact hcs,?_⟩⟩,⟨b1.trans a1,b2.trans a2,b3.trans a3,by rw[b4,a4];exact EG _,fun c hc hcb=>?_⟩,fun g' hg'=>.inl hg'⟩
   ·simp[L,J];omega
   ·have :=akS (a:=i*29) (k:=29) z J L hil AB;rw[show(i+1)*29=i*29+29 by omega,show(n+1)*29=n*29+29 by omega];exact this
   have O:c≠g:=fun e=>hcb xM;rw[b5 c O,a5 c O];rfl
  refine(aiO g n cap i vb vc xs m w hin hnc AB hb J L (pG hg z) (pG M Z) h1 Y).mono ?_;rintro e w' ⟨G,ROW,rfl,hGn,hGm,hGs,hRt,rfl⟩
  have hal:((w.alloc (.cells ROW 35)).drew).heap[w.heap.size]? =some (.cells ROW 35 (0,0)):=by
   show(w.heap.push (.cells ROW 35 (0,0)))[w.heap.size]? =_;simp
  have hh:=nK w.heap.size (xs.drop (i*29)) ((i+1)*29) _ _ _ _ (show(((w.alloc (.cells ROW 35)).drew.setCells w.heap.size (i*29) m).drew).heap[w.heap.size]? =_ from nK w.heap.size m (i*29) _ ROW 35 (0,0) hal);obtain⟨a1,a2,a3,a4,a5⟩:=qj w.heap.size m (i*29) (w.alloc (.cells ROW 35)).drew;obtain⟨b1,b2,b3,b4,b5⟩:=qj w.heap.size (xs.drop (i*29)) ((i+1)*29) ((w.alloc (.cells ROW 35)).drew.setCells w.heap.size (i*29) m).drew;refine⟨_,rfl,⟨?_,.inr ⟨w.heap.size,G,_,rfl,El _,hh,hGn,hGm,by rw[ZG,ZG];exact hGs,?_⟩⟩,⟨b1.trans a1,b2.trans a2,b3.trans a3,?_,fun c hc hcb=>?_⟩,fun g' hg'=>.inr (by simp[Df]at hg';omega)⟩
  ·simp[L,J];omega
  ·have :=aov (a:=i*29) (k:=29) hRt J L hil (by have :=Jw 29 hGn;omega);rw[show(i+1)*29=i*29+29 by omega,show(n+1)*29=n*29+29 by omega];exact this
  ·rw[b4];show w.heap.size≤((w.alloc (.cells ROW 35)).drew.setCells w.heap.size (i*29) m).heap.size;rw[a4];show w.heap.size≤(w.heap.push (.cells ROW 35 (0,0))).size;simp
  have O:c≠w.heap.size:=AB
  rw[b5 c O];show((w.alloc (.cells ROW 35)).drew.setCells w.heap.size (i*29) m).heap[c]? =_;rw[a5 c O];show(w.heap.push (.cells ROW 35 (0,0)))[c]? =_;simp[aJY,O]
 have hni:i=n:=AB
 subst hni;refine(aqa I ⟨AB,Y,.inl ⟨_,_,rfl,fun j u hj=>by rw[mJ,JJ];exact pG M Z j u hj⟩⟩ hb).mono ?_;rintro e w' ⟨v',rfl,h2,h3,h4⟩;refine⟨v',rfl,?_,⟨h3.os,h3.tape,h3.output,h3.size,fun k hk hne'=>h3.block k hk ?_⟩,h4⟩
 ·rw[Ql AB,aEH AB,PS];exact h2
 rcases I.2 with⟨rfl,_⟩|⟨g,cap,U,rfl,_⟩
 ·simp[Value.ownBlock]
 intro e;exact hne' e.symm
def anI {j:Array Value} (hs:j.size=3):j= #[j.getD 0 undef,j.getD 1 undef,j.getD 2 undef]:=by
 refine Zd (by simp[hs]) fun i q m=>?_;simp at m;have :i=0∨i=1∨i=2:=AB
 rcases this with rfl|rfl|rfl<;>simp[Array.getD,hs]
def an2 {ok:Nat→Prop} {w:World} {H:List Bj} {xs:List Ag} {vs:List Value} (h:G8 ok w H xs vs) (n:Nat):G8 ok w H (xs.take n) (vs.take n):=by
 refine⟨by rw[Fr,Fr,h.1],fun i hi=>?_⟩;rw[Fr]at hi;have :=h.2 i AB;rw[qX,qX]at this ⊢;rw[Nv AB,Nv AB];exact this
def ajd {ok:Nat→Prop} {w:World} {H:List Bj} {xs:List Ag} {vs:List Value} (h:G8 ok w H xs vs) (n:Nat):G8 ok w H (xs.drop n) (vs.drop n):=by
 refine⟨by rw[LP,LP,h.1],fun i hi=>?_⟩;rw[LP]at hi;have :=h.2 (n+i) AB;rw[qX,qX]at this ⊢;rw[QJ,QJ];exact this
def aRK {ok:Nat→Prop} {w:World} {H:List Bj} {xs:List Ag} {vs:List Value} (h:G8 ok w H xs vs):∀u∈vs,u.oneCell'=true:=fun u m=>by
 obtain⟨i,hi,rfl⟩:=Ia m;have j:=h.2 i (by rw[←h.1];exact hi);have :=j.2.leaf j.1
 rwa [qX,Dj hi]at this
def aRR {size:Nat}:∀{es:List D} (i:Nat),(∀x∈es,x.cells.length=size)→flat (es.take i)=(flat es).take (i*size)
 | [],i,_=>TV
 |x::l,0,_=>TV
 |x::l,i+1,h=>by
  have j:(x.cells.map Ag.d).length=size:=by rw[Cm];exact h x (FY ..)
  rw[List.take_succ_cons,WM,WM,aRR i fun y m=>h y (Gf _ m),Yl,aDF,QU,←j,List.take_length_add_append]
def aQS {size:Nat}:∀{es:List D} (i:Nat),(∀x∈es,x.cells.length=size)→flat (es.drop i)=(flat es).drop (i*size)
 | [],i,_=>TV
 |x::l,0,_=>TV
 |x::l,i+1,h=>by
  have j:(x.cells.map Ag.d).length=size:=by rw[Cm];exact h x (FY ..)
  rw[List.drop_succ_cons,WM,aQS i fun y m=>h y (Gf _ m),Yl,aDF,QU,←j,List.drop_length_add_append]
def DF.kill {C:EW} {ok:Nat→Prop} {H:List Bj} {es:List BN} {w:World} (u:DF C ok H es w) (k:Nat):DF C ok H (es.set k .dead) w:=
 (u.change (ok':=ok) (H':=H) (w':=w) (es':=es.set k .dead) (fun _=>False) rfl rfl rfl (EG _) (fun _ _ _=>rfl) (fun _ h=>h.elim) (fun _ h=>h) (fun _ h=>.inl h) (.refl _) (by simpa using u.hlen) (by
  intro j e' h' m q;by_cases z:k=j
  ·subst z;rw[aIb]at m;simp only[Jv]at m;split at m
   ·cases m;exact .inr ⟨trivial,fun h=>Gh⟩
   cases m
  rw[Xp z]at m
  exact .inl ⟨m,q,fun _ _ _ h=>h⟩)).1
def aIK {α:Type} (l:List α) (i:Int) (m:List α):Option (List α):=match m with
 | [x]=>if(0≤i∧i≤(l.length:Int))∧l.length≤34359738368 then some (l.take i.toNat++x::l.drop i.toNat)else none
 |_=>none
def avA {α:Type} {e:α→D} (hk:∀x,(e x).cells.length=29) (l:List α) (q:Int) (m r:List α) (h:aIK l q m=some r):
 Ap 64 [.aO 0,.d (Ac q),.aO 1] [.arr 35 29 (l.map e),.arr 35 29 (m.map e)] (.aO 2) [.dead,.dead,.arr 35 29 (r.map e)]:=by
 unfold aIK at h;split at h
 case h_2=>cases h
 rename_i x;split at h
 case isFalse=>cases h
 rename_i hc;obtain⟨⟨hq0,hql⟩,hb⟩:=hc;obtain rfl:=D5 h;obtain⟨i,rfl⟩:∃i:Nat,q=i:=⟨q.toNat,AB⟩
 have hi:i≤l.length:=AB
 rw[Xl];intro ok X H w M J hs ha;have h0:=ha 0 BP;have hq:=ha 1 BP;have h2:=ha 2 BP;rw[anI hs];obtain⟨hd,hh,hok⟩:=Gj J.ent J.hlen (k:=0) rfl;obtain⟨O,U,Y⟩:=Gj J.ent J.hlen (k:=1) rfl;obtain hv:=QE h0 hh;obtain hv1:=QE h2 U
 have hq':M.getD 1 undef=.int .i64 i:=by
  simp only[List.getD,aHI,aIk,Nr]at hq;cases hq with |d _ _ hq=>exact Dv.ah1 hq
 rw[hv,hv1,hq'];obtain⟨hz,Z,xs,how,L⟩:=hok;obtain⟨hz1,aHn,news,u,I⟩:=Y;rw[Cm]at how
 obtain⟨g1,c1,hg1⟩:∃g1 c1,O.v=.slice (some ⟨g1,0,none⟩) 1 c1:=by
  rcases u.2 with⟨_,h⟩|⟨g,cap,cur,h,_⟩
  ·cases h
  exact⟨g,cap,h⟩
 have hne:Df hd.v≠some g1:=fun hb=>by
  have :=J.Fj 0 1 _ _ hd O g1 rfl rfl rfl rfl hh U hb (by rw[hg1];rfl);cases this
 rw[hg1]at u ⊢;refine(atA hi how (aRK L) u (aRK I) hne AB).mono ?_;rintro y w' ⟨v',rfl,j,ht,hblk⟩;have hlen:l.length+1=((l.take i++x::l.drop i).map e).length:=Dz
 rw[hlen]at j
 have hfl:flat ((l.take i++x::l.drop i).map e)=(flat (l.map e)).take (i*29)++flat ([x].map e)++(flat (l.map e)).drop (i*29):=by
  rw[←aRR i Z,←aQS i Z,←kZ,←kZ,JM,LC,Yd,ZR,Ht];rfl
 have hg:=J.turn (e:=.arr 35 29 ((l.take i++x::l.drop i).map e)) (h':=⟨v',29⟩) (w':=w') (k:=0) rfl rfl hh ht.os ht.tape ht.output ht.size ht.block (fun g hg=>⟨zK j hg,hblk g hg⟩) (fun hgr=>⟨rfl,fun y hy=>by
  obtain⟨z,_,rfl⟩:=FH.1 hy
  exact hk z,_,j,by rw[hfl];exact(aBk (aBk (an2 L _) I) (ajd L _)).mono hgr (.push _ _)⟩)
 refine⟨v',ok,H++[⟨v',29⟩],rfl,hg.1.kill 1,?_⟩;have hl:H.length=2:=J.hlen;have hr:(H++[(⟨v',29⟩:Bj)])[2]? =some ⟨v',29⟩:=by rw[←hl];simp
 rcases j.2 with⟨rfl,_⟩|⟨g,cap,cur,rfl,_⟩
 ·exact .aO 2 _ _ _ 29 hr
 exact .aO 2 _ _ _ 29 hr
end Go.Proofs.YtldfpencimjjlaaGreat
end
section
namespace Go.Proofs.YtldfpencimjjlaaGreat
open Go.RowKit
section
variable {P : Program} {o : Oper} {es : List BN}
def L9 {f:FuncId} {ops:Array Operand} {ats:Array TypeId} (eG:List Ag) {fZ:List Ag} {j res':Ag} {E':List BN} (m:Ah P f fZ [] j E') (q:o.op=.call { callee:=.value (.func f),args:=ops,argTypes:=ats }) (u:Dn P f=true:=by kernel_rfl) (z:E'.all BN.closed=true:=by kernel_rfl)
 (ha:NV [] eG fZ:=by repeat (first|exact trivial|refine⟨.inl rfl,?_⟩|refine⟨.inr (.inr ⟨rfl,rfl⟩),?_⟩)) (hl:ops.toList.length=eG.length:=by kernel_rfl) (I:j.up [] es.length=res':=by kernel_rfl):Bl P o (FX ops.toList eG) es res' (es++E'):=aRZ m u z ha hl I q
def aJd {f:FuncId} {ops:Array Operand} {ats:Array TypeId} (eG:List Ag) {fZ:List Ag} {j res':Ag} (m:Ah P f fZ [] j []) (q:o.op=.call { callee:=.value (.func f),args:=ops,argTypes:=ats }) (u:Dn P f=true:=by kernel_rfl)
 (ha:NV [] eG fZ:=by repeat (first|exact trivial|refine⟨.inl rfl,?_⟩|refine⟨.inr (.inr ⟨rfl,rfl⟩),?_⟩)) (hl:ops.toList.length=eG.length:=by kernel_rfl) (z:j.up [] es.length=res':=by kernel_rfl):Bl P o (FX ops.toList eG) es res' es:=aWj m u ha hl z q
def E9 {f:FuncId} {ops:Array Operand} {ats:Array TypeId} (srcs:List Dx) (eG:List Ag) {fZ:List Ag} {E E':List BN} {j res':Ag} (m:Ah P f fZ E j E') (q:o.op=.call { callee:=.value (.func f),args:=ops,argTypes:=ats }) (u:Dn P f=true:=by kernel_rfl) (z:RN srcs es E E'=true:=by kernel_rfl)
 (hE:Qi srcs es srcs E:=by first|exact trivial|exact MV AA trivial) (ha:NV srcs eG fZ:=by repeat (first|exact trivial|refine⟨.inl rfl,?_⟩|refine⟨⟨0,rfl,rfl⟩,?_⟩|refine⟨⟨1,rfl,rfl⟩,?_⟩|refine⟨⟨2,rfl,rfl⟩,?_⟩|refine⟨.inr (.inr ⟨rfl,rfl⟩),?_⟩)) (hl:ops.toList.length=eG.length:=by kernel_rfl)
 (I:res'=j.up srcs es.length:=by kernel_rfl):Bl P o (FX ops.toList eG) es res' (MQ srcs es E'):=ac7 srcs m u z hE ha hl I q
def dA {f:FuncId} {x:Operand} {ops:Array Operand} {ats:Array TypeId} (srcs:List Dx) (fi ca eG:List Ag) {fZ:List Ag} {E E':List BN} {j res':Ag} (m:Ah P f fZ E j E') (q:o.op=.call { callee:=.value x,args:=ops,argTypes:=ats }) (u:Dn P f=true:=by kernel_rfl) (z:RN srcs es E E'=true:=by kernel_rfl)
 (hE:Qi srcs es srcs E:=by first|exact trivial|exact MV AA trivial) (ha:NV srcs (fi++eG++ca) fZ:=by repeat (first|exact trivial|refine⟨.inl rfl,?_⟩|refine⟨⟨0,rfl,rfl⟩,?_⟩|refine⟨⟨1,rfl,rfl⟩,?_⟩|refine⟨⟨2,rfl,rfl⟩,?_⟩|refine⟨.inr (.inr ⟨rfl,rfl⟩),?_⟩)) (hl:ops.toList.length=eG.length:=by kernel_rfl)
 (I:res'=j.up srcs es.length:=by kernel_rfl):Bl P o ((x,.fn (.func f) fi ca)::FX ops.toList eG) es res' (MQ srcs es E'):=aqf srcs fi ca m u z hE ha hl I q
def aUB {f:FuncId} {x:Operand} {ops:Array Operand} {ats:Array TypeId} (srcs:List Dx) (fi ca:List D) (eG:List Ag) {fZ:List Ag} {E E':List BN} {j res':Ag} (m:Ah P f fZ E j E') (q:o.op=.call { callee:=.value x,args:=ops,argTypes:=ats }) (u:Dn P f=true:=by kernel_rfl) (z:RN srcs es E E'=true:=by kernel_rfl)
 (hE:Qi srcs es srcs E:=by first|exact trivial|exact MV AA trivial) (ha:NV srcs (fi.map .d++eG++ca.map .d) fZ:=by repeat (first|exact trivial|refine⟨.inl rfl,?_⟩|refine⟨⟨0,rfl,rfl⟩,?_⟩|refine⟨⟨1,rfl,rfl⟩,?_⟩|refine⟨⟨2,rfl,rfl⟩,?_⟩|refine⟨.inr (.inr ⟨rfl,rfl⟩),?_⟩)) (hl:ops.toList.length=eG.length:=by kernel_rfl)
 (I:res'=j.up srcs es.length:=by kernel_rfl):Bl P o ((x,.d (.fn (.func f) fi ca))::FX ops.toList eG) es res' (MQ srcs es E'):=aiI srcs fi ca m u z hE ha hl I q
end
section
variable {P : Program} {ops : Array Oper} {o : Oper} {rest l : List Oper} {σ : BI} {K : Exit → BI → Prop}
def DU.ca {f:FuncId} {eG:List Ag} {j:Ag} (m:Ah P f eG [] j []) (k:DU P ops rest (σ.sF o.dst (j.up [] σ.ents.length)) K) (q:Dn P f=true:=by kernel_rfl) (u:VG σ o=some (f,eG):=by kernel_rfl)
 (hd:eG.all Ag.Bc=true:=by kernel_rfl) (z:Jg ops σ o.guard=some true:=by kernel_rfl):DU P ops (o::rest) σ K:=.call m q k u hd z
def FB.ca {σ':BI} {f:FuncId} {eG:List Ag} {j:Ag} {rs:List Ag} {ess:List (List BN)} {bs:List Bool} (m:Ah P f eG [] j []) (k:FB P ops rest (σ.sF o.dst (j.up [] σ.ents.length)) rs ess bs σ') (q:Dn P f=true:=by kernel_rfl) (u:VG σ o=some (f,eG):=by kernel_rfl)
 (hd:eG.all Ag.Bc=true:=by kernel_rfl) (z:Jg ops σ o.guard=some true:=by kernel_rfl):FB P ops (o::rest) σ (j.up [] σ.ents.length::rs) (σ.ents::ess) (false::bs) σ':=.call m q k u hd z
end
section
variable {P : Program} {ops : Array Oper} {o : Oper} {rest l : List Oper} {σ : BI} {K : Exit → BI → Prop}
def DU.aW [T:Kn P] {M:BI→Prop} (k:M (RV (II T ops l.length l σ))) (h:(II T ops l.length l σ).isSome=true:=by kernel_rfl):DU P ops l σ (Lc M K):=.aM l.length k rfl h
def DU.bi [T:Kn P] {A:Type} {b:Bool} {u v z:A} (h:(bif b then u else v)=z) (j:u=z→DU P ops rest (σ.sF o.dst (.d (.lit (.bool true)))) K:=by exact fun h=>.aW<|CJ) (k2:v=z→DU P ops rest (σ.sF o.dst (.d (.lit (.bool false)))) K:=by exact fun h=>.aW<|CJ)
 (hs:(Vw T ops σ o).map (fun r=>(r.x,r.E,r.bar))=some (.d (.lit (.bool b)),σ.ents,false):=by kernel_rfl):DU P ops (o::rest) σ K:=Ef h (fun e h=>.c (BL some e) (j h) hs) fun e h=>.c (BL some e) (k2 h) hs
def Cc {A:Type} {b:Bool} {u v z:A} {G:Prop} (h:(bif b then u else v)=z) (j:b=true→u=z→G:=by exact fun e i=>acA) (k2:b=false→v=z→G:=by exact fun e i=>acA):G:=Ef h j k2
def AX [T:Kn P] {id:Nat} {y:Code} {Q:Exit→BI→Prop} (k:AO P y (RV (II T ops ops.toList.length ops.toList σ)) Q) (h:(II T ops ops.toList.length ops.toList σ).isSome=true:=by kernel_rfl):AO P (.seq (.region id ops false) y) σ Q:=AL (.aW k h)
end
section
variable {P : Program} {ops : Array Oper} {l : List Oper} {σ : BI} {K : Exit → BI → Prop}
def DU.mg (a c:Nat) (x:Ag) (j:DU P ops (l.take (c+1)) σ (Lc (fun s=>s.wipe (List.range' a c)=(σ.wipe (List.range' a c)).sF (some (a+c)) x) K)) (m:DU P ops (l.drop (c+1)) ((σ.wipe (List.range' a c)).sF (some (a+c)) x) K):DU P ops l σ K:=.merge (c+1) (List.range' a c) (a+c) x j m
end
def AZ {σ S:BI} (n w:Nat) (π:List (Nat×Bool)) (j:Ue σ.base σ.ents π=true:=by kernel_rfl) (m:S=⟨Lu π (mk n w) σ.slots,SX σ.ents π,σ.base⟩:=by kernel_rfl):Bz σ S:=aeU (mk n w) π j m
def OZ {α β:Type} {y:α} {g:α→Option (Except Value β)} {r:Except Value β} (h:Lj (.ok y) g=some r):g y=some r:=h
def OA {α β:Type} {u:Value} {g:α→Option (Except Value β)} {r:Except Value β} (h:Lj (.error u) g=some r):some (.error u)=some r:=h
def Bv :ByteArray:=⟨#[]⟩
def kN (k:IntKind) (n:Int):D:=.lit (.int k n)
def aT3 :ByteArray:=⟨#[97]⟩
def kF :ByteArray:=⟨#[58]⟩
def o8 :ByteArray:=⟨#[33]⟩
def nV :ByteArray:=⟨#[64]⟩
def uK :ByteArray:=⟨#[64,33]⟩
def aEV :ByteArray:=⟨#[33,114,58,97]⟩
def xZ :ByteArray:=⟨#[64,97,110,110,58,97]⟩
def afN :ByteArray:=⟨#[104,105]⟩
def Ib :ByteArray:=⟨#[84,101,120,116]⟩
def J7 :ByteArray:=⟨#[78]⟩
def LG :ByteArray:=⟨#[86,105,97]⟩
def LV :ByteArray:=⟨#[76,101,118,101,108,115]⟩
def Jz :ByteArray:=⟨#[65,108,108,111,119]⟩
def LM :ByteArray:=⟨#[68,101,110,121]⟩
def Ip :ByteArray:=⟨#[84,97,114,103,101,116]⟩
def Le :ByteArray:=⟨#[84,104,114,101,97,100]⟩
def EJ :Value:=.int .i64 0
def E5 :Value:=.string Bv
def IW :Value:=.slice none 0 0
def aCz :Value:=.agg #[IW,IW,EJ,EJ,EJ,EJ,EJ,EJ,EJ]
def aCv :Value:=.agg #[E5,EJ,EJ,.bool false,E5,IW,IW,IW,IW,EJ,EJ,EJ,EJ,EJ,EJ,EJ]
def aB8 :Value:=.agg #[E5,EJ]
def su :Value:=.agg #[EJ,E5,E5,EJ,.bool false,E5,EJ,EJ,IW,IW,E5,EJ,EJ,.bool false,E5,IW,IW,IW,IW,EJ,EJ,EJ,EJ,EJ,EJ,EJ,EJ,E5,EJ]
def aGe :Value:=.agg #[E5,EJ]
def aCx :Value:=.agg #[EJ,EJ,EJ]
def aHK :Value:=.agg #[.map none,.map none,.map none]
def aTA :Value:=.agg #[EJ,EJ]
def aCU :Value:=.agg #[EJ,E5,EJ]
def aAo :Value:=.agg #[EJ,IW,IW,EJ]
def aaJ :Value:=.agg #[IW,IW,IW]
def aF3 :Value:=.agg #[EJ,EJ]
def aAj :Value:=.agg #[]
def zs :Value:=.agg #[IW]
def aDt :Value:=.agg #[EJ,EJ,EJ,EJ,EJ,EJ,EJ]
def aDb :Value:=.agg #[IW]
def aUl :Value:=.agg #[IW,IW,IW,IW,IW]
def aBS :Value:=.agg #[EJ,E5]
def aFY :Value:=.agg #[EJ,.nilFunc]
def aCi :Value:=.agg #[EJ]
def aC2 :Value:=.agg #[]
def aFa :Value:=.agg #[EJ,EJ,EJ,EJ,EJ]
def aDh :Value:=.agg #[IW,IW]
def aCA :Value:=.agg #[IW,IW]
def aBf :Value:=.agg #[EJ,EJ,EJ,IW]
def aDT :Value:=.agg #[EJ,EJ,EJ]
structure H6 where
 User:ByteArray
 N:Int
def EK (x:H6):D:=.agg [Cx x.User,Ac x.N]
def ajA :H6:=⟨Bv,0⟩
instance : Inhabited H6:=⟨ajA⟩
structure Ir where
 Kind:Int
 N:Int
def ER (x:Ir):D:=.agg [Ac x.Kind,Ac x.N]
def am8 :Ir:=⟨0,0⟩
instance : Inhabited Ir:=⟨am8⟩
structure CB where
 Users:(List H6)
 Kinds:(List Ir)
 User:Int
 Message:Int
 State:Int
 gW:Int
 jL:Int
 mO:Int
 gy:Int
def EZ (x:CB):D:=.agg [(BQ EK) x.Users,(BQ ER) x.Kinds,Ac x.User,Ac x.Message,Ac x.State,Ac x.gW,Ac x.jL,Ac x.mO,Ac x.gy]
def Jc :CB:=⟨[],[],0,0,0,0,0,0,0⟩
instance : Inhabited CB:=⟨Jc⟩
structure CW where
 Text:ByteArray
 N:Int
 Target:Int
 Thread:Bool
 Via:ByteArray
 Allow:(List ByteArray)
 gY:(List ByteArray)
 Levels:CB
def F7 (x:CW):D:=.agg [Cx x.Text,Ac x.N,Ac x.Target,EY x.Thread,Cx x.Via,(BQ Cx) x.Allow,(BQ Cx) x.gY,(BQ EK) x.Levels.Users,(BQ ER) x.Levels.Kinds,Ac x.Levels.User,Ac x.Levels.Message,Ac x.Levels.State,Ac x.Levels.gW,Ac x.Levels.jL,Ac x.Levels.mO,Ac x.Levels.gy]
def EI :CW:=⟨Bv,0,0,false,Bv,[],[],Jc⟩
instance : Inhabited CW:=⟨EI⟩
structure Ny where
 Server:ByteArray
 Sum:Int
def aIL (x:Ny):D:=.agg [Cx x.Server,Ac x.Sum]
def dK :Ny:=⟨Bv,0⟩
instance : Inhabited Ny:=⟨dK⟩
structure AQ where
 Id:Int
 Room:ByteArray
 aY:ByteArray
 Kind:Int
 State:Bool
 Key:ByteArray
 Time:Int
 Depth:Int
 bM:(List Int)
 bK:(List Int)
 Content:CW
 Hash:Int
 pz:Ny
def BD (x:AQ):D:=.agg [Ac x.Id,Cx x.Room,Cx x.aY,Ac x.Kind,EY x.State,Cx x.Key,Ac x.Time,Ac x.Depth,(BQ Ac) x.bM,(BQ Ac) x.bK,Cx x.Content.Text,Ac x.Content.N,Ac x.Content.Target,EY x.Content.Thread,Cx x.Content.Via,(BQ Cx) x.Content.Allow,(BQ Cx) x.Content.gY,(BQ EK) x.Content.Levels.Users,(BQ ER) x.Content.Levels.Kinds,Ac x.Content.Levels.User,Ac x.Content.Levels.Message,Ac x.Content.Levels.State,Ac x.Content.Levels.gW,Ac x.Content.Levels.jL,Ac x.Content.Levels.mO,Ac x.Content.Levels.gy,Ac x.Hash,Cx x.pz.Server,Ac x.pz.Sum]
def F9 :AQ:=⟨0,Bv,Bv,0,false,Bv,0,0,[],[],EI,0,dK⟩
instance : Inhabited AQ:=⟨F9⟩
structure FP where
 b_:(List Int)
def LW (x:FP):D:=.agg [(BQ DI) x.b_]
def aEy :FP:=⟨[]⟩
instance : Inhabited FP:=⟨aEy⟩
structure OQ where
 aBo:Int
 atm:Nat
def Ud (x:OQ):D:=.agg [Ac x.aBo,acz x.atm]
def ag3 :OQ:=⟨0,0⟩
instance : Inhabited OQ:=⟨ag3⟩
structure SC where
 pJ:Int
 nU:Int
def JX (x:SC):D:=.agg [Ac x.pJ,Ac x.nU]
def zo :SC:=⟨0,0⟩
instance : Inhabited SC:=⟨zo⟩
structure Aq where
 Kind:Int
 Key:ByteArray
 Id:Int
def BO (x:Aq):D:=.agg [Ac x.Kind,Cx x.Key,Ac x.Id]
def aeM :Aq:=⟨0,Bv,0⟩
instance : Inhabited Aq:=⟨aeM⟩
structure jk where
 anA:Int
def arh :jk:=⟨0⟩
instance : Inhabited jk:=⟨arh⟩
structure WZ where
def zO (x:WZ):D:=.agg []
def aqj :WZ:=⟨⟩
instance : Inhabited WZ:=⟨aqj⟩
structure Oh where
 Ei:(List Aq)
 aks:(List Int)
 ato:(List Int)
def Zg (x:Oh):D:=.agg [(BQ BO) x.Ei,(BQ Ac) x.aks,(BQ Ac) x.ato]
def aBt :Oh:=⟨[],[],[]⟩
instance : Inhabited Oh:=⟨aBt⟩
structure Qx where
 nU:Int
 Jj:Int
 BH:Int
 atp:(List Int)
def Kq (x:Qx):D:=.agg [Ac x.nU,Ac x.Jj,Ac x.BH,(BQ Ac) x.atp]
def aoK :Qx:=⟨0,0,0,[]⟩
instance : Inhabited Qx:=⟨aoK⟩
structure UC where
 abM:Int
 abN:ByteArray
def KQ (x:UC):D:=.agg [Ac x.abM,Cx x.abN]
def ahf :UC:=⟨0,Bv⟩
instance : Inhabited UC:=⟨ahf⟩
structure WV where
 asj:(List Int)
def yw (x:WV):D:=.agg [(BQ Ac) x.asj]
def as9 :WV:=⟨[]⟩
instance : Inhabited WV:=⟨as9⟩
structure Ko where
 nU:Int
 zH:Int
 BH:Int
def OB (x:Ko):D:=.agg [Ac x.nU,Ac x.zH,Ac x.BH]
def aou :Ko:=⟨0,0,0⟩
instance : Inhabited Ko:=⟨aou⟩
structure Ob where
 Depth:Int
 Id:Int
 Target:Int
def NY (x:Ob):D:=.agg [Ac x.Depth,Ac x.Id,Ac x.Target]
def dH :Ob:=⟨0,0,0⟩
instance : Inhabited Ob:=⟨dH⟩
structure IG where
 Id:Int
 Before:(List Aq)
 After:(List Aq)
 Err:Int
def KD (x:IG):D:=.agg [Ac x.Id,(BQ BO) x.Before,(BQ BO) x.After,Ac x.Err]
def UU :IG:=⟨0,[],[],0⟩
instance : Inhabited IG:=⟨UU⟩
structure Oa where
 Same:(List Aq)
 Power:(List Int)
 First:(List Aq)
 Others:(List Int)
 Last:(List Aq)
def ZJ (x:Oa):D:=.agg [(BQ BO) x.Same,(BQ Ac) x.Power,(BQ BO) x.First,(BQ Ac) x.Others,(BQ BO) x.Last]
def Wn :Oa:=⟨[],[],[],[],[]⟩
instance : Inhabited Oa:=⟨Wn⟩
def amZ :E8 Tryz.prog 35 10 10:=ED AA
def UN :ET Tryz.prog 31 true 16:=GL AA
def aaW :(Tryz.prog.info? 31).bind (·.zero)=some (aCv):=AA
def anT :E8 Tryz.prog 35 8 8:=ED AA
def aFh :ET Tryz.prog 24 false 1:=GL AA
def BX :Tryz.prog.underlying 24=some (.slice 3):=AA
def apK :E8 Tryz.prog 35 9 9:=ED AA
def aj3 :E8 Tryz.prog 31 5 5:=ED AA
def aom :ET Tryz.prog 25 false 1:=GL AA
def FD :Tryz.prog.underlying 25=some (.slice 9):=AA
def aso :E8 Tryz.prog 31 6 6:=ED AA
def aji :E8 Tryz.prog 31 7 7:=ED AA
def akI :E8 Tryz.prog 29 0 0:=ED AA
def aQh :ET Tryz.prog 26 false 1:=GL AA
def FK :Tryz.prog.underlying 26=some (.slice 68):=AA
def ank :E8 Tryz.prog 29 1 1:=ED AA
def aRS :ET Tryz.prog 27 false 1:=GL AA
def FI :Tryz.prog.underlying 27=some (.slice 97):=AA
def akr :E8 Tryz.prog 35 1 1:=ED AA
def JK :ET Tryz.prog 9 false 1:=GL AA
def GX :Tryz.prog.underlying 9=some (.string):=AA
def atF :E8 Tryz.prog 35 2 2:=ED AA
def apa :E8 Tryz.prog 35 5 5:=ED AA
def akE :E8 Tryz.prog 31 0 0:=ED AA
def amQ :E8 Tryz.prog 31 4 4:=ED AA
def aph :E8 Tryz.prog 35 12 27:=ED AA
def akl :E8 Tryz.prog 33 0 0:=ED AA
def JA :ET Tryz.prog 68 true 2:=GL AA
def agJ :E8 Tryz.prog 68 0 0:=ED AA
def Bq :Tryz.prog.underlying 22=some (.slice 35):=AA
def Cb :ET Tryz.prog 35 true 29:=GL AA
def Vy :Tryz.prog.underlying 171=some (.slice 5):=AA
def J3 :GN Tryz.prog 171 5 1 1:=LX AA
def Qp :(Tryz.prog.info? 5).bind (·.zero)=some (.int .u8 0):=AA
def ZF :Tryz.prog.underlying 3=some (.int .i64):=AA
def agT :Tryz.prog.underlying 146=some (.int .u64):=AA
def aFj :Tryz.prog.underlying 5=some (.int .u8):=AA
def ak9 :E8 Tryz.prog 31 1 1:=ED AA
def CP :ET Tryz.prog 3 false 1:=GL AA
def ags :E8 Tryz.prog 31 2 2:=ED AA
def aqK :E8 Tryz.prog 31 3 3:=ED AA
def acM :ET Tryz.prog 4 false 1:=GL AA
def Yq :ET Tryz.prog 29 true 9:=GL AA
def aaR :(Tryz.prog.info? 29).bind (·.zero)=some (aCz):=AA
def ug :(Tryz.prog.info? 68).bind (·.zero)=some (aGe):=AA
def aiV :E8 Tryz.prog 68 1 1:=ED AA
def Jd :ET Tryz.prog 97 true 2:=GL AA
def adH :(Tryz.prog.info? 97).bind (·.zero)=some (aTA):=AA
def aeC :E8 Tryz.prog 97 0 0:=ED AA
def ah :ET Tryz.prog 23 false 1:=GL AA
def ajE :E8 Tryz.prog 97 1 1:=ED AA
def apl :E8 Tryz.prog 29 2 2:=ED AA
def an6 :E8 Tryz.prog 29 3 3:=ED AA
def arj :E8 Tryz.prog 29 4 4:=ED AA
def afD :E8 Tryz.prog 29 5 5:=ED AA
def apX :E8 Tryz.prog 29 6 6:=ED AA
def asK :E8 Tryz.prog 29 7 7:=ED AA
def asL :E8 Tryz.prog 29 8 8:=ED AA
def abq :(Tryz.prog.info? 199).bind (·.zero)=some (aDt):=AA
def afh :bY Tryz.prog 199 1 (aDt):=aDo AA abq AA
def aAG :Tryz.prog.underlying 199=some (.array 7 3):=AA
def aKK :ET Tryz.prog 5 false 1:=GL AA
def NI :GN Tryz.prog 25 9 1 16:=LX AA
def qx :GN Tryz.prog 26 68 2 24:=LX AA
def aPE :GN Tryz.prog 27 97 2 16:=LX AA
def KW :(Tryz.prog.info? 35).bind (·.zero)=some (su):=AA
def asP :E8 Tryz.prog 35 3 3:=ED AA
def abC :(Tryz.prog.info? 202).bind (·.zero)=some (aDb):=AA
def ash :JD Tryz.prog 202 [(0,1)] (aDb):=MP AA abC AA
def am3 :E8 Tryz.prog 35 0 0:=ED AA
def DW :GN Tryz.prog 24 3 1 8:=LX AA
def zero3 :(Tryz.prog.info? 3).bind (·.zero)=some (.int .i64 0):=AA
def ahc :E8 Tryz.prog 202 0 0:=ED AA
def agx :ET Tryz.prog 171 false 1:=GL AA
def zero9 :(Tryz.prog.info? 9).bind (·.zero)=some (.string Bv):=AA
def aiW :E8 Tryz.prog 35 4 4:=ED AA
def alD :GN Tryz.prog 242 4 1 1:=LX AA
def aBw :(Tryz.prog.info? 4).bind (·.zero)=some (.bool false):=AA
def aRG :Tryz.prog.underlying 242=some (.slice 4):=AA
def arq :E8 Tryz.prog 35 6 6:=ED AA
def asW :E8 Tryz.prog 35 7 7:=ED AA
def aMp :GN Tryz.prog 243 24 1 24:=LX AA
def zero24 :(Tryz.prog.info? 24).bind (·.zero)=some (.slice none 0 0):=AA
def wu :Tryz.prog.underlying 243=some (.slice 24):=AA
def aeS :E8 Tryz.prog 35 11 26:=ED AA
def apV :E8 Tryz.prog 33 1 1:=ED AA
def acZ :(Tryz.prog.info? 33).bind (·.zero)=some (aB8):=AA
def amx :JD Tryz.prog 33 [(0,1),(1,1)] (aB8):=MP AA acZ AA
def alm :ET Tryz.prog 33 true 2:=GL AA
def aej :Dn Tryz.prog 88=true:=AA
def Hz :GN Tryz.prog 22 35 29 376:=LX AA
def aij :Dn Tryz.prog 314=true:=AA
def alH :Dn Tryz.prog 315=true:=AA
def aID :(Tryz.prog.info? 252).bind (·.zero)=some (aFY):=AA
def ali :JD Tryz.prog 252 [(0,1),(1,1)] (aFY):=MP AA aID AA
def agW :GN Tryz.prog 253 252 2 16:=LX AA
def adf :Tryz.prog.underlying 253=some (.slice 252):=AA
def aUV :ET Tryz.prog 252 true 2:=GL AA
def atK :E8 Tryz.prog 252 0 0:=ED AA
def ail :E8 Tryz.prog 252 1 1:=ED AA
def aoZ :ET Tryz.prog 218 false 1:=GL AA
def ahy :Dn Tryz.prog 253=true:=AA
def asJ :Dn Tryz.prog 254=true:=AA
def afw :Dn Tryz.prog 255=true:=AA
def ant :Dn Tryz.prog 256=true:=AA
def aeh :Dn Tryz.prog 257=true:=AA
def aek :Dn Tryz.prog 258=true:=AA
def ajS :Tryz.prog.underlying 4=some (.bool):=AA
def aEg (x y:H6):Bool:=(x.User.toList==y.User.toList&&(x.N==y.N&&true))
def ajJ (x y:H6):jh Tryz.prog 2 68 [.string x.User,.int .i64 x.N] [.string y.User,.int .i64 y.N] (aEg x y):=⟨fun d w=>aBO AA AA AA (l:=[(9,0),(3,1)]) AA (WL (NJ JK AA w) (NJ JK AA w) (run_equalIn_string w _ _ _ _ GX)<|WL (NJ CP AA w) (NJ CP AA w) (Ze w _ _ .i64 _ _ _ ZF)<|aAn _ _ _ _)⟩
def ajv :Program.eqGuardType Tryz.prog (Program.depth Tryz.prog) 68=false:=AA
def adk :Tryz.prog.underlying 23=some (.int .i64):=AA
def aFJ (x y:Ir):Bool:=(x.Kind==y.Kind&&(x.N==y.N&&true))
def ara (x y:Ir):jh Tryz.prog 2 97 [.int .i64 x.Kind,.int .i64 x.N] [.int .i64 y.Kind,.int .i64 y.N] (aFJ x y):=⟨fun d w=>aBO AA AA AA (l:=[(23,0),(3,1)]) AA (WL (NJ ah AA w) (NJ ah AA w) (Ze w _ _ .i64 _ _ _ adk)<|WL (NJ CP AA w) (NJ CP AA w) (Ze w _ _ .i64 _ _ _ ZF)<|aAn _ _ _ _)⟩
def ao9 :Program.eqGuardType Tryz.prog (Program.depth Tryz.prog) 97=false:=AA
def aAe (x y:Ny):Bool:=(x.Server.toList==y.Server.toList&&(x.Sum==y.Sum&&true))
def aia (x y:Ny):jh Tryz.prog 2 33 [.string x.Server,.int .i64 x.Sum] [.string y.Server,.int .i64 y.Sum] (aAe x y):=⟨fun d w=>aBO AA AA AA (l:=[(9,0),(3,1)]) AA (WL (NJ JK AA w) (NJ JK AA w) (run_equalIn_string w _ _ _ _ GX)<|WL (NJ CP AA w) (NJ CP AA w) (Ze w _ _ .i64 _ _ _ ZF)<|aAn _ _ _ _)⟩
def ajW :Program.eqGuardType Tryz.prog (Program.depth Tryz.prog) 33=false:=AA
def Rj :Tryz.prog.underlying 127=some (.map 3 3):=AA
def Iy :KeyTy Tryz.prog 3 D7:=aj0 ZF
def ao7 :(Tryz.prog.info? 127).bind (·.zero)=some (.map none):=AA
def aqw :ET Tryz.prog 127 false 1:=GL AA
def aNO :GN Tryz.prog 154 156 2 16:=LX AA
def zy :(Tryz.prog.info? 156).bind (·.zero)=some (aF3):=AA
def atb :JD Tryz.prog 156 [(0,1),(1,1)] (aF3):=MP AA zy AA
def XR :Tryz.prog.underlying 154=some (.slice 156):=AA
def U9 :ET Tryz.prog 156 true 2:=GL AA
def aob :E8 Tryz.prog 156 0 0:=ED AA
def akv :E8 Tryz.prog 156 1 1:=ED AA
def amX :JD Tryz.prog 35 [(0,1),(1,1),(2,1),(3,1),(4,1),(5,1),(6,1),(7,1),(8,1),(9,1),(10,16),(26,1),(27,2)] (su):=MP AA KW AA
def IY :Tryz.prog.underlying 53=some (.slice 102):=AA
def FQ :ET Tryz.prog 102 true 3:=GL AA
def Ph :(Tryz.prog.info? 102).bind (·.zero)=some (aCU):=AA
def apL :JD Tryz.prog 102 [(0,1),(1,1),(2,1)] (aCU):=MP AA Ph AA
def aeX :E8 Tryz.prog 102 0 0:=ED AA
def apv :E8 Tryz.prog 102 1 1:=ED AA
def akG :Dn Tryz.prog 212=true:=AA
def aq1 :Dn Tryz.prog 214=true:=AA
def Fv :Tryz.prog.underlying 54=some (.slice 102):=AA
def ari :E8 Tryz.prog 102 2 2:=ED AA
def KH :Tryz.prog.underlying 105=some (.slice 54):=AA
def SV :ET Tryz.prog 54 false 1:=GL AA
def Y0 :(Tryz.prog.info? 54).bind (·.zero)=some (.slice none 0 0):=AA
def aiP :ET Tryz.prog 105 false 1:=GL AA
def aaT :Dn Tryz.prog 90=true:=AA
def Lr :GN Tryz.prog 54 102 3 32:=LX AA
def aLS :Dn Tryz.prog 92=true:=AA
def zG :Tryz.prog.underlying 103=some (.map 3 4):=AA
def aie :Dn Tryz.prog 216=true:=AA
def aiL :Dn Tryz.prog 217=true:=AA
def aQd :Dn Tryz.prog 164=true:=AA
def aaw :Dn Tryz.prog 218=true:=AA
def amc :Dn Tryz.prog 23=true:=AA
def yY :Dn Tryz.prog 128=true:=AA
def afB :Dn Tryz.prog 377=true:=AA
def aoe :ET Tryz.prog 22 false 1:=GL AA
def abu :(Tryz.prog.info? 258).bind (·.zero)=some (aCi):=AA
def aed :JD Tryz.prog 258 [(0,1)] (aCi):=MP AA abu AA
def aqv :(match Tryz.prog.underlying 258 with |some (.interface _)=>false|some _=>true|none=>false)=true:=AA
def wL :Dn Tryz.prog 206=true:=AA
def UH :Dn Tryz.prog 205=true:=AA
def aQg :(Tryz.prog.info? 283).bind (·.zero)=some (aFa):=AA
def asO :bY Tryz.prog 283 1 (aFa):=aDo AA aQg AA
def alh :ET Tryz.prog 283 true 5:=GL AA
def aQX :Tryz.prog.underlying 283=some (.array 5 3):=AA
def ak4 :Dn Tryz.prog 89=true:=AA
def apG :JD Tryz.prog 29 [(0,1),(1,1),(2,1),(3,1),(4,1),(5,1),(6,1),(7,1),(8,1)] (aCz):=MP AA aaR AA
def ajU :JD Tryz.prog 68 [(0,1),(1,1)] (aGe):=MP AA ug AA
def an8 :Dn Tryz.prog 268=true:=AA
def aVd :ET Tryz.prog 199 true 7:=GL AA
def aRv :Dn Tryz.prog 321=true:=AA
def aMm :Dn Tryz.prog 320=true:=AA
def aTh :(Tryz.prog.info? 288).bind (·.zero)=some (aDh):=AA
def aqu :bY Tryz.prog 288 1 (aDh):=aDo AA aTh AA
def aqc :Tryz.prog.underlying 288=some (.array 2 27):=AA
def aTS :(Tryz.prog.info? 289).bind (·.zero)=some (aCA):=AA
def aiT :bY Tryz.prog 289 1 (aCA):=aDo AA aTS AA
def af5 :Tryz.prog.underlying 289=some (.array 2 26):=AA
def aoz :Dn Tryz.prog 203=true:=AA
def abf :(Tryz.prog.info? 266).bind (·.zero)=some (aC2):=AA
def ahj :JD Tryz.prog 266 [] (aC2):=MP AA abf AA
def aqT :(match Tryz.prog.underlying 266 with |some (.interface _)=>false|some _=>true|none=>false)=true:=AA
def aVD :Dn Tryz.prog 221=true:=AA
def arI :Tryz.prog.underlying 118=some (.int .u64):=AA
def anR :(Tryz.prog.info? 131).bind (·.zero)=some (aaJ):=AA
def aVJ :(Tryz.prog.info? 164).bind (·.zero)=some (aAj):=AA
def amJ :JD Tryz.prog 164 [] (aAj):=MP AA aVJ AA
def aiR :(match Tryz.prog.underlying 164 with |some (.interface _)=>false|some _=>true|none=>false)=true:=AA
def aPw :(Tryz.prog.info? 232).bind (·.zero)=some (aBS):=AA
def aiy :JD Tryz.prog 232 [(0,1),(1,1)] (aBS):=MP AA aPw AA
def aOr :GN Tryz.prog 223 232 2 24:=LX AA
def lu :Tryz.prog.underlying 223=some (.slice 232):=AA
def wR :ET Tryz.prog 232 true 2:=GL AA
def anu :E8 Tryz.prog 232 0 0:=ED AA
def anh :E8 Tryz.prog 232 1 1:=ED AA
def ad1 :Dn Tryz.prog 210=true:=AA
def aOc :(Tryz.prog.info? 326).bind (·.zero)=some (aBf):=AA
def aqn :JD Tryz.prog 326 [(0,1),(1,1),(2,1),(3,1)] (aBf):=MP AA aOc AA
def aMe :GN Tryz.prog 323 326 4 48:=LX AA
def WC :Tryz.prog.underlying 323=some (.slice 326):=AA
def aG :ET Tryz.prog 326 true 4:=GL AA
def afi :E8 Tryz.prog 326 3 3:=ED AA
def agl :E8 Tryz.prog 326 0 0:=ED AA
def anE :E8 Tryz.prog 326 1 1:=ED AA
def agG :E8 Tryz.prog 326 2 2:=ED AA
def anw :Dn Tryz.prog 398=true:=AA
def aqP :Dn Tryz.prog 395=true:=AA
def anK :uZ Tryz.prog 164 "fedchat/resolve.sort" 395=true:=AA
def anC :E8 Tryz.prog 131 1 1:=ED AA
def aSx :(Tryz.prog.info? 169).bind (·.zero)=some (zs):=AA
def ase :JD Tryz.prog 169 [(0,1)] (zs):=MP AA aSx AA
def aki :(match Tryz.prog.underlying 169 with |some (.interface _)=>false|some _=>true|none=>false)=true:=AA
def ahY :E8 Tryz.prog 169 0 0:=ED AA
def aLJ :(Tryz.prog.info? 330).bind (·.zero)=some (aDT):=AA
def afK :JD Tryz.prog 330 [(0,1),(1,1),(2,1)] (aDT):=MP AA aLJ AA
def aUv :GN Tryz.prog 328 330 3 24:=LX AA
def mF :Tryz.prog.underlying 328=some (.slice 330):=AA
def eU :ET Tryz.prog 330 true 3:=GL AA
def uo (x y:Ko):Bool:=(x.nU==y.nU&&(x.zH==y.zH&&(x.BH==y.BH&&true)))
def aqW (x y:Ko):jh Tryz.prog 2 330 [.int .i64 x.nU,.int .i64 x.zH,.int .i64 x.BH] [.int .i64 y.nU,.int .i64 y.zH,.int .i64 y.BH] (uo x y):=⟨fun d w=>aBO AA AA AA (l:=[(3,0),(3,1),(3,2)]) AA (WL (NJ CP AA w) (NJ CP AA w) (Ze w _ _ .i64 _ _ _ ZF)<|WL (NJ CP AA w) (NJ CP AA w) (Ze w _ _ .i64 _ _ _ ZF)<|WL (NJ CP AA w) (NJ CP AA w) (Ze w _ _ .i64 _ _ _ ZF)<|aAn _ _ _ _)⟩
def atB :Program.eqGuardType Tryz.prog (Program.depth Tryz.prog) 330=false:=AA
def anW :E8 Tryz.prog 330 0 0:=ED AA
def afS :Dn Tryz.prog 400=true:=AA
def ajT :uZ Tryz.prog 169 "fedchat/resolve.sort" 400=true:=AA
def ajI :E8 Tryz.prog 131 0 0:=ED AA
def akP :E8 Tryz.prog 131 2 2:=ED AA
def aVv :ET Tryz.prog 131 true 3:=GL AA
def aqt :jG Tryz.prog 131 0 0 false 1=true:=AA
def zero22 :(Tryz.prog.info? 22).bind (·.zero)=some (.slice none 0 0):=AA
def ah5 :E8 Tryz.prog 92 2 2:=ED AA
def alX :ET Tryz.prog 90 false 1:=GL AA
def wJ :Tryz.prog.underlying 90=some (.map 3 39):=AA
def fE :(Tryz.prog.info? 39).bind (·.zero)=some (.int .i64 0):=AA
def apH :E8 Tryz.prog 92 1 1:=ED AA
def as3 :ET Tryz.prog 89 false 1:=GL AA
def pS :Tryz.prog.underlying 89=some (.map 3 54):=AA
def aC4 :GN Tryz.prog 105 54 1 24:=LX AA
def alG :E8 Tryz.prog 92 0 0:=ED AA
def aWb :(Tryz.prog.info? 92).bind (·.zero)=some (aHK):=AA
def aV9 :JD Tryz.prog 92 [(0,1),(1,1),(2,1)] (aHK):=MP AA aWb AA
def aqB :ET Tryz.prog 84 false 1:=GL AA
def ape :Dn Tryz.prog 50=true:=AA
def aPF :(Tryz.prog.info? 76).bind (·.zero)=some (aCx):=AA
def afd :JD Tryz.prog 76 [(0,1),(1,1),(2,1)] (aCx):=MP AA aPF AA
def aUd :GN Tryz.prog 77 76 3 24:=LX AA
def aBl :Tryz.prog.underlying 77=some (.slice 76):=AA
def aOS :ET Tryz.prog 76 true 3:=GL AA
def aqQ :E8 Tryz.prog 76 2 2:=ED AA
def aiM :E8 Tryz.prog 76 0 0:=ED AA
def al9 :E8 Tryz.prog 76 1 1:=ED AA
def apE :Dn Tryz.prog 38=true:=AA
def asq :JD Tryz.prog 31 [(0,1),(1,1),(2,1),(3,1),(4,1),(5,1),(6,1),(7,9)] (aCv):=MP AA aaW AA
def aeB :Dn Tryz.prog 20=true:=AA
def YK :Dn Tryz.prog 340=true:=AA
def aNB :Dn Tryz.prog 341=true:=AA
def ahG :Dn Tryz.prog 342=true:=AA
def adq :Dn Tryz.prog 369=true:=AA
def aee :Dn Tryz.prog 107=true:=AA
def aIr :(Tryz.prog.info? 110).bind (·.zero)=some (aAo):=AA
def Zr :Tryz.prog.underlying 113=some (.slice 110):=AA
def VP :ET Tryz.prog 110 true 4:=GL AA
def amR :E8 Tryz.prog 110 0 0:=ED AA
def agj :JD Tryz.prog 110 [(0,1),(1,1),(2,1),(3,1)] (aAo):=MP AA aIr AA
def aPx :Dn Tryz.prog 291=true:=AA
def asw :Dn Tryz.prog 348=true:=AA
def aVb :Dn Tryz.prog 286=true:=AA
def agi :Dn Tryz.prog 290=true:=AA
def aK :GN Tryz.prog 53 102 3 32:=LX AA
def afJ :Dn Tryz.prog 351=true:=AA
def ajx :(Tryz.prog.info? 212).bind (·.zero)=some (aUl):=AA
def afl :E8 Tryz.prog 212 0 0:=ED AA
def ala :E8 Tryz.prog 212 1 1:=ED AA
def alq :E8 Tryz.prog 212 2 2:=ED AA
def afX :E8 Tryz.prog 212 3 3:=ED AA
def ap8 :E8 Tryz.prog 212 4 4:=ED AA
def aVO :ET Tryz.prog 212 true 5:=GL AA
def ai5 :jG Tryz.prog 212 4 4 false 1=true:=AA
def aad :Dn Tryz.prog 244=true:=AA
def ap9 :E8 Tryz.prog 110 3 3:=ED AA
def aiv :ET Tryz.prog 39 false 1:=GL AA
def apD :E8 Tryz.prog 110 2 2:=ED AA
def asA :E8 Tryz.prog 110 1 1:=ED AA
def aTO :GN Tryz.prog 113 110 4 64:=LX AA
def aqE :(Tryz.prog.info? 55).bind (·.zero)=some (.int .i64 0):=AA
def akq :ET Tryz.prog 55 false 1:=GL AA
instance atg :Kn Tryz.prog where
 und:=[(9,.string),(3,.int .i64),(146,.int .u64),(5,.int .u8),(4,.bool),(23,.int .i64),(118,.int .u64)]
 al5:=⟨GX,ZF,agT,aFj,ajS,adk,arI,trivial⟩
 ty:=[(31,true,16),(24,false,1),(25,false,1),(26,false,1),(27,false,1),(9,false,1),(68,true,2),(35,true,29),(3,false,1),(4,false,1),(29,true,9),(97,true,2),(23,false,1),(5,false,1),(171,false,1),(33,true,2),(252,true,2),(218,false,1),(127,false,1),(156,true,2),(102,true,3),(54,false,1),(105,false,1),(22,false,1),(283,true,5),(199,true,7),(232,true,2),(326,true,4),(330,true,3),(131,true,3),(90,false,1),(89,false,1),(84,false,1),(76,true,3),(110,true,4),(212,true,5),(39,false,1),(55,false,1)]
 hty:=⟨UN,aFh,aom,aQh,aRS,JK,JA,Cb,CP,acM,Yq,Jd,ah,aKK,agx,alm,aUV,aoZ,aqw,U9,FQ,SV,aiP,aoe,alh,aVd,wR,aG,eU,aVv,alX,as3,aqB,aOS,VP,aVO,aiv,akq,trivial⟩
 fld:=[((35,10),10),((35,8),8),((35,9),9),((31,5),5),((31,6),6),((31,7),7),((29,0),0),((29,1),1),((35,1),1),((35,2),2),((35,5),5),((31,0),0),((31,4),4),((35,12),27),((33,0),0),((68,0),0),((31,1),1),((31,2),2),((31,3),3),((68,1),1),((97,0),0),((97,1),1),((29,2),2),((29,3),3),((29,4),4),((29,5),5),((29,6),6),((29,7),7),((29,8),8),((35,3),3),((35,0),0),((202,0),0),((35,4),4),((35,6),6),((35,7),7),((35,11),26),((33,1),1),((252,0),0),((252,1),1),((156,0),0),((156,1),1),((102,0),0),((102,1),1),((102,2),2),((232,0),0),((232,1),1),((326,3),3),((326,0),0),((326,1),1),((326,2),2),((131,1),1),((169,0),0),((330,0),0),((131,0),0),((131,2),2),((92,2),2),((92,1),1),((92,0),0),((76,2),2),((76,0),0),((76,1),1),((110,0),0),((212,0),0),((212,1),1),((212,2),2),((212,3),3),((212,4),4),((110,3),3),((110,2),2),((110,1),1)]
 hfld:=⟨amZ,anT,apK,aj3,aso,aji,akI,ank,akr,atF,apa,akE,amQ,aph,akl,agJ,ak9,ags,aqK,aiV,aeC,ajE,apl,an6,arj,afD,apX,asK,asL,asP,am3,ahc,aiW,arq,asW,aeS,apV,atK,ail,aob,akv,aeX,apv,ari,anu,anh,afi,agl,anE,agG,anC,ahY,anW,ajI,akP,ah5,apH,alG,aqQ,aiM,al9,amR,afl,ala,alq,afX,ap8,ap9,apD,asA,trivial⟩
 part:=[((131,0),0,false,1),((212,4),4,false,1)]
 hpart:=⟨aqt,ai5,trivial⟩
 zero:=[(31,aCv),(5,.int .u8 0),(29,aCz),(68,aGe),(97,aTA),(199,aDt),(35,su),(202,aDb),(3,.int .i64 0),(9,.string Bv),(4,.bool false),(24,.slice none 0 0),(33,aB8),(252,aFY),(127,.map none),(156,aF3),(102,aCU),(54,.slice none 0 0),(258,aCi),(283,aFa),(288,aDh),(289,aCA),(266,aC2),(131,aaJ),(164,aAj),(232,aBS),(326,aBf),(169,zs),(330,aDT),(22,.slice none 0 0),(39,.int .i64 0),(92,aHK),(76,aCx),(110,aAo),(212,aUl),(55,.int .i64 0)]
 hzero:=⟨⟨aaW,AA⟩,⟨Qp,AA⟩,⟨aaR,AA⟩,⟨ug,AA⟩,⟨adH,AA⟩,⟨abq,AA⟩,⟨KW,AA⟩,⟨abC,AA⟩,⟨zero3,AA⟩,⟨zero9,AA⟩,⟨aBw,AA⟩,⟨zero24,AA⟩,⟨acZ,AA⟩,⟨aID,AA⟩,⟨ao7,AA⟩,⟨zy,AA⟩,⟨Ph,AA⟩,⟨Y0,AA⟩,⟨abu,AA⟩,⟨aQg,AA⟩,⟨aTh,AA⟩,⟨aTS,AA⟩,⟨abf,AA⟩,⟨anR,AA⟩,⟨aVJ,AA⟩,⟨aPw,AA⟩,⟨aOc,AA⟩,⟨aSx,AA⟩,⟨aLJ,AA⟩,⟨zero22,AA⟩,⟨fE,AA⟩,⟨aWb,AA⟩,⟨aPF,AA⟩,⟨aIr,AA⟩,⟨ajx,AA⟩,⟨aqE,AA⟩,trivial⟩
 st:=[(202,[(0,1)],aDb),(33,[(0,1),(1,1)],aB8),(252,[(0,1),(1,1)],aFY),(156,[(0,1),(1,1)],aF3),(35,[(0,1),(1,1),(2,1),(3,1),(4,1),(5,1),(6,1),(7,1),(8,1),(9,1),(10,16),(26,1),(27,2)],su),(102,[(0,1),(1,1),(2,1)],aCU),(258,[(0,1)],aCi),(29,[(0,1),(1,1),(2,1),(3,1),(4,1),(5,1),(6,1),(7,1),(8,1)],aCz),(68,[(0,1),(1,1)],aGe),(266,[],aC2),(164,[],aAj),(232,[(0,1),(1,1)],aBS),(326,[(0,1),(1,1),(2,1),(3,1)],aBf),(169,[(0,1)],zs),(330,[(0,1),(1,1),(2,1)],aDT),(92,[(0,1),(1,1),(2,1)],aHK),(76,[(0,1),(1,1),(2,1)],aCx),(31,[(0,1),(1,1),(2,1),(3,1),(4,1),(5,1),(6,1),(7,9)],aCv),(110,[(0,1),(1,1),(2,1),(3,1)],aAo)]
 hst:=⟨ash,amx,ali,atb,amX,apL,aed,apG,ajU,ahj,amJ,aiy,aqn,ase,afK,aV9,afd,asq,agj,trivial⟩
 arr:=[(199,1,aDt),(283,1,aFa),(288,1,aDh),(289,1,aCA)]
 harr:=⟨afh,asO,aqu,aiT,trivial⟩
abbrev Hr :=fun x=>BN.arr 5 1 (List.map DI x)
abbrev CY :=fun x=>BN.arr 3 1 (List.map Ac x)
abbrev En :=fun x=>BN.arr 35 29 (List.map BD x)
abbrev KF :=fun x=>BN.arr 102 3 (List.map BO x)
abbrev vk :=fun x=>BN.arr 24 1 (List.map (BQ Ac) x)
abbrev Ut :=fun x=>BN.arr 9 1 (List.map Cx x)
abbrev QF :=fun x=>BN.arr 110 4 (List.map KD x)
abbrev X7 :=fun x=>BN.arr 156 2 (List.map JX x)
abbrev dL :=fun x=>BN.arr 330 3 (List.map OB x)
abbrev BF :=fun x=>Ag.d ((BQ BD) x)
abbrev DJ :=fun x=>Ag.d ((BQ BO) x)
abbrev Ae :=fun x=>Ag.d (EY x)
abbrev Ba :=fun x=>Ag.d ((BQ Ac) x)
abbrev AV :=fun x=>Ag.d (Ac x)
abbrev H7 :=fun x=>Ag.d (F7 x)
abbrev Hf :=fun x=>Ag.d ((BQ Cx) x)
abbrev OI :=fun x=>Ag.d ((BQ EK) x)
abbrev Oc :=fun x=>Ag.d ((BQ ER) x)
abbrev I9 :=fun x=>Ag.d (EZ x)
abbrev DC :=fun x=>Ag.d (BD x)
abbrev He :=fun x=>Ag.d ((BQ DI) x)
abbrev CS :=fun x=>Ag.d (Cx x)
abbrev aFH :=fun x=>Ag.d ((BQ KD) x)
abbrev Uk :=fun x=>Ag.d (KD x)
abbrev IX :=fun x=>Ag.d ((BQ (BQ BO)) x)
abbrev Wv :=fun x=>Ag.d (BO x)
abbrev Ub :=fun x=>Ag.d ((BQ Kq) x)
end Go.Proofs.YtldfpencimjjlaaGreat
end
section
namespace Go.Proofs.YtldfpencimjjlaaGreat
open Go.RowKit
set_option maxRecDepth 20000
set_option maxHeartbeats 4000000
def aME (j:AQ) (q:(Int→Option Bool)):Int→Option Bool:=fun m=>(bif decide (m<(j.Content.Levels.Users.length:Int))then(Ai j.Content.Levels.Users m).bind fun u=>(bif decide ((u.User.size:Int)>2000)then some true else q (Am (m+1)))else some false)
def aPV (j:AQ):Int→Option Bool:=bD (aME j) Aj
def aOP (j:AQ) (q:(Int→Option Bool)):Int→Option Bool:=fun m=>(bif decide (m<(j.Content.gY.length:Int))then(Ai j.Content.gY m).bind fun u=>(bif decide ((u.size:Int)>2000)then some true else q (Am (m+1)))else aPV j 0)
def aN0 (j:AQ):Int→Option Bool:=bD (aOP j) Aj
def aJu (j:AQ) (q:(Int→Option Bool)):Int→Option Bool:=fun m=>(bif decide (m<(j.Content.Allow.length:Int))then(Ai j.Content.Allow m).bind fun u=>(bif decide ((u.size:Int)>2000)then some true else q (Am (m+1)))else aN0 j 0)
def aUA (j:AQ):Int→Option Bool:=bD (aJu j) Aj
def qL (j:AQ):Option Bool:=(bif decide ((j.bM.length:Int)>40)then some true else some (decide ((j.bK.length:Int)>40))).bind fun J=>(bif J then some true else some (decide ((j.Content.Allow.length:Int)>40))).bind fun L=>(bif L then some true else some (decide ((j.Content.gY.length:Int)>40))).bind fun M=>(bif M then some true else some (decide ((j.Content.Levels.Users.length:Int)>40))).bind fun O=>(bif O then some true else some (decide ((j.Content.Levels.Kinds.length:Int)>40))).bind fun U=>(bif U then some true else(bif decide ((j.Room.size:Int)>2000)then some true else some (decide ((j.aY.size:Int)>2000))).bind fun m=>(bif m then some true else some (decide ((j.Key.size:Int)>2000))).bind fun q=>(bif q then some true else some (decide ((j.Content.Text.size:Int)>2000))).bind fun u=>(bif u then some true else some (decide ((j.Content.Via.size:Int)>2000))).bind fun z=>(bif z then some true else some (decide ((j.pz.Server.size:Int)>2000))).bind fun I=>(bif I then some true else aUA j 0))
def aRi (aS r) (h:qL aS=some r):Ap 10 [DC aS] [] (Ae r) []:=Ah.aI Tryz.func10 rfl<|AX<|AX<|AY<|AL<|.a 2<|.p (BK Ac aS.bM BX rfl)<|.a 1<|AP h fun x1 hx1 h=>.mg 13 5 (Ae x1) (.bi hx1 (k2:=fun h=>.a 2<|.p (BK Ac aS.bK BX rfl)<|.aW<|CJ))<|.a 1<|AP h fun x3 hx3 h=>.mg 20 4 (Ae x3) (Cc hx3 (k2:=fun e i=>by subst e;have h:=i;exact .a 2<|.p (BK Cx aS.Content.Allow FD rfl)<|.aW<|CJ))<|.a 1<|AP h fun x5 hx5 h=>.mg 26 4 (Ae x5) (Cc hx5 (k2:=fun e i=>by subst e;have h:=i;exact .a 2<|.p (BK Cx aS.Content.gY FD rfl)<|.aW<|CJ))<|.a 1<|AP h fun x7 hx7 h=>.mg 32 5 (Ae x7) (Cc hx7 (k2:=fun e i=>by subst e;have h:=i;exact .a 3<|.p (BK EK aS.Content.Levels.Users FK rfl)<|.aW<|CJ))<|.a 1<|AP h fun x9 mX h=>.mg 39 5 (Ae x9) (Cc mX (k2:=fun e i=>by subst e;have h:=i;exact .a 3<|.p (BK ER aS.Content.Levels.Kinds FI rfl)<|.aW<|CJ))<|.aZ<|Az h Bg fun h=>AY<|AL<|.a 4<|AP h fun x12 j h=>.mg 49 5 (Ae x12) (.bi j)<|.a 1<|AP h fun x14 m h=>.mg 56 4 (Ae x14) (Cc m)<|.a 1<|AP h fun x16 q h=>.mg 62 4 (Ae x16) (Cc q)<|.a 1<|AP h fun x18 u h=>.mg 68 4 (Ae x18) (Cc u)<|.a 1<|AP h fun uP z h=>.mg 74 5 (Ae uP) (Cc z)<|.aZ<|Az h Bg fun h=>AY<|AX<|AO.block<|DZ (fun I=>⟨Aw 125 [(3,.ptr 0 0),(4,AV I)],[.box (BJ (F7 aS.Content))],0⟩) _ _ _ (AZ 125 24 [(1,true)]) h<|fun J40 k24 J I h=>AY<|AL<|.a 3<|.p (BK Cx aS.Content.Allow FD rfl)<|.aW<|Bf h (fun h=>AY<|AO.block<|AP h fun Bd L h=>AL<|.a 3<|.p (BG Cx L FD JK rfl)<|.aW<|Az h Bg fun h=>Ak<|.a 3<|.nil<|J _ _ (AZ 125 24 [(0,true)]) h) fun h=>AO.exit<|AY<|AX<|AO.block<|DZ (fun M=>⟨Aw 125 [(3,.ptr 0 0),(5,AV M)],[.box (BJ (F7 aS.Content))],0⟩) _ _ _ (AZ 125 40 [(0,true)]) h<|fun J39 k29 O M h=>AY<|AL<|.a 3<|.p (BK Cx aS.Content.gY FD rfl)<|.aW<|Bf h (fun h=>AY<|AO.block<|AP h fun x31 U h=>AL<|.a 3<|.p (BG Cx U FD JK rfl)<|.aW<|Az h Bg fun h=>Ak<|.a 3<|.nil<|O _ _ (AZ 125 40 [(0,true)]) h) fun h=>AO.exit<|AY<|AX<|AO.block<|DZ (fun Y=>⟨Aw 125 [(3,.ptr 0 0),(6,AV Y)],[.box (BJ (F7 aS.Content))],0⟩) _ _ _ (AZ 125 72 [(0,true)]) h<|fun J38 k34 Z Y h=>AY<|AL<|.a 4<|.p (BK EK aS.Content.Levels.Users FK rfl)<|.aW<|Bf h (fun h=>AY<|AO.block<|AP h fun x36 afY h=>AL<|.a 4<|.p (BG EK afY FK JA rfl)<|.aW<|Az h Bg fun h=>Ak<|.a 3<|.nil<|Z _ _ (AZ 125 72 [(0,true)]) h) fun h=>EO
abbrev Ad:=List AQ
def aPr (j:Ad) (q:(Int→Option Bool)):Int→Option Bool:=fun m=>(bif decide (m<(j.length:Int))then(Ai j m).bind fun u=>(qL u).bind fun z=>(bif z then some true else q (Am (m+1)))else some false)
def aUN (j:Ad):Int→Option Bool:=bD (aPr j) Aj
def jV (j:Ad) (m:Int):Option Bool:=(bif decide ((j.length:Int)>m)then some true else aUN j 0)
def aKF (ak kU r) (h:jV ak kU=some r):Ap 9 [BF ak,AV kU] [] (Ae r) []:=Ah.aI Tryz.func9 rfl<|AX<|AY<|AL<|.a 1<|.p (BK BD ak Bq rfl)<|.aW<|Az h Bg fun h=>AY<|AX<|AO.block<|DZ (fun u=>⟨Aw 21 [(0,BF ak),(5,AV u)],[],0⟩) _ _ _ (AZ 21 33 []) h<|fun J L j u h=>AY<|AL<|.a 2<|.p (BK BD ak Bq rfl)<|.aW<|Bf h (fun h=>AY<|AO.block<|Bh h fun z m I q h=>AL<|.a 2<|.p (BG BD m Bq Cb rfl)<|.a 1<|.ca (aRi z I q)<|.aZ<|Az h Bg fun h=>Ak<|.a 3<|.nil<|j _ _ (AZ 21 33 []) h) fun h=>EO
def Yv (j:AU) (m:Int):Option AU:=(JV 1 0 (j.length:Int) (Am ((j.length:Int)+m))).bind fun q=>some (gCopy q j)
def zA (iy axj r) (h:Yv iy axj=some r):Ap 224 [He iy,AV axj] [] (.aO 0) [(Hr r)]:=Ah.aI Tryz.func224 rfl<|AL<|.f (C9 5 1 rfl)<|.aZ<|AP h fun m j h=>AL<|.a 1<|.p (BK DI iy Vy rfl)<|.a 1<|.p (BK DI iy Vy rfl)<|.a 2<|.f (dD DI 0 j J3 Qp AA AA AA BU rfl)<|.aW<|AL<|.a 2<|.f (ar2 (k:=1) DI m iy J3 AA (fun _=>rfl) rfl)<|.aZ<|AX<|KU
def Vt  (q:(AU→Int→Option AU)):AU→Int→Option AU:=fun m j=>(bif decide (j≥128)then(Ci 1 m [Ec .or .u8 (IntKind.u8.wrap j) 128]).bind fun u=>(PE .shr .u64 j 7).bind fun z=>q u z else(Ci 1 m [IntKind.u8.wrap j]).bind fun I=>some I)
def aUa  :AU→Int→Option AU:=aU (Vt) Aj
def aDW (j:AU) (m:Int):Option AU:=aUa j m
def YT (j:AU) (m:Int):Option AU:=(PE .shl .u64 (IntKind.u64.wrap m) 1).bind fun q=>(bif decide (m<0)then aDW j (ZM .u64 q)else aDW j q)
def uF (iy kU r) (h:YT iy kU=some r):Ap 225 [.aO 0,AV kU] [(Hr iy)] (.aO 1) [.dead,(Hr r)]:=Ah.aI Tryz.func225 rfl<|AL<|.f (C9 5 1 rfl)<|.aZ<|AP h fun q z h=>AL<|.a 2<|.p (aDS (k:=.u64) (k':=.u64) z rfl)<|.aW<|Ch (fun s=>∃(I:Int),Bz s ⟨Aw 28 [(0,.aO 1),(5,.d ((kN .u64) I))],[.dead,(Hr iy)],1⟩∧aDW iy I=some r) (by rintro s ⟨I,hs,h⟩;exact CZ hs<|AY<|AO.block<|DR (fun U j=>⟨Aw 28 [(0,.aO 1),(5,.d ((kN .u64) j))],[.dead,(Hr U)],1⟩) _ _ _ _ (AZ 28 33 [(0,false),(1,true)]) h<|fun Y Z J U j h=>AY<|AX<|Bf h (fun h=>AO.block<|AP h fun x7 L h=>AL<|.a 3<|.p (Vf (k:=.u8) (u:=(IntKind.u8.wrap j)) (v:=128) rfl)<|.p (DY J3 Qp [DI (Ec .or .u8 (IntKind.u8.wrap j) 128)] rfl)<|.f (Dc (k:=1) DI L J3 AA (fun _=>rfl) BU rfl)<|.aW<|AP h fun x8 M h=>Ak<|.a 1<|.p (aTV (k:=.u64) (k':=.u64) M rfl)<|.a 1<|.nil<|J _ _ _ (AZ 28 33 [(0,false),(2,true)]) h) fun h=>AO.exit<|AP h fun x9 O h=>AL<|.a 3<|.p (DY J3 Qp [DI (IntKind.u8.wrap j)] rfl)<|.f (Dc (k:=1) DI O J3 AA (fun _=>rfl) BU rfl)<|.aW<|by cases h;exact .ret (Ed [(0,false),(2,true)]))<|fun m=>AX<|Az h (fun h=>Ak<|.a 1<|.p (aRT (k:=.u64) (u:=q) rfl)<|.a 1<|.nil<|m _ ⟨(ZM .u64 q),AZ 28 33 [(0,false),(0,true)],h⟩) fun h=>m _ ⟨q,AZ 28 33 [(0,false),(0,true)],h⟩
def zS (m:AU) (j:ByteArray):Option AU:=(YT m (j.size:Int)).bind fun q=>(Ci 1 q (Bo j)).bind fun u=>some u
def aVP (iy fF r) (h:zS iy fF=some r):Ap 223 [.aO 0,CS fF] [(Hr iy)] (.aO 1) [.dead,(Hr r)]:=Ah.aI Tryz.func223 rfl<|AL<|.f (C9 5 1 rfl)<|.aZ<|Bh h fun q j u m h=>AL<|.a 3<|.f (x:=.aO 2) (E9 [.ent 0] [.aO 0,AV (fF.size:Int)] (uF iy (fF.size:Int) q j) rfl)<|.a 1<|.f (afv (k:=2) m J3 Qp GX AA rfl)<|.aW<|by cases h;exact .ret (Ed [(0,false),(3,true)])
def SG (m:AU) (j:ByteArray):Option AU:=(Yv m (Am ((j.size:Int)+10))).bind fun q=>(zS q j).bind fun u=>some u
def aHC (iy fF r) (h:SG iy fF=some r):Ap 170 [He iy,CS fF] [] (.aO 0) [(Hr r)]:=Ah.aI Tryz.func170 rfl<|AL<|.f (C9 5 1 rfl)<|.aZ<|Bh h fun q j u m h=>AL<|.a 4<|.f (x:=.aO 1) (L9 [He iy,AV (Am ((fF.size:Int)+10))] (zA iy (Am ((fF.size:Int)+10)) q j) rfl)<|.a 1<|.f (x:=.aO 2) (E9 [.ent 1] [.aO 1,CS fF] (aVP q fF u m) rfl)<|.aW<|L8
def Nw (j:AU) (m:Int):Option AU:=(Yv j 10).bind fun q=>(YT q m).bind fun u=>some u
def XJ (iy kU r) (h:Nw iy kU=some r):Ap 171 [He iy,AV kU] [] (.aO 0) [(Hr r)]:=Ah.aI Tryz.func171 rfl<|AL<|.f (C9 5 1 rfl)<|.aZ<|Bh h fun q j u m h=>AL<|.a 1<|.f (x:=.aO 1) (L9 [He iy,AV 10] (zA iy 10 q j) rfl)<|.a 1<|.f (x:=.aO 2) (E9 [.ent 1] [.aO 1,AV kU] (uF q kU u m) rfl)<|.aW<|L8
def YM (m:AU) (j:Bool):Option AU:=(Yv m 1).bind fun q=>(bif j then(Ci 1 q [1]).bind fun u=>some u else(Ci 1 q [0]).bind fun z=>some z)
def aS4 (iy F5 r) (h:YM iy F5=some r):Ap 172 [He iy,Ae F5] [] (.aO 0) [(Hr r)]:=Ah.aI Tryz.func172 rfl<|AL<|.f (C9 5 1 rfl)<|.aZ<|AP h fun u j h=>AL<|.a 1<|.f (x:=.aO 1) (L9 [He iy,AV 1] (zA iy 1 u j) rfl)<|.aW<|AY<|AX<|Az h (fun h=>AP h fun z m h=>AL<|.a 1<|.p (DY J3 Qp [DI 1] rfl)<|.f (Dc (k:=1) DI m J3 AA (fun _=>rfl) BU rfl)<|.aW<|L8) fun h=>AP h fun I q h=>AL<|.a 1<|.p (DY J3 Qp [DI 0] rfl)<|.f (Dc (k:=1) DI q J3 AA (fun _=>rfl) BU rfl)<|.aW<|L8
abbrev Fp:=List ByteArray
def aLx (j:Fp) (u:(AU→Int→Option AU)):AU→Int→Option AU:=fun q m=>(bif decide (m<(j.length:Int))then(Ai j m).bind fun z=>(zS q z).bind fun I=>u I (Am (m+1))else some q)
def aQB (j:Fp):AU→Int→Option AU:=aU (aLx j) Aj
def aFi (m:AU) (j:Fp):Option AU:=(YT m (j.length:Int)).bind fun q=>aQB j q 0
def ajj (iy dh r) (h:aFi iy dh=some r):Ap 226 [.aO 0,Hf dh,.d (.fn (.func 223) [] [])] [(Hr iy)] (.aO 1) [.dead,(Hr r)]:=Ah.aI Tryz.func226 rfl<|AL<|.f (C9 5 1 rfl)<|.aZ<|AP h fun L j h=>AL<|.a 2<|.p (BK Cx dh FD rfl)<|.f (x:=.aO 2) (E9 [.ent 0] [.aO 0,AV (dh.length:Int)] (uF iy (dh.length:Int) L j) rfl)<|.aW<|AY<|AL<|.a 1<|.p (BK Cx dh FD rfl)<|.aW<|AO.block<|DR (fun m I=>⟨Aw 25 [(0,.aO 1),(2,.d (.fn (.func 223) [] [])),(13,Hf dh),(14,AV (dh.length:Int)),(15,AV I)],[.dead,(Hr m)],1⟩) _ _ _ _ (AZ 25 57349 [(0,false),(2,true)]) h<|fun O U q m I h=>AX<|AY<|Bf h (fun h=>AY<|AO.block<|AP h fun J u h=>AL<|.p (BG Cx u FD JK rfl)<|.aW<|AP h fun M z h=>Ak<|.a 3<|.f (x:=.aO 2) (aUB [.ent 1] [] [] [.aO 1,CS J] (aVP m J M z) rfl)<|.a 1<|.nil<|Ak<|.a 2<|.nil<|q _ _ _ (AZ 25 57349 [(0,false),(2,true)]) h) fun h=>AO.exit<|AX<|iO
def jQ (m:AU) (j:Fp):Option AU:=(Yv m (Am ((Am (8*(j.length:Int)))+10))).bind fun q=>(aFi q j).bind fun u=>some u
def adY (iy dh r) (h:jQ iy dh=some r):Ap 173 [He iy,Hf dh] [] (.aO 0) [(Hr r)]:=Ah.aI Tryz.func173 rfl<|AL<|.f (C9 5 1 rfl)<|.aZ<|Bh h fun q j u m h=>AL<|.a 2<|.p (BK Cx dh FD rfl)<|.a 2<|.f (x:=.aO 1) (L9 [He iy,AV (Am ((Am (8*(dh.length:Int)))+10))] (zA iy (Am ((Am (8*(dh.length:Int)))+10)) q j) rfl)<|.a 1<|.f (x:=.aO 2) (E9 [.ent 1] [.aO 1,Hf dh,.d (.fn (.func 223) [] [])] (ajj q dh u m) rfl)<|.aW<|L8
def aQ5 (j:CW) (u:(AU→Int→Option AU)):AU→Int→Option AU:=fun q m=>(bif decide (m<7)then(Ai ([j.Levels.User,j.Levels.Message,j.Levels.State,j.Levels.gW,j.Levels.jL,j.Levels.mO,j.Levels.gy]:AU) m).bind fun z=>(Nw q z).bind fun I=>u I (Am (m+1))else some q)
def aMs (j:CW):AU→Int→Option AU:=aU (aQ5 j) Aj
def aAS (j:CW) (z:(AU→Int→Option AU)):AU→Int→Option AU:=fun q m=>(bif decide (m<(j.Levels.Kinds.length:Int))then(Ai j.Levels.Kinds m).bind fun u=>(Nw q u.Kind).bind fun I=>(Nw I u.N).bind fun J=>z J (Am (m+1))else aMs j q 0)
def aMT (j:CW):AU→Int→Option AU:=aU (aAS j) Aj
def aAg (j:CW) (u:(AU→Int→Option AU)):AU→Int→Option AU:=fun L m=>(bif decide (m<(j.Levels.Users.length:Int))then(Ai j.Levels.Users m).bind fun q=>(SG L q.User).bind fun z=>(Nw z q.N).bind fun I=>u I (Am (m+1))else(Nw L (j.Levels.Kinds.length:Int)).bind fun J=>aMT j J 0)
def adu (j:CW):AU→Int→Option AU:=aU (aAg j) Aj
def qG (j:CW):Option AU:=(SG [] j.Text).bind fun m=>(Nw m j.N).bind fun q=>(Nw q j.Target).bind fun u=>(YM u j.Thread).bind fun z=>(SG z j.Via).bind fun I=>(jQ I j.Allow).bind fun J=>(jQ J j.gY).bind fun L=>(Nw L (j.Levels.Users.length:Int)).bind fun M=>adu j M 0
def aRQ (fA r) (h:qG fA=some r):Ap 138 [H7 fA] [] (He r) []:=Ah.aI Tryz.func138 rfl<|AX<|AP h fun x1 hx1 h=>AL<|.a 2<|.p (x:=(He x1)) (aJd [.d (.lit (.slice none 0 0)),CS fA.Text] (aHC [] fA.Text x1 hx1).view rfl)<|.aW<|AP h fun x2 hx2 h=>AL<|.a 3<|.ca (XJ x1 fA.N x2 hx2).view<|.aW<|AP h fun x3 hx3 h=>AL<|.a 3<|.ca (XJ x2 fA.Target x3 hx3).view<|.aW<|AP h fun x4 hx4 h=>AL<|.a 3<|.ca (aS4 x3 fA.Thread x4 hx4).view<|.aW<|AP h fun x5 hx5 h=>AL<|.a 3<|.ca (aHC x4 fA.Via x5 hx5).view<|.aW<|AP h fun x6 hx6 h=>AL<|.a 3<|.ca (adY x5 fA.Allow x6 hx6).view<|.aW<|AP h fun x7 hx7 h=>AL<|.a 3<|.ca (adY x6 fA.gY x7 hx7).view<|.aW<|AX<|AP h fun x8 sV h=>AL<|.a 3<|.p (BK EK fA.Levels.Users FK rfl)<|.ca (XJ x7 (fA.Levels.Users.length:Int) x8 sV).view<|.aW<|AY<|AL<|.a 2<|.p (BK EK fA.Levels.Users FK rfl)<|.aW<|AO.block<|DR (fun v9 q=>⟨Aw 103 [(3,He v9),(4,.ptr 0 0),(46,OI fA.Levels.Users),(47,AV (fA.Levels.Users.length:Int)),(48,AV q)],[.box (BJ (EZ fA.Levels))],0⟩) _ _ _ _ (AZ 103 492581209243672 [(1,true)]) h<|fun J32 k11 u v9 q h=>AX<|AY<|Bf h (fun h=>AY<|AO.block<|AP h fun z I h=>AL<|.p (BG EK I FK JA rfl)<|.aW<|Bh h fun J L x15 M h=>AO.draw AA AA AA (.a 3<|.ca (aHC v9 z.User J L).view<|.a 2<|.ca (XJ J z.N x15 M).view<|.a 1<|.nil _)<|Ak<|.a 2<|.nil<|u _ _ _ (AZ 103 492581209243672 [(0,true)]) h) fun h=>AO.exit<|AP h fun x16 O h=>AL<|.a 3<|.p (BK ER fA.Levels.Kinds FI rfl)<|.ca (XJ v9 (fA.Levels.Kinds.length:Int) x16 O).view<|.aW<|AY<|AL<|.a 2<|.p (BK ER fA.Levels.Kinds FI rfl)<|.aW<|AO.block<|DR (fun j U=>⟨Aw 103 [(3,He j),(4,.ptr 0 0),(66,Oc fA.Levels.Kinds),(67,AV (fA.Levels.Kinds.length:Int)),(68,AV U)],[.box (BJ (EZ fA.Levels))],0⟩) _ _ _ _ (AZ 103 516508834063867445272 [(0,true)]) h<|fun J31 k19 Y j U h=>AX<|AY<|Bf h (fun h=>AY<|AO.block<|AP h fun Z afZ h=>AL<|.p (BG ER afZ FI Jd rfl)<|.aW<|Bh h fun qQ Dw x23 OO h=>AO.draw AA AA AA (.a 3<|.ca (XJ j Z.Kind qQ Dw).view<|.a 2<|.ca (XJ qQ Z.N x23 OO).view<|.a 1<|.nil _)<|Ak<|.a 2<|.nil<|Y _ _ _ (AZ 103 516508834063867445272 [(0,true)]) h) fun h=>AO.exit<|AY<|AX<|AO.block<|DR (fun m v25=>⟨Aw 103 [(3,He m),(94,.d ((Md Ac) ([fA.Levels.User,fA.Levels.Message,fA.Levels.State,fA.Levels.gW,fA.Levels.jL,fA.Levels.mO,fA.Levels.gy]:(List Int)))),(95,AV v25)],[],0⟩) _ _ _ _ (AZ 103 59421121885698253195157962760 []) h<|fun J30 k26 aGT m v25 h=>AX<|AY<|Bf h (fun h=>AY<|AO.block<|AP h fun x28 hx28 h=>AL<|.p (aHM (k:=.i64) Ac hx28 aAG CP AA rfl)<|.aW<|AP h fun x29 hx29 h=>Ak<|.a 2<|.ca (XJ m x28 x29 hx29).view<|.a 1<|.nil<|Ak<|.a 2<|.nil<|aGT _ _ _ (AZ 103 59421121885698253195157962760 []) h) fun h=>EO
def aNK  :Option Int:=some 860922984064492325
def amm  (r:Int) (h:aNK=some r):Ap 169 [] [] (AV r) []:=Ah.aI Tryz.func169 rfl<|ZK
def aM9 (j:AU) (u:(Int→Int→Option Int)):Int→Int→Option Int:=fun q m=>(bif decide (m<(j.length:Int))then(Ai j m).bind fun z=>u (Ec .and .u64 (IntKind.u64.wrap ((Ec .xor .u64 q (IntKind.u64.wrap z))*1099511628211)) 4611686018427387903) (Am (m+1))else some (Am q))
def adE (j:AU):Int→Int→Option Int:=aU (aM9 j) Aj
def aPA (j:Int) (m:AU):Option Int:=adE m (Ec .and .u64 (IntKind.u64.wrap j) 4611686018427387903) 0
def agQ (apd fJ r) (h:aPA apd fJ=some r):Ap 168 [AV apd,He fJ] [] (AV r) []:=Ah.aI Tryz.func168 rfl<|AX<|AL<|.a 2<|.p (Qd (k:=.u64) (u:=(IntKind.u64.wrap apd)) (v:=4611686018427387903) rfl)<|.aW<|AY<|AL<|.a 1<|.p (BK DI fJ Vy rfl)<|.aW<|AO.block<|DR (fun j z=>⟨Aw 26 [(5,.d ((kN .u64) j)),(11,He fJ),(12,AV (fJ.length:Int)),(13,AV z)],[],0⟩) _ _ _ _ (AZ 26 14368 []) h<|fun J L m j z h=>AX<|AY<|Bf h (fun h=>AY<|AO.block<|AP h fun I q h=>AL<|.p (BG DI q Vy aKK rfl)<|.aW<|Ak<|.a 3<|.p (aRB (k:=.u64) (u:=j) (v:=(IntKind.u64.wrap I)) rfl)<|.a 1<|.p (Qd (k:=.u64) (u:=(IntKind.u64.wrap ((Ec .xor .u64 j (IntKind.u64.wrap I))*1099511628211))) (v:=4611686018427387903) rfl)<|.a 1<|.nil<|Ak<|.a 2<|.nil<|m _ _ _ (AZ 26 14368 []) h) fun h=>EO
def qR (j:AU):Option Int:=(aNK).bind fun m=>(aPA m j).bind fun q=>some q
def aRu (iy r) (h:qR iy=some r):Ap 137 [He iy] [] (AV r) []:=Ah.aI Tryz.func137 rfl<|AX<|Bh h fun q j u m h=>AL<|.ca (amm  q j)<|.a 1<|.ca (agQ q iy u m)<|.aW<|CO
def xO (j:AQ):Option Int:=(qG j.Content).bind fun m=>(qR m).bind fun q=>some q
def aRb (aS r) (h:xO aS=some r):Ap 96 [DC aS] [] (AV r) []:=Ah.aI Tryz.func96 rfl<|AX<|Bh h fun q j u m h=>AL<|.a 2<|.ca (aRQ aS.Content q j)<|.ca (aRu q u m)<|.aW<|CO
def Sv (j:Fp):Option Fp:=(Ci 16 [] j).bind fun m=>some m
def aFX (ak r) (h:Sv ak=some r):Ap 121 [Hf ak] [] (.aO 0) [(Ut r)]:=Ah.aI Tryz.func121 rfl<|AL<|.f (C9 9 1 rfl)<|.aZ<|AP h fun m j h=>AL<|.a 1<|.f (Opn 9 1 (Dc (k:=_) Cx j NI AA (fun _=>rfl) BU rfl))<|.aW<|L8
def dz (j:CB):Option CB:=(Ci 24 [] j.Users).bind fun m=>(Ci 16 [] (({ j with Users:=m }).Kinds)).bind fun q=>some ({ { j with Users:=m }with Kinds:=q })
def aT0 (ak r) (h:dz ak=some r):Ap 122 [I9 ak] [] (I9 r) []:=Ah.aI Tryz.func122 rfl<|AX<|AP h fun j m h=>AL<|.a 2<|.f (Opn 68 2 (Dc (k:=_) EK m qx AA (fun _=>rfl) BU rfl))<|.conv _ (Jp (e:=68) (s:=2) 3 (xs:=List.map EK j) AA)<|.aW<|AP h fun q u h=>AL<|.a 2<|.f (Opn 97 2 (Dc (k:=_) ER u aPE AA (fun _=>rfl) BU rfl))<|.conv _ (Jp (e:=97) (s:=2) 5 (xs:=List.map ER q) AA)<|.aW<|AX<|AO.ret<|by rw[←CU h];exact⟨[I9 ({ { ak with Users:=j }with Kinds:=q })],[],⟨⟨1,BJ (EZ ({ { ak with Users:=j }with Kinds:=q })),true,9,AA,AA,AA,Yq,Dt AA,aAs,AA⟩,trivial⟩,AA,AA,AA⟩
def xw (j:Bool):Option Int:=(bif j then some 5 else some 0)
def tq (j:Int) (m:Bool):Option Int:=(bif m then some 2 else(bif (j==6)then some 96 else(bif (j==7)then some 1 else(bif (j==9)then some 3 else(bif (j==11)then some 13 else(bif (j==12)then xw (j==12)else(bif (j==13)then xw (j==13)else xw (j==14))))))))
def jI (j:Int):Option Int:=(bif (j==2)then some 19 else(bif (j==3)then some 128 else(bif (j==4)then some 34 else(bif (j==5)then tq j (j==5)else(bif (j==8)then tq j (j==8)else tq j (j==10))))))
def aVH (dU r) (h:jI dU=some r):Ap 152 [AV dU] [] (AV r) []:=Ah.aI Tryz.func152 rfl<|AX<|AY<|AX<|AO.block<|AX<|DN h Bg fun h=>AX<|DN h Bg fun h=>AX<|DN h Bg fun h=>Ch (fun s=>∃(u:Bool),Bz s ⟨Aw 26 [(3,AV dU),(10,Ae u)],[],0⟩∧tq dU u=some r) (by rintro s ⟨u,hs,h⟩;exact CZ hs<|DN h Bg fun h=>AX<|DN h Bg fun h=>AX<|DN h Bg fun h=>AX<|DN h Bg fun h=>AX<|DN h Bg fun h=>Ch (fun s=>∃(j:Bool),Bz s ⟨Aw 26 [(22,Ae j)],[],0⟩∧xw j=some r) (by rintro s ⟨j,hs,h⟩;exact CZ hs<|JL)<|fun m=>AX<|Bf h (fun h=>m _ ⟨(dU==12),AZ 26 4194304 [],h⟩) fun h=>AX<|Bf h (fun h=>m _ ⟨(dU==13),AZ 26 4194304 [],h⟩) fun h=>Ak<|.a 2<|.nil<|m _ ⟨(dU==14),AZ 26 4194304 [],h⟩)<|fun q=>AX<|Bf h (fun h=>q _ ⟨(dU==5),AZ 26 1032 [],h⟩) fun h=>AX<|Bf h (fun h=>q _ ⟨(dU==8),AZ 26 1032 [],h⟩) fun h=>Ak<|.a 2<|.nil<|q _ ⟨(dU==10),AZ 26 1032 [],h⟩
def iV (j:Int) (m:Bool):Option Int:=(bif m then(jI j).bind fun q=>some q else(bif (j==14)then some 4 else some 0))
def iw (j:Int):Option Int:=(bif (j==2)then some 18 else(bif (j==3)then iV j (j==3)else(bif (j==4)then iV j (j==4)else(bif (j==5)then iV j (j==5)else iV j (j==6)))))
def aUC (dU r) (h:iw dU=some r):Ap 123 [AV dU] [] (AV r) []:=Ah.aI Tryz.func123 rfl<|AX<|AY<|AX<|AO.block<|AX<|DN h Bg fun h=>Ch (fun s=>∃(j:Bool),Bz s ⟨Aw 15 [(0,AV dU),(3,AV dU),(6,Ae j)],[],0⟩∧iV dU j=some r) (by rintro s ⟨j,hs,h⟩;exact CZ hs<|DN h (fun h=>AP h fun q m h=>AL<|.a 1<|.ca (aVH dU q m)<|.aW<|CO) fun h=>AX<|JL)<|fun K6=>AX<|Bf h (fun h=>K6 _ ⟨(dU==3),AZ 15 73 [],h⟩) fun h=>AX<|Bf h (fun h=>K6 _ ⟨(dU==4),AZ 15 73 [],h⟩) fun h=>AX<|Bf h (fun h=>K6 _ ⟨(dU==5),AZ 15 73 [],h⟩) fun h=>Ak<|.a 2<|.nil<|K6 _ ⟨(dU==6),AZ 15 73 [],h⟩
def aK3 (j:CW):Option CW:=some j
def aO7 (u:Int) (j:CW) (m:CW):Option CW:=(bif ((Ec .and .i64 u 128) != 0)then(dz j.Levels).bind fun q=>aK3 ({ m with Levels:=q })else aK3 m)
def aQ3 (m:Int) (j:CW) (u:CW):Option CW:=(bif ((Ec .and .i64 m 64) != 0)then(Sv j.gY).bind fun q=>aO7 m j ({ u with gY:=q })else aO7 m j u)
def aJU (m:Int) (j:CW) (u:CW):Option CW:=(bif ((Ec .and .i64 m 32) != 0)then(Sv j.Allow).bind fun q=>aQ3 m j ({ u with Allow:=q })else aQ3 m j u)
def aKM (m:Int) (j:CW) (q:CW):Option CW:=(bif ((Ec .and .i64 m 16) != 0)then aJU m j ({ q with Via:=j.Via })else aJU m j q)
def aKP (m:Int) (j:CW) (q:CW):Option CW:=(bif ((Ec .and .i64 m 4) != 0)then aKM m j ({ q with Target:=j.Target })else aKM m j q)
def uI (m:Int) (j:CW):Option CW:=(bif (m==1)then(Sv j.Allow).bind fun u=>(Sv j.gY).bind fun z=>(dz j.Levels).bind fun I=>some ({ { { j with Allow:=u }with gY:=z }with Levels:=I })else(iw m).bind fun q=>(bif ((Ec .and .i64 q 2) != 0)then aKP q j ({ EI with N:=j.N })else aKP q j EI))
def aby (dU fC r) (h:uI dU fC=some r):Ap 81 [AV dU,H7 fC] [] (H7 r) []:=Ah.aI Tryz.func81 rfl<|AX<|AY<|AX<|Az h (fun h=>I8 h fun x2 hx2 x3 hx3 x4 hx4 h=>Ew AA AA AA (.a 2<|.ca (aFX fC.Allow x2 hx2).view<|.a 2<|.ca (aFX fC.gY x3 hx3).view<|.a 2<|.ca (aT0 fC.Levels x4 hx4)<|.a 6<|.nil _)<|AX<|AO.ret<|by rw[←CU h];exact⟨[H7 ({ { { fC with Allow:=x2 }with gY:=x3 }with Levels:=x4 })],[],⟨⟨1,BJ (F7 ({ { { fC with Allow:=x2 }with gY:=x3 }with Levels:=x4 })),true,16,AA,AA,AA,UN,Dt AA,Lp,AA⟩,trivial⟩,AA,AA,AA⟩) fun h=>AX<|AP h fun j hx5 h=>AL<|.a 1<|.ca (aUC dU j hx5)<|.aW<|Ch (fun s=>∃(z:CW),Bz s ⟨Aw 64 [(3,.ptr 0 0),(4,.ptr 1 0),(5,.ptr 2 0),(6,AV j)],[.box (BJ (F7 fC)),.box (BJ (F7 EI)),.box (BJ (F7 z))],0⟩∧aKP j fC z=some r) (by rintro s ⟨z,hs,h⟩;exact CZ hs<|Ch (fun s=>∃(I:CW),Bz s ⟨Aw 64 [(3,.ptr 0 0),(4,.ptr 1 0),(5,.ptr 2 0),(6,AV j)],[.box (BJ (F7 fC)),.box (BJ (F7 EI)),.box (BJ (F7 I))],0⟩∧aKM j fC I=some r) (by rintro s ⟨I,hs,h⟩;exact CZ hs<|Ch (fun s=>∃(J:CW),Bz s ⟨Aw 64 [(3,.ptr 0 0),(4,.ptr 1 0),(5,.ptr 2 0),(6,AV j)],[.box (BJ (F7 fC)),.box (BJ (F7 EI)),.box (BJ (F7 J))],0⟩∧aJU j fC J=some r) (by rintro s ⟨J,hs,h⟩;exact CZ hs<|Ch (fun s=>∃(L:CW),Bz s ⟨Aw 64 [(3,.ptr 0 0),(4,.ptr 1 0),(5,.ptr 2 0),(6,AV j)],[.box (BJ (F7 fC)),.box (BJ (F7 EI)),.box (BJ (F7 L))],0⟩∧aQ3 j fC L=some r) (by rintro s ⟨L,hs,h⟩;exact CZ hs<|Ch (fun s=>∃(m:CW),Bz s ⟨Aw 64 [(3,.ptr 0 0),(4,.ptr 1 0),(5,.ptr 2 0),(6,AV j)],[.box (BJ (F7 fC)),.box (BJ (F7 EI)),.box (BJ (F7 m))],0⟩∧aO7 j fC m=some r) (by rintro s ⟨m,hs,h⟩;exact CZ hs<|Ch (fun s=>∃(q:CW),Bz s ⟨Aw 64 [(4,.ptr 0 0),(5,.ptr 1 0)],[.box (BJ (F7 EI)),.box (BJ (F7 q))],0⟩∧aK3 q=some r) (by rintro s ⟨q,hs,h⟩;exact CZ hs<|AX<|AO.ret<|by rw[←CU h];exact⟨[H7 q],[],⟨⟨0,BJ (F7 q),true,16,AA,AA,AA,UN,Dt AA,Lp,AA⟩,trivial⟩,AA,AA,AA⟩)<|fun M=>AL<|.a 1<|.p (Qd (k:=.i64) (u:=j) (v:=128) rfl)<|.aW<|Az h (fun h=>AP h fun O U h=>Ak<|.a 2<|.ca (aT0 fC.Levels O U)<|.a 2<|.nil<|M _ ⟨({ m with Levels:=O }),AZ 64 48 [(1,true),(2,true)],h⟩) fun h=>M _ ⟨m,AZ 64 48 [(1,true),(2,true)],h⟩)<|fun Y=>AL<|.a 1<|.p (Qd (k:=.i64) (u:=j) (v:=64) rfl)<|.aW<|Az h (fun h=>AP h fun Z atz h=>Ak<|.a 2<|.ca (aFX fC.gY Z atz).view<|.a 2<|.nil<|Y _ ⟨({ L with gY:=Z }),AZ 64 120 [(0,true),(1,true),(2,true)],h⟩) fun h=>Y _ ⟨L,AZ 64 120 [(0,true),(1,true),(2,true)],h⟩)<|fun K18=>AL<|.a 1<|.p (Qd (k:=.i64) (u:=j) (v:=32) rfl)<|.aW<|Az h (fun h=>AP h fun uP Jl h=>Ak<|.a 2<|.ca (aFX fC.Allow uP Jl).view<|.a 2<|.nil<|K18 _ ⟨({ J with Allow:=uP }),AZ 64 120 [(0,true),(1,true),(2,true)],h⟩) fun h=>K18 _ ⟨J,AZ 64 120 [(0,true),(1,true),(2,true)],h⟩)<|fun K21=>AL<|.a 1<|.p (Qd (k:=.i64) (u:=j) (v:=16) rfl)<|.aW<|Az h (fun h=>Ak<|.a 4<|.nil<|K21 _ ⟨({ I with Via:=fC.Via }),AZ 64 120 [(0,true),(1,true),(2,true)],h⟩) fun h=>K21 _ ⟨I,AZ 64 120 [(0,true),(1,true),(2,true)],h⟩)<|fun K23=>AL<|.a 1<|.p (Qd (k:=.i64) (u:=j) (v:=4) rfl)<|.aW<|Az h (fun h=>Ak<|.a 4<|.nil<|K23 _ ⟨({ z with Target:=fC.Target }),AZ 64 120 [(0,true),(1,true),(2,true)],h⟩) fun h=>K23 _ ⟨z,AZ 64 120 [(0,true),(1,true),(2,true)],h⟩)<|fun K25=>AL<|.a 1<|.p (Qd (k:=.i64) (u:=j) (v:=2) rfl)<|.aW<|Az h (fun h=>Ak<|.a 4<|.nil<|K25 _ ⟨({ EI with N:=fC.N }),AZ 64 120 [(0,true),(1,true),(2,true)],h⟩) fun h=>K25 _ ⟨EI,AZ 64 120 [(0,true),(1,true),(2,true)],h⟩
def tH (j:AQ):Option AQ:=(uI j.Kind j.Content).bind fun m=>some ({ j with Content:=m })
def abA (aS r) (h:tH aS=some r):Ap 47 [DC aS] [] (DC r) []:=Ah.aI Tryz.func47 rfl<|AX<|AP h fun j m h=>AL<|.a 4<|.ca (aby aS.Kind aS.Content j m)<|aRw
def mM (j:FP) (m:Int):Option FP:=(Nw j.b_ m).bind fun q=>some ({ j with b_:=q })
def aiN (OY kU r) (h:mM OY kU=some r):Ap 175 [.ptr 0 0,AV kU] [.box (BJ (LW OY))] (.fP []) [.box (BJ (LW r))]:=Ah.aI Tryz.func175 rfl<|AP h fun m j h=>Ak<|.a 6<|.ca (XJ OY.b_ kU m j).view<|.a 3<|.nil<|Yn
def aNz (j:AU) (u:(Int→FP→Option FP)):Int→FP→Option FP:=fun m q=>(bif decide (m<(j.length:Int))then(Ai j m).bind fun z=>(mM q z).bind fun I=>u (Am (m+1)) I else some q)
def aWa (j:AU):Int→FP→Option FP:=aU (aNz j) Aj
def UD (j:FP) (m:AU):Option FP:=aWa m 0 j
def uU (um dh r) (h:UD um dh=some r):Ap 174 [.fn (.func 175) [.ptr 0 0] [],Ba dh] [.box (BJ (LW um))] (.fP []) [.box (BJ (LW r))]:=Ah.aI Tryz.func174 rfl<|AL<|.a 1<|.p (BK Ac dh BX rfl)<|.aW<|AO.block<|DR (fun z j=>⟨Aw 16 [(0,.fn (.func 175) [.ptr 0 0] []),(6,Ba dh),(7,AV (dh.length:Int)),(8,AV z)],[.box (BJ (LW j))],1⟩) _ _ _ _ (AZ 16 449 [(0,true)]) h<|fun L M m z j h=>AX<|AY<|Bf h (fun h=>AY<|AO.block<|AP h fun I q h=>AL<|.p (BG Ac q BX CP rfl)<|.aW<|AP h fun J u h=>Ak<|.a 2<|.f (x:=.fP []) (dA [.ent 0] [.ptr 0 0] [] [AV I] (aiN j I J u) rfl)<|.nil<|Ak<|.a 2<|aDB) fun h=>AO.exit<|Yn
def eI (j:FP) (m:ByteArray):Option FP:=(SG j.b_ m).bind fun q=>some ({ j with b_:=q })
def aiX (OY fF r) (h:eI OY fF=some r):Ap 177 [.ptr 0 0,CS fF] [.box (BJ (LW OY))] (.fP []) [.box (BJ (LW r))]:=Ah.aI Tryz.func177 rfl<|AP h fun m j h=>Ak<|.a 6<|.ca (aHC OY.b_ fF m j).view<|.a 3<|.nil<|Yn
def aKy (j:Fp) (u:(Int→FP→Option FP)):Int→FP→Option FP:=fun m q=>(bif decide (m<(j.length:Int))then(Ai j m).bind fun z=>(eI q z).bind fun I=>u (Am (m+1)) I else some q)
def aUR (j:Fp):Int→FP→Option FP:=aU (aKy j) Aj
def X3 (j:FP) (m:Fp):Option FP:=aUR m 0 j
def aAy (um dh r) (h:X3 um dh=some r):Ap 176 [.fn (.func 177) [.ptr 0 0] [],Hf dh] [.box (BJ (LW um))] (.fP []) [.box (BJ (LW r))]:=Ah.aI Tryz.func176 rfl<|AL<|.a 1<|.p (BK Cx dh FD rfl)<|.aW<|AO.block<|DR (fun z j=>⟨Aw 16 [(0,.fn (.func 177) [.ptr 0 0] []),(6,Hf dh),(7,AV (dh.length:Int)),(8,AV z)],[.box (BJ (LW j))],1⟩) _ _ _ _ (AZ 16 449 [(0,true)]) h<|fun L M m z j h=>AX<|AY<|Bf h (fun h=>AY<|AO.block<|AP h fun I q h=>AL<|.p (BG Cx q FD JK rfl)<|.aW<|AP h fun J u h=>Ak<|.a 2<|.f (x:=.fP []) (dA [.ent 0] [.ptr 0 0] [] [CS I] (aiX j I J u) rfl)<|.nil<|Ak<|.a 2<|aDB) fun h=>AO.exit<|Yn
def pY (j:FP) (m:Bool):Option FP:=(YM j.b_ m).bind fun q=>some ({ j with b_:=q })
def amn (OY F5 r) (h:pY OY F5=some r):Ap 179 [.ptr 0 0,Ae F5] [.box (BJ (LW OY))] (.fP []) [.box (BJ (LW r))]:=Ah.aI Tryz.func179 rfl<|AP h fun m j h=>Ak<|.a 6<|.ca (aS4 OY.b_ F5 m j).view<|.a 3<|.nil<|Yn
def aKc (j:(List Bool)) (u:(Int→FP→Option FP)):Int→FP→Option FP:=fun m q=>(bif decide (m<(j.length:Int))then(Ai j m).bind fun z=>(pY q z).bind fun I=>u (Am (m+1)) I else some q)
def aV5 (j:(List Bool)):Int→FP→Option FP:=aU (aKc j) Aj
def vO (j:FP) (m:(List Bool)):Option FP:=aV5 m 0 j
def aeZ (um dh r) (h:vO um dh=some r):Ap 178 [.fn (.func 179) [.ptr 0 0] [],.d ((BQ EY) dh)] [.box (BJ (LW um))] (.fP []) [.box (BJ (LW r))]:=Ah.aI Tryz.func178 rfl<|AL<|.a 1<|.p (BK EY dh aRG rfl)<|.aW<|AO.block<|DR (fun z j=>⟨Aw 16 [(0,.fn (.func 179) [.ptr 0 0] []),(6,.d ((BQ EY) dh)),(7,AV (dh.length:Int)),(8,AV z)],[.box (BJ (LW j))],1⟩) _ _ _ _ (AZ 16 449 [(0,true)]) h<|fun L M m z j h=>AX<|AY<|Bf h (fun h=>AY<|AO.block<|AP h fun I q h=>AL<|.p (BG EY q aRG acM rfl)<|.aW<|AP h fun J u h=>Ak<|.a 2<|.f (x:=.fP []) (dA [.ent 0] [.ptr 0 0] [] [Ae I] (amn j I J u) rfl)<|.nil<|Ak<|.a 2<|aDB) fun h=>AO.exit<|Yn
def aJK (j:AU) (u:(AU→Int→Option AU)):AU→Int→Option AU:=fun q m=>(bif decide (m<(j.length:Int))then(Ai j m).bind fun z=>(YT q z).bind fun I=>u I (Am (m+1))else some q)
def aRp (j:AU):AU→Int→Option AU:=aU (aJK j) Aj
def aCf (m:AU) (j:AU):Option AU:=(YT m (j.length:Int)).bind fun q=>aRp j q 0
def aj6 (iy dh r) (h:aCf iy dh=some r):Ap 276 [.aO 0,Ba dh,.d (.fn (.func 225) [] [])] [(Hr iy)] (.aO 1) [.dead,(Hr r)]:=Ah.aI Tryz.func276 rfl<|AL<|.f (C9 5 1 rfl)<|.aZ<|AP h fun L j h=>AL<|.a 2<|.p (BK Ac dh BX rfl)<|.f (x:=.aO 2) (E9 [.ent 0] [.aO 0,AV (dh.length:Int)] (uF iy (dh.length:Int) L j) rfl)<|.aW<|AY<|AL<|.a 1<|.p (BK Ac dh BX rfl)<|.aW<|AO.block<|DR (fun m I=>⟨Aw 25 [(0,.aO 1),(2,.d (.fn (.func 225) [] [])),(13,Ba dh),(14,AV (dh.length:Int)),(15,AV I)],[.dead,(Hr m)],1⟩) _ _ _ _ (AZ 25 57349 [(0,false),(2,true)]) h<|fun O U q m I h=>AX<|AY<|Bf h (fun h=>AY<|AO.block<|AP h fun J u h=>AL<|.p (BG Ac u BX CP rfl)<|.aW<|AP h fun M z h=>Ak<|.a 3<|.f (x:=.aO 2) (aUB [.ent 1] [] [] [.aO 1,AV J] (uF m J M z) rfl)<|.a 1<|.nil<|Ak<|.a 2<|.nil<|q _ _ _ (AZ 25 57349 [(0,false),(2,true)]) h) fun h=>AO.exit<|AX<|iO
def YI (m:AU) (j:AU):Option AU:=(Yv m (Am ((Am (2*(j.length:Int)))+10))).bind fun q=>(aCf q j).bind fun u=>some u
def amK (iy dh r) (h:YI iy dh=some r):Ap 227 [He iy,Ba dh] [] (.aO 0) [(Hr r)]:=Ah.aI Tryz.func227 rfl<|AL<|.f (C9 5 1 rfl)<|.aZ<|Bh h fun q j u m h=>AL<|.a 2<|.p (BK Ac dh BX rfl)<|.a 2<|.f (x:=.aO 1) (L9 [He iy,AV (Am ((Am (2*(dh.length:Int)))+10))] (zA iy (Am ((Am (2*(dh.length:Int)))+10)) q j) rfl)<|.a 1<|.f (x:=.aO 2) (E9 [.ent 1] [.aO 1,Ba dh,.d (.fn (.func 225) [] [])] (aj6 q dh u m) rfl)<|.aW<|L8
def iY (j:FP) (m:AU):Option FP:=(YI j.b_ m).bind fun q=>some ({ j with b_:=q })
def aq5 (OY dh r) (h:iY OY dh=some r):Ap 181 [.ptr 0 0,Ba dh] [.box (BJ (LW OY))] (.fP []) [.box (BJ (LW r))]:=Ah.aI Tryz.func181 rfl<|AP h fun m j h=>Ak<|.a 6<|.ca (amK OY.b_ dh m j).view<|.a 3<|.nil<|Yn
abbrev V7:=List (List Int)
def aKX (j:V7) (u:(Int→FP→Option FP)):Int→FP→Option FP:=fun m q=>(bif decide (m<(j.length:Int))then(Ai j m).bind fun z=>(iY q z).bind fun I=>u (Am (m+1)) I else some q)
def abP (j:V7):Int→FP→Option FP:=aU (aKX j) Aj
def tC (j:FP) (m:V7):Option FP:=abP m 0 j
def ap2 (um dh r) (h:tC um dh=some r):Ap 180 [.fn (.func 181) [.ptr 0 0] [],.d ((BQ (BQ Ac)) dh)] [.box (BJ (LW um))] (.fP []) [.box (BJ (LW r))]:=Ah.aI Tryz.func180 rfl<|AL<|.a 1<|.p (BK (BQ Ac) dh wu rfl)<|.aW<|AO.block<|DR (fun z j=>⟨Aw 16 [(0,.fn (.func 181) [.ptr 0 0] []),(6,.d ((BQ (BQ Ac)) dh)),(7,AV (dh.length:Int)),(8,AV z)],[.box (BJ (LW j))],1⟩) _ _ _ _ (AZ 16 449 [(0,true)]) h<|fun L M m z j h=>AX<|AY<|Bf h (fun h=>AY<|AO.block<|AP h fun I q h=>AL<|.p (BG (BQ Ac) q wu aFh rfl)<|.aW<|AP h fun J u h=>Ak<|.a 2<|.f (x:=.fP []) (dA [.ent 0] [.ptr 0 0] [] [Ba I] (aq5 j I J u) rfl)<|.nil<|Ak<|.a 2<|aDB) fun h=>AO.exit<|Yn
def oQ (j:AQ):Option AU:=(UD aEy [j.Id]).bind fun z=>(X3 z [j.Room,j.aY]).bind fun I=>(UD I [j.Kind]).bind fun J=>(vO J [j.State]).bind fun L=>(X3 L [j.Key]).bind fun M=>(UD M [j.Time,j.Depth]).bind fun O=>(tC O [j.bM,j.bK]).bind fun U=>(qG j.Content).bind fun Y=>(X3 U [Py Y]).bind fun Z=>(UD Z [j.Hash]).bind fun m=>(X3 m [j.pz.Server]).bind fun q=>(UD q [j.pz.Sum]).bind fun u=>some u.b_
def aeW (aS r) (h:oQ aS=some r):Ap 139 [DC aS] [] (He r) []:=Ah.aI Tryz.func139 rfl<|AX<|AX<|AP h fun x1 J h=>AL<|.a 1<|.p (x:=.fn (.func 175) [.ptr 1 0] []) (QK (fi:=[.ptr 1 0]) (ca:=[]) rfl rfl rfl)<|.a 2<|.p (DY DW zero3 [Ac aS.Id] rfl)<|.f (x:=.fP []) (E9 [.ent 1] [.fn (.func 175) [.ptr 1 0] [],Ba [aS.Id]] (uU aEy [aS.Id] x1 J) rfl (ha:=⟨⟨_,_,rfl,⟨⟨0,rfl,rfl⟩,trivial⟩,trivial⟩,.inl rfl,trivial⟩))<|.aZ<|AP h fun x2 L h=>AL<|.a 1<|.p (x:=.fn (.func 177) [.ptr 1 0] []) (QK (fi:=[.ptr 1 0]) (ca:=[]) rfl rfl rfl)<|.a 4<|.p (DY NI zero9 [Cx aS.Room,Cx aS.aY] rfl)<|.f (x:=.fP []) (E9 [.ent 1] [.fn (.func 177) [.ptr 1 0] [],Hf [aS.Room,aS.aY]] (aAy x1 [aS.Room,aS.aY] x2 L) rfl (ha:=⟨⟨_,_,rfl,⟨⟨0,rfl,rfl⟩,trivial⟩,trivial⟩,.inl rfl,trivial⟩))<|.aZ<|AP h fun x3 M h=>AL<|.a 1<|.p (x:=.fn (.func 175) [.ptr 1 0] []) (QK (fi:=[.ptr 1 0]) (ca:=[]) rfl rfl rfl)<|.a 2<|.p (DY DW zero3 [Ac aS.Kind] rfl)<|.f (x:=.fP []) (E9 [.ent 1] [.fn (.func 175) [.ptr 1 0] [],Ba [aS.Kind]] (uU x2 [aS.Kind] x3 M) rfl (ha:=⟨⟨_,_,rfl,⟨⟨0,rfl,rfl⟩,trivial⟩,trivial⟩,.inl rfl,trivial⟩))<|.aZ<|AP h fun x4 O h=>AL<|.a 1<|.p (x:=.fn (.func 179) [.ptr 1 0] []) (QK (fi:=[.ptr 1 0]) (ca:=[]) rfl rfl rfl)<|.a 2<|.p (DY alD aBw [EY aS.State] rfl)<|.f (x:=.fP []) (E9 [.ent 1] [.fn (.func 179) [.ptr 1 0] [],.d ((BQ EY) [aS.State])] (aeZ x3 [aS.State] x4 O) rfl (ha:=⟨⟨_,_,rfl,⟨⟨0,rfl,rfl⟩,trivial⟩,trivial⟩,.inl rfl,trivial⟩))<|.aZ<|AP h fun x5 U h=>AL<|.a 1<|.p (x:=.fn (.func 177) [.ptr 1 0] []) (QK (fi:=[.ptr 1 0]) (ca:=[]) rfl rfl rfl)<|.a 2<|.p (DY NI zero9 [Cx aS.Key] rfl)<|.f (x:=.fP []) (E9 [.ent 1] [.fn (.func 177) [.ptr 1 0] [],Hf [aS.Key]] (aAy x4 [aS.Key] x5 U) rfl (ha:=⟨⟨_,_,rfl,⟨⟨0,rfl,rfl⟩,trivial⟩,trivial⟩,.inl rfl,trivial⟩))<|.aZ<|AP h fun x6 Y h=>AL<|.a 1<|.p (x:=.fn (.func 175) [.ptr 1 0] []) (QK (fi:=[.ptr 1 0]) (ca:=[]) rfl rfl rfl)<|.a 4<|.p (DY DW zero3 [Ac aS.Time,Ac aS.Depth] rfl)<|.f (x:=.fP []) (E9 [.ent 1] [.fn (.func 175) [.ptr 1 0] [],Ba [aS.Time,aS.Depth]] (uU x5 [aS.Time,aS.Depth] x6 Y) rfl (ha:=⟨⟨_,_,rfl,⟨⟨0,rfl,rfl⟩,trivial⟩,trivial⟩,.inl rfl,trivial⟩))<|.aZ<|AP h fun x7 Z h=>AL<|.a 1<|.p (x:=.fn (.func 181) [.ptr 1 0] []) (QK (fi:=[.ptr 1 0]) (ca:=[]) rfl rfl rfl)<|.a 4<|.p (DY aMp zero24 [(BQ Ac) aS.bM,(BQ Ac) aS.bK] rfl)<|.f (x:=.fP []) (E9 [.ent 1] [.fn (.func 181) [.ptr 1 0] [],.d ((BQ (BQ Ac)) [aS.bM,aS.bK])] (ap2 x6 [aS.bM,aS.bK] x7 Z) rfl (ha:=⟨⟨_,_,rfl,⟨⟨0,rfl,rfl⟩,trivial⟩,trivial⟩,.inl rfl,trivial⟩))<|.aZ<|Bh h fun j sV x9 mX h=>AL<|.a 1<|.p (x:=.fn (.func 177) [.ptr 1 0] []) (QK (fi:=[.ptr 1 0]) (ca:=[]) rfl rfl rfl)<|.a 2<|.ca (aRQ aS.Content j sV)<|.p (aTU (l:=j) Vy aFj GX rfl)<|.p (DY NI zero9 [Cx (Py j)] rfl)<|.f (x:=.fP []) (E9 [.ent 1] [.fn (.func 177) [.ptr 1 0] [],Hf [Py j]] (aAy x7 [Py j] x9 mX) rfl (ha:=⟨⟨_,_,rfl,⟨⟨0,rfl,rfl⟩,trivial⟩,trivial⟩,.inl rfl,trivial⟩))<|.aZ<|AP h fun m q h=>AL<|.a 1<|.p (x:=.fn (.func 175) [.ptr 1 0] []) (QK (fi:=[.ptr 1 0]) (ca:=[]) rfl rfl rfl)<|.a 2<|.p (DY DW zero3 [Ac aS.Hash] rfl)<|.f (x:=.fP []) (E9 [.ent 1] [.fn (.func 175) [.ptr 1 0] [],Ba [aS.Hash]] (uU x9 [aS.Hash] m q) rfl (ha:=⟨⟨_,_,rfl,⟨⟨0,rfl,rfl⟩,trivial⟩,trivial⟩,.inl rfl,trivial⟩))<|.aZ<|AP h fun u z h=>AL<|.a 1<|.p (x:=.fn (.func 177) [.ptr 1 0] []) (QK (fi:=[.ptr 1 0]) (ca:=[]) rfl rfl rfl)<|.a 3<|.p (DY NI zero9 [Cx aS.pz.Server] rfl)<|.f (x:=.fP []) (E9 [.ent 1] [.fn (.func 177) [.ptr 1 0] [],Hf [aS.pz.Server]] (aAy m [aS.pz.Server] u z) rfl (ha:=⟨⟨_,_,rfl,⟨⟨0,rfl,rfl⟩,trivial⟩,trivial⟩,.inl rfl,trivial⟩))<|.aZ<|AP h fun x12 I h=>AL<|.a 1<|.p (x:=.fn (.func 175) [.ptr 1 0] []) (QK (fi:=[.ptr 1 0]) (ca:=[]) rfl rfl rfl)<|.a 3<|.p (DY DW zero3 [Ac aS.pz.Sum] rfl)<|.f (x:=.fP []) (E9 [.ent 1] [.fn (.func 175) [.ptr 1 0] [],Ba [aS.pz.Sum]] (uU u [aS.pz.Sum] x12 I) rfl (ha:=⟨⟨_,_,rfl,⟨⟨0,rfl,rfl⟩,trivial⟩,trivial⟩,.inl rfl,trivial⟩))<|.aZ<|AX<|CO
def yJ (j:AQ):Option Int:=(tH j).bind fun m=>(oQ ({ { m with Id:=0 }with pz:=dK })).bind fun q=>(qR q).bind fun u=>some u
def acI (aS r) (h:yJ aS=some r):Ap 97 [DC aS] [] (AV r) []:=Ah.aI Tryz.func97 rfl<|AX<|AP h fun z j h=>AL<|.a 1<|.ca (abA aS z j)<|.aW<|AX<|Bh h fun u m I q h=>AL<|.a 1<|.ca (aeW _ u m)<|.ca (aRu u I q)<|.aW<|CO
def aQi (m:AQ) (j:ByteArray):Option AQ:=(xO m).bind fun q=>(yJ ({ m with Hash:=q })).bind fun u=>some ({ { { m with Hash:=q }with Id:=u }with pz:=(⟨j,({ { m with Hash:=q }with Id:=u }).Id⟩:Ny) })
def agF (aS abR r) (h:aQi aS abR=some r):Ap 62 [DC aS,CS abR] [] (DC r) []:=Ah.aI Tryz.func62 rfl<|AX<|AP h fun j q h=>AL<|.a 1<|.ca (aRb aS j q)<|.aW<|AP h fun m u h=>AL<|.a 1<|.ca (acI _ m u)<|.aW<|AX<|AX<|AO.ret<|by rw[←CU h];exact⟨[DC ({ { { aS with Hash:=j }with Id:=m }with pz:=(⟨abR,({ { aS with Hash:=j }with Id:=m }).Id⟩:Ny) })],[],⟨⟨1,BJ (BD ({ { { aS with Hash:=j }with Id:=m }with pz:=(⟨abR,({ { aS with Hash:=j }with Id:=m }).Id⟩:Ny) })),true,29,AA,AA,AA,Cb,Dt AA,aAs,AA⟩,trivial⟩,AA,AA,AA⟩
def uT (j:AQ):Option AQ:=(aQi j aT3).bind fun m=>some m
def aH4 (aS r) (h:uT aS=some r):Ap 34 [DC aS] [] (DC r) []:=Ah.aI Tryz.func34 rfl<|AX<|AP h fun j m h=>AL<|.a 1<|.ca (agF aS aT3 j m)<|.aW<|AO.ret<|by rw[←CU h];exact⟨[DC j],[],⟨⟨1,BJ (BD j),true,29,AA,AA,AA,Cb,Dt AA,bG,AA⟩,trivial⟩,AA,AA,AA⟩
def aOC (j:Ad) (m:(AQ→Option Bool)) (k2:(Int→Option Int)):Int→Option Int:=fun q=>(bif decide (q<(j.length:Int))then(Ai j q).bind fun u=>(m u).bind fun z=>(bif z then some q else k2 (Am (q+1)))else some (-1))
def aRy (j:Ad) (m:(AQ→Option Bool)):Int→Option Int:=bD (aOC j m) Aj
def kP (j:Ad) (m:(AQ→Option Bool)):Option Int:=aRy j m 0
def aM0 (m:(List AQ)) (q:(AQ→Option Bool)) (j:D) (u:TY Tryz.prog BD EY j q) (r:Int) (h:kP m q=some r):Ap 87 [BF m,.d j] [] (AV r) []:=Ah.aI Tryz.func87 rfl<|AX<|AY<|AL<|.a 1<|.p (BK BD m Bq rfl)<|.aW<|AO.block<|DZ (fun L=>⟨Aw 19 [(0,BF m),(1,.d j),(7,AV (m.length:Int)),(8,AV L)],[],0⟩) _ _ _ (AZ 19 387 []) h<|fun M k2 z L h=>AX<|AY<|Bf h (fun h=>AY<|AO.block<|AX<|Bh h fun O I U J h=>AL<|.a 3<|.p (BG BD I Bq Cb rfl)<|.a 1<|.p (pX (d:=j) (u:TY Tryz.prog BD EY j q) J rfl)<|.aZ<|Az h Bg fun h=>Ak<|.a 2<|.nil<|z _ _ (AZ 19 387 []) h) fun h=>EO
def aAu (j:AQ) (m:Int):Option Bool:=some (j.Id==m)
def ah9 (aS c0 r) (h:aAu aS c0=some r):Ap 88 [DC aS,.d (.ref (Ac c0).cells 0)] [] (Ae r) []:=Ah.aI Tryz.func88 rfl<|ZK
def aEZ (m:Ad) (j:Int):Option Int:=(kP m (fun a0=>aAu a0 j)).bind fun q=>some q
def acJ (ak gu r) (h:aEZ ak gu=some r):Ap 51 [BF ak,AV gu] [] (AV r) []:=Ah.aI Tryz.func51 rfl<|AX<|AP h fun m j h=>AL<|.a 1<|.conv _ (UY (cs:=BJ (Ac gu)) 0 AA AA)<|.p (x:=.d (.fn (.func 88) [] [(.ref (Ac gu).cells 0)])) (VR [(.ref (Ac gu).cells 0)] rfl rfl)<|.ca (aM0 ak (fun a0=>aAu a0 gu) (.fn (.func 88) [] [(.ref (Ac gu).cells 0)]) ⟨88,[(.ref (Ac gu).cells 0)],rfl,aej,fun a0 b q=>ah9 a0 gu b q⟩ m j)<|.aW<|CO
def iZ (j:Ad):Option Ad:=(Ci 376 [] j).bind fun m=>some m
def aU7 (dW r) (h:iZ dW=some r):Ap 45 [BF dW] [] (.aO 0) [(En r)]:=by
 refine Ah.aI Tryz.func45 rfl ?_;unfold iZ at h;refine AL<|.f (C9 35 29 rfl)<|.aZ<|AY<|nM (x:=.tmp 3) (t':=22) (d:=4) (es:=List.map BD dW) 1 rfl (.a 1<|.nil _) AA AA AA Bq AA ?_;intro b j;cases b
 ·clear j;refine QM AA<|AO.skip ?_;obtain⟨q,m,h⟩:=Dh h;refine AL<|.f (Gp Hz KW [] rfl)<|.a 1<|.f (Dc (k:=1) BD m Hz AA (fun _=>rfl) BU rfl)<|.aM 1 ?_;rw[←CU h];exact .ret (Ed [(2,true)])
 replace j:=qI j;replace h:some []=some r:=oN
 refine VF AA<|AL<|.f (C9 35 29 rfl)<|.aZ ?_;rw[←CU h];exact .ret (Ed [(1,true)])
def kK (j:AQ):Option Bool:=(xO j).bind fun m=>some (m==j.Hash)
def aBu (aS r) (h:kK aS=some r):Ap 63 [DC aS] [] (Ae r) []:=Ah.aI Tryz.func63 rfl<|AX<|AP h fun m j h=>Ew AA AA AA (.a 1<|.ca (aRb aS m j)<|.a 4<|.nil _)<|CO
def abH (j:List AQ) (m:Int) (q:List AQ):Option Ad:=aIK j m q
def amh (j:List AQ) (m:Int) (q r:List AQ) (h:abH j m q=some r):Ap 64 [.aO 0,AV m,.aO 1] [(En j),(En q)] (.aO 2) [.dead,.dead,(En r)]:=
 avA (fun _=>rfl) j m q r h
def aIi (j:Ad):Option (Ad×Int):=some (j,0)
def aKU (q:(Int→Option (Ad×Int))) (j:Int) (u:Ad) (m:AQ) (z:Bool):Option (Ad×Int):=(bif z then q (Am (j+1))else(abH u j [m]).bind fun I=>some (I,0))
def apW (q:Ad) (u:Ad) (j:AQ) (z:(Int→Option (Ad×Int))):Int→Option (Ad×Int):=fun m=>(bif decide (m<(q.length:Int))then(Ai q m).bind fun I=>aKU z m u j (decide (I.Id<j.Id))else aKU z m u j false)
def anV (j:Ad) (q:Ad) (m:AQ):Int→Option (Ad×Int):=bD (apW j q m) Aj
def alf (j:Ad) (m:AQ) (k2:(Int→Option (Ad×Int))):Int→Option (Ad×Int):=fun z=>(bif decide (z<(j.length:Int))then(Ai j z).bind fun O=>(bif (!(O.Room.toList==m.Room.toList))then some ([],13)else k2 (Am (z+1)))else(aEZ j m.Id).bind fun u=>(bif decide (u<0)then some (decide ((j.length:Int)≥2000))else some false).bind fun U=>(bif U then some ([],29)else(iZ j).bind fun q=>(bif decide (u≥0)then(kK m).bind fun I=>(bif I then(Ai j u).bind fun J=>(kK J).bind fun L=>some (!L)else some false).bind fun M=>(bif M then(Ai q u).bind fun Y=>aIi (q.set (u).toNat m)else aIi q)else anV j q m 0)))
def akR (j:Ad) (m:AQ):Int→Option (Ad×Int):=bD (alf j m) Aj
def aQA (j:Ad) (m:AQ):Option (Ad×Int):=akR j m 0
def alz (ak gI r) (h:aQA ak gI=some r):Ap 35 [BF ak,DC gI] [] (.fP [.aO 0,AV r.2]) [(En r.1)]:=Ah.aI Tryz.func35 rfl<|AL<|.a 1<|.f (C9 35 29 rfl)<|.aW<|AY<|AL<|.a 1<|.p (BK BD ak Bq rfl)<|.aW<|AO.block<|DZ (fun v1=>⟨Aw 73 [(0,BF ak),(3,.ptr 0 0),(10,BF ak),(11,AV (ak.length:Int)),(12,AV v1)],[.box (BJ (BD gI))],0⟩) _ _ _ (AZ 73 7177 [(0,true)]) h<|fun J30 k2 hk2 v1 h=>AX<|AY<|Bf h (fun h=>AY<|AO.block<|AP h fun x4 hx4 h=>AL<|.p (BG BD hx4 Bq Cb rfl)<|.aW<|AX<|Az h (fun h=>AL<|.f (C9 35 29 rfl)<|.aW<|L8) fun h=>Ak<|.a 2<|.nil<|hk2 _ _ (AZ 73 7177 [(0,true)]) h) fun h=>AO.exit<|AP h fun x6 hx6 h=>AL<|.a 3<|.ca (acJ ak gI.Id x6 hx6)<|.aW<|AY<|AL<|.a 2<|AP h fun x7 hx7 h=>.mg 28 4 (Ae x7) (.bi hx7 (fun h=>.a 1<|.p (BK BD ak Bq rfl)<|.aW<|CJ))<|.aZ<|Az h (fun h=>AL<|.f (C9 35 29 rfl)<|.aW<|KU) fun h=>AP h fun j J h=>AL<|.a 1<|.f (x:=.aO 1) (L9 [BF ak] (aU7 ak j J) rfl)<|.aW<|AY<|AX<|Az h (fun h=>Ch (fun s=>∃(z:(List AQ)),Bz s ⟨Aw 73 [(9,.aO 0)],[(En z)],0⟩∧aIi z=some r) (by rintro s ⟨z,hs,h⟩;exact CZ hs<|AX<|Pj)<|fun L=>AP h fun x14 M h=>AL<|.a 1<|.ca (aBu gI x14 M)<|.a 1<|AP h fun x15 O h=>.mg 40 6 (Ae x15) (Cc O (fun e i=>by subst e;have h:=i;exact Bh h fun x17 U x18 Y h=>.a 2<|.p (BG BD U Bq Cb rfl)<|.a 1<|.ca (aBu x17 x18 Y)<|.aW<|CJ))<|.aZ<|Az h (fun h=>AP h fun uP u h=>Ak<|.a 3<|.p (Gt (e':=35) (kd:=.i64) BD u (k:=1) AA Bq Cb rfl)<|.f (X6 (e:=35) (size:=29) (v:=(DC gI)) (k:=1) (i:=(x6).toNat) (off:=0) (a':=gI) BD AA (Fz u).2 AA (Cb).size AA (Dt AA) AA (fun _=>rfl) rfl)<|.nil<|L _ ⟨(j.set (x6).toNat gI),AZ 73 512 [(1,true)],h⟩) fun h=>L _ ⟨j,AZ 73 512 [(1,true)],h⟩) fun h=>AX<|AY<|AO.block<|DZ (fun m=>⟨Aw 73 [(0,BF ak),(3,.ptr 0 0),(8,AV m),(9,.aO 1)],[.box (BJ (BD gI)),(En j)],0⟩) _ _ _ (AZ 73 777 [(0,true),(1,true)]) h<|fun J29 k22 Z m h=>AY<|Ch (fun s=>∃(I:Bool),Bz s ⟨Aw 73 [(0,BF ak),(3,.ptr 0 0),(8,AV m),(9,.aO 1),(65,Ae I)],[.box (BJ (BD gI)),(En j)],0⟩∧aKU k22 m j gI I=some r) (by rintro s ⟨I,hs,h⟩;exact CZ hs<|Bf h (fun h=>AO.block<|Ak<|.a 3<|.nil<|Z _ _ (AZ 73 777 [(0,true),(1,true)]) h) fun h=>AO.exit<|AP h fun x25 hx25 h=>AL<|.a 3<|.f (Gp Hz KW [BD gI] rfl)<|.f (x:=.aO 3) (E9 [.ent 1,.ent 2] [.aO 1,AV m,.aO 2] (amh j m [gI] x25 hx25) rfl (hE:=(MV AA<|MV AA<|trivial)))<|.aW<|oP)<|fun K26=>Ef h (fun q h=>AP h fun x28 hx28 h=>AO.draw AA AA AA (.a 2<|.p (BK BD ak Bq rfl)<|.a 1<|.c (BL some q)<|.a 2<|.p (BG BD hx28 Bq Cb rfl)<|.a 6<|.nil _)<|K26 _ ⟨(decide (x28.Id<gI.Id)),AZ 73 36893488147419104009 [(0,true),(1,true)],h⟩) fun q h=>AO.draw AA AA AA (.a 2<|.p (BK BD ak Bq rfl)<|.a 1<|.c (BL some q)<|.a 9<|.nil _)<|K26 _ ⟨false,AZ 73 36893488147419104009 [(0,true),(1,true)],h⟩
def dF (j:Int):Option Bool:=(bif decide (j≥1)then some (decide (j≤10))else some false).bind fun m=>some m
def lG (dU r) (h:dF dU=some r):Ap 192 [AV dU] [] (Ae r) []:=Ah.aI Tryz.func192 rfl<|AX<|AL<|.a 2<|AP h fun m j h=>.mg 5 3 (Ae m) (.bi j)<|.aW<|CO
def aPS (j:ByteArray) (m:ByteArray):Option (ByteArray×ByteArray×Bool):=(aEO j m).bind fun q=>(bif decide (q≥0)then(Nk j 0 q).bind fun u=>(Nk j (Am (q+(m.size:Int))) ((j).size)).bind fun z=>some (u,z,true)else some (j,Bv,false))
def aiG (dW ZN r) (h:aPS dW ZN=some r):Ap 312 [CS dW,CS ZN] [] (.fP [CS r.1,CS r.2.1,Ae r.2.2]) []:=Ah.aI Tryz.func312 rfl<|AX<|AY<|AP h fun z j h=>AL<|.a 2<|.ca (ag5 dW ZN z j)<|.aW<|AX<|Az h (fun h=>Bh h fun I m J q h=>Ew AA AA AA (.a 2<|.p (gq m (fun _=>rfl) iQ GX rfl)<|.a 5<|.p (gq q iQ (fun _=>rfl) GX rfl)<|.a 3<|.nil _)<|CO) fun h=>AX<|CO
def strings_Cut (m:ByteArray) (j:ByteArray):Option (ByteArray×ByteArray×Bool):=(aPS m j).bind fun q=>some (q.1,q.2.1,q.2.2)
def aja (dW ZN r) (h:strings_Cut dW ZN=some r):Ap 262 [CS dW,CS ZN] [] (.fP [CS r.1,CS r.2.1,Ae r.2.2]) []:=Ah.aI Tryz.func262 rfl<|AX<|AP h fun m j h=>AL<|.a 2<|.ca (aiG dW ZN m j)<|.aW<|CO
def wU (j:Int):Option Bool:=(bif (j==95)then some true else some (j==46)).bind fun m=>(bif m then some true else some (j==45)).bind fun q=>(bif q then some true else some (j==61)).bind fun u=>some u
def aqM (fA r) (h:wU fA=some r):Ap 314 [.d (DI fA)] [] (Ae r) []:=Ah.aI Tryz.func314 rfl<|AX<|AL<|.a 2<|AP h fun u j h=>.mg 5 3 (Ae u) (.bi j)<|.a 1<|AP h fun z m h=>.mg 10 2 (Ae z) (Cc m)<|.a 1<|AP h fun I q h=>.mg 14 2 (Ae I) (Cc q)<|.aW<|CO
def kn (j:Int):Option Bool:=(bif decide (j≥97)then some (decide (j≤122))else some false).bind fun m=>(bif m then some true else(bif decide (j≥48)then some (decide (j≤57))else some false).bind fun q=>some q).bind fun u=>some u
def aIO (fA r) (h:kn fA=some r):Ap 316 [.d (DI fA)] [] (Ae r) []:=Ah.aI Tryz.func316 rfl<|AX<|AL<|.a 2<|AP h fun u j h=>.mg 5 3 (Ae u) (.bi j)<|.a 1<|AP h fun z m h=>.mg 10 6 (Ae z) (Cc m (k2:=fun e i=>ab2))<|.aW<|CO
def aIl (m:ByteArray) (j:(Int→Option Bool)) (I:(Int→Option Bool)):Int→Option Bool:=fun q=>(bif decide (q<(m.size:Int))then(Hl m q).bind fun J=>(kn J).bind fun L=>(bif (!L)then(Hl m q).bind fun u=>(j u).bind fun z=>some (!z)else some false).bind fun M=>(bif M then some false else I (Am (q+1)))else some true)
def aJG (m:ByteArray) (j:(Int→Option Bool)):Int→Option Bool:=bD (aIl m j) Aj
def cG (m:ByteArray) (j:(Int→Option Bool)):Option Bool:=(bif decide ((m.size:Int)<1)then some true else some (decide ((m.size:Int)>32))).bind fun q=>(bif q then some false else aJG m j 0)
def aWc (u:ByteArray) (m:(Int→Option Bool)) (j:D) (q:TY Tryz.prog DI EY j m) (r:Bool) (h:cG u m=some r):Ap 313 [CS u,.d j] [] (Ae r) []:=Ah.aI Tryz.func313 rfl<|AX<|AY<|AL<|.a 3<|AP h fun Z J h=>.mg 9 4 (Ae Z) (.bi J)<|.aZ<|Az h Bg fun h=>AY<|AX<|AO.block<|DZ (fun Y=>⟨Aw 33 [(0,CS u),(1,.d j),(15,AV (u.size:Int)),(16,AV Y)],[],0⟩) _ _ _ (AZ 33 98307 []) h<|fun J14 k5 L Y h=>AX<|AY<|Bf h (fun h=>AY<|AO.block<|AX<|Bh h fun x7 M x8 O h=>AL<|.a 2<|.p (JB (k:=.i64) M GX rfl)<|.ca (aIO x7 x8 O)<|.a 1<|AP h fun x9 U h=>.mg 24 7 (Ae x9) (.bi U (fun h=>Bh h fun x11 z x12 I h=>.a 3<|.p (JB (k:=.i64) z GX rfl)<|.p (pX (d:=j) (q:TY Tryz.prog DI EY j m) I rfl)<|.aW<|CJ))<|.aZ<|Az h Bg fun h=>Ak<|.a 2<|.nil<|L _ _ (AZ 33 98307 []) h) fun h=>EO
def aE0 (j:ByteArray):Option Bool:=(cG j (fun a0=>wU a0)).bind fun m=>some m
def ano (dW r) (h:aE0 dW=some r):Ap 263 [CS dW] [] (Ae r) []:=Ah.aI Tryz.func263 rfl<|AX<|AP h fun m j h=>AL<|.a 1<|.ca (aWc dW (fun a0=>wU a0) (.fn (.func 314) [] []) ⟨314,[],rfl,aij,fun a0 b q=>aqM a0 b q⟩ m j)<|.aW<|CO
def xW (j:Int):Option Bool:=(bif (j==46)then some true else some (j==45)).bind fun m=>some m
def apw (fA r) (h:xW fA=some r):Ap 315 [.d (DI fA)] [] (Ae r) []:=Ah.aI Tryz.func315 rfl<|AX<|AL<|.a 2<|AP h fun m j h=>.mg 5 3 (Ae m) (.bi j)<|.aW<|CO
def aDv (j:ByteArray):Option Bool:=(cG j (fun a0=>xW a0)).bind fun m=>(bif m then(Hl j 0).bind fun q=>(kn q).bind fun u=>some u else some false).bind fun z=>(bif z then(Hl j (Am ((j.size:Int)-1))).bind fun I=>(kn I).bind fun J=>some J else some false).bind fun L=>some L
def agR (dW r) (h:aDv dW=some r):Ap 264 [CS dW] [] (Ae r) []:=Ah.aI Tryz.func264 rfl<|AX<|AP h fun L j h=>AL<|.a 1<|.ca (aWc dW (fun a0=>xW a0) (.fn (.func 315) [] []) ⟨315,[],rfl,alH,fun a0 b M=>apw a0 b M⟩ L j)<|.a 1<|AP h fun O m h=>.mg 6 3 (Ae O) (Cc m (fun e i=>by subst e;have h:=i;exact Bh h fun U q Y u h=>.a 1<|.p (JB (k:=.i64) q GX rfl)<|.ca (aIO U Y u)<|.aW<|CJ))<|.a 1<|AP h fun Z z h=>.mg 11 6 (Ae Z) (Cc z (fun e i=>by subst e;have h:=i;exact Bh h fun x8 I x9 J h=>.a 4<|.p (JB (k:=.i64) I GX rfl)<|.ca (aIO x8 x9 J)<|.aW<|CJ))<|.aW<|CO
def lJ (j:ByteArray) (m:ByteArray):Option (ByteArray×ByteArray×Bool):=(bif (j.toList==Bv.toList)then some true else(Hl j 0).bind fun J=>(strings_IndexByte m J).bind fun L=>some (decide (L<0))).bind fun M=>(bif M then some (Bv,Bv,false)else(Nk j 1 ((j).size)).bind fun O=>(strings_Cut O kF).bind fun q=>(bif (!q.2.2)then some true else(aE0 q.1).bind fun u=>some (!u)).bind fun U=>(bif U then some true else(aDv q.2.1).bind fun z=>some (!z)).bind fun I=>(bif I then some (Bv,Bv,false)else some (q.1,q.2.1,true)))
def aac (CQ amj r) (h:lJ CQ amj=some r):Ap 199 [CS CQ,CS amj] [] (.fP [CS r.1,CS r.2.1,Ae r.2.2]) []:=Ah.aI Tryz.func199 rfl<|AX<|AY<|AL<|.a 2<|AP h fun x1 u h=>.mg 12 6 (Ae x1) (.bi u (k2:=fun h=>Bh h fun x3 z x4 I h=>.a 2<|.p (JB (k:=.i64) z GX rfl)<|.ca (amI amj x3 x4 I)<|.aW<|CJ))<|.aZ<|Az h Bg fun h=>Bh h fun x6 J L M h=>AL<|.a 1<|.p (gq J Lp (fun _=>rfl) GX rfl)<|.ca (aja x6 kF L M)<|.aW<|AY<|AL<|.a 2<|AP h fun x8 O h=>.mg 28 4 (Ae x8) (.bi O (k2:=fun h=>AP h fun U j h=>.a 1<|.ca (ano L.1 U j)<|.aW<|CJ))<|.a 1<|AP h fun Y m h=>.mg 34 3 (Ae Y) (Cc m (k2:=fun e i=>by subst e;have h:=i;exact AP h fun Z q h=>.a 1<|.ca (agR L.2.1 Z q)<|.aW<|CJ))<|.aZ<|JL
def zB (m:ByteArray) (j:ByteArray):Option Int:=(lJ m j).bind fun q=>(bif (!q.2.2)then some 3 else some 0)
def aV7 (dW Y8 r) (h:zB dW Y8=some r):Ap 305 [CS dW,CS Y8] [] (AV r) []:=Ah.aI Tryz.func305 rfl<|AX<|AY<|AP h fun m j h=>AL<|.a 2<|.ca (aac dW Y8 m j)<|.aW<|AX<|JL
def ny (j:ByteArray):Option Int:=(zB j o8).bind fun m=>some m
def aQf (dW r) (h:ny dW=some r):Ap 248 [CS dW] [] (AV r) []:=Ah.aI Tryz.func248 rfl<|AX<|AP h fun m j h=>AL<|.a 1<|.ca (aV7 dW o8 m j)<|.aW<|CO
def bQ (j:ByteArray):Option Int:=(zB j nV).bind fun m=>some m
def aDD (dW r) (h:bQ dW=some r):Ap 249 [CS dW] [] (AV r) []:=Ah.aI Tryz.func249 rfl<|AX<|AP h fun m j h=>AL<|.a 1<|.ca (aV7 dW nV m j)<|.aW<|CO
def aOk (j:ByteArray) (k2:(Int→Option Bool)):Int→Option Bool:=fun m=>(bif decide (m<(j.size:Int))then(Hl j m).bind fun q=>(bif decide (q<33)then some true else(Hl j m).bind fun u=>some (decide (u>126))).bind fun z=>(bif z then some false else k2 (Am (m+1)))else(bif decide ((j.size:Int)≥1)then some (decide ((j.size:Int)≤32))else some false).bind fun I=>some I)
def aRU (j:ByteArray):Int→Option Bool:=bD (aOk j) Aj
def aCo (j:ByteArray):Option Bool:=aRU j 0
def an4 (anJ r) (h:aCo anJ=some r):Ap 250 [CS anJ] [] (Ae r) []:=Ah.aI Tryz.func250 rfl<|AX<|AY<|AX<|AO.block<|DZ (fun I=>⟨Aw 28 [(0,CS anJ),(5,AV (anJ.size:Int)),(6,AV I)],[],0⟩) _ _ _ (AZ 28 97 []) h<|fun J k2 j I h=>AX<|AY<|Bf h (fun h=>AY<|AO.block<|AX<|AP h fun O m h=>AL<|.a 2<|.p (JB (k:=.i64) m GX rfl)<|.a 1<|AP h fun L q h=>.mg 13 5 (Ae L) (.bi q (k2:=fun h=>AP h fun U u h=>.a 2<|.p (JB (k:=.i64) u GX rfl)<|.aW<|CJ))<|.aZ<|Az h Bg fun h=>Ak<|.a 2<|.nil<|j _ _ (AZ 28 97 []) h) fun h=>AO.exit<|AL<|.a 3<|AP h fun M z h=>.mg 23 4 (Ae M) (.bi z)<|.aW<|CO
def aDL (j:AQ):Option Bool:=(ny j.Room).bind fun m=>(bif (m != 0)then some true else(bQ j.aY).bind fun q=>some (q != 0)).bind fun u=>(bif u then some false else(bif (j.Kind==2)then(bQ j.Key).bind fun z=>some (z==0)else(bif (j.Kind==9)then(aCo j.Key).bind fun I=>some I else some true)))
def agX (aS r) (h:aDL aS=some r):Ap 193 [DC aS] [] (Ae r) []:=Ah.aI Tryz.func193 rfl<|AX<|AY<|AP h fun I j h=>AL<|.a 2<|.ca (aQf aS.Room I j)<|.a 1<|AP h fun J m h=>.mg 7 5 (Ae J) (.bi m (k2:=fun h=>AP h fun L q h=>.a 2<|.ca (aDD aS.aY L q)<|.aW<|CJ))<|.aZ<|Az h Bg fun h=>AY<|AX<|AO.block<|AX<|DN h (fun h=>AP h fun M u h=>AL<|.a 2<|.ca (aDD aS.Key M u)<|.aW<|CO) fun h=>AX<|Az h (fun h=>AP h fun O z h=>AL<|.a 2<|.ca (an4 aS.Key O z)<|.aW<|CO) fun h=>AX<|CO
def aNh (j:AU) (k2:(Int→Option Bool)):Int→Option Bool:=fun m=>(bif decide (m<(j.length:Int))then(Ai j m).bind fun q=>(bif decide (q<0)then some true else(bif decide (m>0)then(Ai j (Am (m-1))).bind fun u=>some (decide (u≥q))else some false).bind fun z=>some z).bind fun I=>(bif I then some false else k2 (Am (m+1)))else some true)
def abZ (j:AU):Int→Option Bool:=bD (aNh j) Aj
def uz (j:AU):Option Bool:=abZ j 0
def ac2 (ak r) (h:uz ak=some r):Ap 194 [Ba ak] [] (Ae r) []:=Ah.aI Tryz.func194 rfl<|AX<|AY<|AL<|.a 1<|.p (BK Ac ak BX rfl)<|.aW<|AO.block<|DZ (fun I=>⟨Aw 28 [(0,Ba ak),(5,Ba ak),(6,AV (ak.length:Int)),(7,AV I)],[],0⟩) _ _ _ (AZ 28 225 []) h<|fun J k2 j I h=>AX<|AY<|Bf h (fun h=>AY<|AO.block<|AP h fun O m h=>AL<|.a 1<|.p (BG Ac m BX CP rfl)<|.aW<|AL<|.a 2<|AP h fun L q h=>.mg 14 12 (Ae L) (.bi q (k2:=fun h=>.a 2<|AP h fun M u h=>.mg 17 8 (Ae M) (.bi u (fun h=>AP h fun U z h=>.a 3<|.p (BG Ac z BX CP rfl)<|.aW<|CJ))<|.aW<|CJ))<|.aZ<|Az h Bg fun h=>Ak<|.a 2<|.nil<|j _ _ (AZ 28 225 []) h) fun h=>EO
def o9 (j:Int):Option Bool:=(bif decide (j≥1)then some (decide (j≤14))else some false).bind fun m=>some m
def adt (dU r) (h:o9 dU=some r):Ap 251 [AV dU] [] (Ae r) []:=Ah.aI Tryz.func251 rfl<|AX<|AL<|.a 2<|AP h fun m j h=>.mg 5 3 (Ae m) (.bi j)<|.aW<|CO
def aF8 (j:CB):Option Bool:=(bif ((j.Users.length:Int)==0)then some ((j.Kinds.length:Int)==0)else some false).bind fun z=>(bif z then some (j.User==0)else some false).bind fun I=>(bif I then some (j.Message==0)else some false).bind fun J=>(bif J then some (j.State==0)else some false).bind fun L=>(bif L then some (j.gW==0)else some false).bind fun M=>(bif M then some (j.jL==0)else some false).bind fun m=>(bif m then some (j.mO==0)else some false).bind fun q=>(bif q then some (j.gy==0)else some false).bind fun u=>some u
def anX (ak r) (h:aF8 ak=some r):Ap 306 [I9 ak] [] (Ae r) []:=Ah.aI Tryz.func306 rfl<|AX<|AL<|.a 2<|.p (BK EK ak.Users FK rfl)<|.a 1<|AP h fun Y u h=>.mg 7 5 (Ae Y) (.bi u (fun h=>.a 2<|.p (BK ER ak.Kinds FI rfl)<|.aW<|CJ))<|.a 1<|AP h fun Z z h=>.mg 14 3 (Ae Z) (Cc z)<|.a 1<|AP h fun x5 I h=>.mg 19 3 (Ae x5) (Cc I)<|.a 1<|AP h fun x7 J h=>.mg 24 3 (Ae x7) (Cc J)<|.a 1<|AP h fun x9 L h=>.mg 29 3 (Ae x9) (Cc L)<|.a 1<|AP h fun M j h=>.mg 34 3 (Ae M) (Cc j)<|.a 1<|AP h fun O m h=>.mg 39 3 (Ae O) (Cc m)<|.a 1<|AP h fun U q h=>.mg 44 3 (Ae U) (Cc q)<|.aW<|CO
def aAp (j:Int):Option Int:=some j
def aC0 (j:CW) (q:Int):Option Int:=(aF8 j.Levels).bind fun m=>(bif (!m)then aAp (Ec .or .i64 q 128)else aAp q)
def aB6 (j:CW) (m:Int):Option Int:=(bif decide ((j.gY.length:Int)>0)then aC0 j (Ec .or .i64 m 64)else aC0 j m)
def aET (j:CW) (m:Int):Option Int:=(bif decide ((j.Allow.length:Int)>0)then aB6 j (Ec .or .i64 m 32)else aB6 j m)
def aDK (j:CW) (m:Int):Option Int:=(bif (!(j.Via.toList==Bv.toList))then aET j (Ec .or .i64 m 16)else aET j m)
def aEN (j:CW) (m:Int):Option Int:=(bif j.Thread then aDK j (Ec .or .i64 m 8)else aDK j m)
def aHv (j:CW) (m:Int):Option Int:=(bif (j.Target != 0)then aEN j (Ec .or .i64 m 4)else aEN j m)
def aF0 (j:CW) (m:Int):Option Int:=(bif (j.N != 0)then aHv j (Ec .or .i64 m 2)else aHv j m)
def xC (j:CW):Option Int:=(bif (!(j.Text.toList==Bv.toList))then aF0 j (Ec .or .i64 0 1)else aF0 j 0)
def adI (fA r) (h:xC fA=some r):Ap 252 [H7 fA] [] (AV r) []:=Ah.aI Tryz.func252 rfl<|AX<|AX<|Ch (fun s=>∃(j:Int),Bz s ⟨Aw 47 [(1,.ptr 0 0),(3,AV j)],[.box (BJ (F7 fA))],0⟩∧aF0 fA j=some r) (by rintro s ⟨j,hs,h⟩;exact CZ hs<|Ch (fun s=>∃(m:Int),Bz s ⟨Aw 47 [(1,.ptr 0 0),(3,AV m)],[.box (BJ (F7 fA))],0⟩∧aHv fA m=some r) (by rintro s ⟨m,hs,h⟩;exact CZ hs<|Ch (fun s=>∃(q:Int),Bz s ⟨Aw 47 [(1,.ptr 0 0),(3,AV q)],[.box (BJ (F7 fA))],0⟩∧aEN fA q=some r) (by rintro s ⟨q,hs,h⟩;exact CZ hs<|Ch (fun s=>∃(z:Int),Bz s ⟨Aw 47 [(1,.ptr 0 0),(3,AV z)],[.box (BJ (F7 fA))],0⟩∧aDK fA z=some r) (by rintro s ⟨z,hs,h⟩;exact CZ hs<|Ch (fun s=>∃(I:Int),Bz s ⟨Aw 47 [(1,.ptr 0 0),(3,AV I)],[.box (BJ (F7 fA))],0⟩∧aET fA I=some r) (by rintro s ⟨I,hs,h⟩;exact CZ hs<|Ch (fun s=>∃(J:Int),Bz s ⟨Aw 47 [(1,.ptr 0 0),(3,AV J)],[.box (BJ (F7 fA))],0⟩∧aB6 fA J=some r) (by rintro s ⟨J,hs,h⟩;exact CZ hs<|Ch (fun s=>∃(L:Int),Bz s ⟨Aw 47 [(1,.ptr 0 0),(3,AV L)],[.box (BJ (F7 fA))],0⟩∧aC0 fA L=some r) (by rintro s ⟨L,hs,h⟩;exact CZ hs<|Ch (fun s=>∃(v8:Int),Bz s ⟨Aw 47 [(3,AV v8)],[],0⟩∧aAp v8=some r) (by rintro s ⟨v8,hs,h⟩;exact CZ hs<|AX<|CO)<|fun K9=>AP h fun x10 M h=>AL<|.a 2<|.ca (anX fA.Levels x10 M)<|.aW<|Az h (fun h=>Ak<|.a 1<|.p (Vf (k:=.i64) (u:=L) (v:=128) rfl)<|.a 1<|.nil<|K9 _ ⟨(Ec .or .i64 L 128),AZ 47 8 [],h⟩) fun h=>K9 _ ⟨L,AZ 47 8 [],h⟩)<|fun O=>AL<|.a 2<|.p (BK Cx fA.gY FD rfl)<|.aW<|Az h (fun h=>Ak<|.a 1<|.p (Vf (k:=.i64) (u:=J) (v:=64) rfl)<|.a 1<|.nil<|O _ ⟨(Ec .or .i64 J 64),AZ 47 10 [(0,true)],h⟩) fun h=>O _ ⟨J,AZ 47 10 [(0,true)],h⟩)<|fun U=>AL<|.a 2<|.p (BK Cx fA.Allow FD rfl)<|.aW<|Az h (fun h=>Ak<|.a 1<|.p (Vf (k:=.i64) (u:=I) (v:=32) rfl)<|.a 1<|.nil<|U _ ⟨(Ec .or .i64 I 32),AZ 47 10 [(0,true)],h⟩) fun h=>U _ ⟨I,AZ 47 10 [(0,true)],h⟩)<|fun Y=>AX<|Az h (fun h=>Ak<|.a 1<|.p (Vf (k:=.i64) (u:=z) (v:=16) rfl)<|.a 1<|.nil<|Y _ ⟨(Ec .or .i64 z 16),AZ 47 10 [(0,true)],h⟩) fun h=>Y _ ⟨z,AZ 47 10 [(0,true)],h⟩)<|fun Z=>AX<|Az h (fun h=>Ak<|.a 1<|.p (Vf (k:=.i64) (u:=q) (v:=8) rfl)<|.a 1<|.nil<|Z _ ⟨(Ec .or .i64 q 8),AZ 47 10 [(0,true)],h⟩) fun h=>Z _ ⟨q,AZ 47 10 [(0,true)],h⟩)<|fun K20=>AX<|Az h (fun h=>Ak<|.a 1<|.p (Vf (k:=.i64) (u:=m) (v:=4) rfl)<|.a 1<|.nil<|K20 _ ⟨(Ec .or .i64 m 4),AZ 47 10 [(0,true)],h⟩) fun h=>K20 _ ⟨m,AZ 47 10 [(0,true)],h⟩)<|fun K22=>AX<|Az h (fun h=>Ak<|.a 1<|.p (Vf (k:=.i64) (u:=j) (v:=2) rfl)<|.a 1<|.nil<|K22 _ ⟨(Ec .or .i64 j 2),AZ 47 10 [(0,true)],h⟩) fun h=>K22 _ ⟨j,AZ 47 10 [(0,true)],h⟩)<|fun K24=>AX<|Az h (fun h=>Ak<|.a 1<|.p (Vf (k:=.i64) (u:=0) (v:=1) rfl)<|.a 1<|.nil<|K24 _ ⟨(Ec .or .i64 0 1),AZ 47 10 [(0,true)],h⟩) fun h=>K24 _ ⟨0,AZ 47 10 [(0,true)],h⟩
def aKs (j:ByteArray) (q:(Int→Option Int)):Int→Option Int:=fun m=>(bif decide (m<(j.size:Int))then(Hl j m).bind fun u=>(bif decide (u<33)then some true else(Hl j m).bind fun z=>some (decide (z>126))).bind fun I=>(bif I then some 3 else q (Am (m+1)))else some 0)
def aK7 (j:ByteArray):Int→Option Int:=bD (aKs j) Aj
def pV (j:ByteArray):Option Int:=(bif (j.toList==Bv.toList)then some 9 else(bif decide ((j.size:Int)>64)then some 7 else aK7 j 0))
def aa3 (ZV r) (h:pV ZV=some r):Ap 307 [CS ZV] [] (AV r) []:=Ah.aI Tryz.func307 rfl<|AX<|AY<|AO.block<|AX<|DN h Bg fun h=>AX<|Az h Bg fun h=>AY<|AX<|AO.block<|DZ (fun z=>⟨Aw 27 [(0,CS ZV),(12,AV (ZV.size:Int)),(13,AV z)],[],0⟩) _ _ _ (AZ 27 12289 []) h<|fun I L j z h=>AX<|AY<|Bf h (fun h=>AY<|AO.block<|AX<|AP h fun M m h=>AL<|.a 2<|.p (JB (k:=.i64) m GX rfl)<|.a 1<|AP h fun J q h=>.mg 20 5 (Ae J) (.bi q (k2:=fun h=>AP h fun O u h=>.a 2<|.p (JB (k:=.i64) u GX rfl)<|.aW<|CJ))<|.aZ<|Az h Bg fun h=>Ak<|.a 2<|.nil<|j _ _ (AZ 27 12289 []) h) fun h=>EO
def aLj (j:Fp) (u:(Int→Option Int)):Int→Option Int:=fun m=>(bif decide (m<(j.length:Int))then(Ai j m).bind fun z=>(pV z).bind fun q=>(bif (q != 0)then some q else u (Am (m+1)))else some 0)
def aaO (j:Fp):Int→Option Int:=bD (aLj j) Aj
def XI (j:Fp):Option Int:=(bif decide ((j.length:Int)>100)then some 7 else aaO j 0)
def ad9 (ak r) (h:XI ak=some r):Ap 259 [Hf ak] [] (AV r) []:=Ah.aI Tryz.func259 rfl<|AX<|AY<|AL<|.a 1<|.p (BK Cx ak FD rfl)<|.aW<|Az h Bg fun h=>AY<|AL<|.a 1<|.p (BK Cx ak FD rfl)<|.aW<|AO.block<|DZ (fun u=>⟨Aw 21 [(9,Hf ak),(10,AV (ak.length:Int)),(11,AV u)],[],0⟩) _ _ _ (AZ 21 3584 []) h<|fun J L j u h=>AX<|AY<|Bf h (fun h=>AY<|AO.block<|AP h fun z m h=>AL<|.p (BG Cx m FD JK rfl)<|.aW<|AP h fun I q h=>AL<|.a 1<|.ca (aa3 z I q)<|.aW<|AX<|Az h Bg fun h=>Ak<|.a 2<|.nil<|j _ _ (AZ 21 3584 []) h) fun h=>EO
def nE (j:Int):Option Bool:=(bif decide (j<(-1000))then some true else some (decide (j>1000))).bind fun m=>some m
def aIp (aiw r) (h:nE aiw=some r):Ap 310 [AV aiw] [] (Ae r) []:=Ah.aI Tryz.func310 rfl<|AX<|AL<|.a 2<|AP h fun m j h=>.mg 5 3 (Ae m) (.bi j)<|.aW<|CO
def aGK (m:H6) (q:(Int→Option Int)) (u:Int) (z:Bool):Option Int:=(bif z then some 8 else(nE m.N).bind fun j=>(bif j then some 2 else q (Am (u+1))))
abbrev NT:=List H6
def aIE (j:NT) (z:(Int→Option Int)):Int→Option Int:=fun m=>(bif decide (m<(j.length:Int))then(Ai j m).bind fun q=>(bQ q.User).bind fun I=>(bif (I != 0)then some 3 else(bif decide (m>0)then(Ai j (Am (m-1))).bind fun u=>aGK q z m (Op.bytesLess (q.User.toList) (u.User.toList)||q.User.toList==u.User.toList)else aGK q z m false))else some 0)
def ace (j:NT):Int→Option Int:=bD (aIE j) Aj
def aCw (j:NT):Option Int:=(bif decide ((j.length:Int)>100)then some 7 else ace j 0)
def afg (ak r) (h:aCw ak=some r):Ap 308 [OI ak] [] (AV r) []:=Ah.aI Tryz.func308 rfl<|AX<|AY<|AL<|.a 1<|.p (BK EK ak FK rfl)<|.aW<|Az h Bg fun h=>AY<|AL<|.a 1<|.p (BK EK ak FK rfl)<|.aW<|AO.block<|DZ (fun J=>⟨Aw 39 [(0,OI ak),(8,OI ak),(9,AV (ak.length:Int)),(10,AV J)],[],0⟩) _ _ _ (AZ 39 1793 []) h<|fun Z k3 L J h=>AX<|AY<|Bf h (fun h=>AY<|AO.block<|AP h fun m M h=>AL<|.a 1<|.p (BG EK M FK JA rfl)<|.aW<|AO.block<|AP h fun x6 O h=>AL<|.a 2<|.ca (aDD m.User x6 O)<|.aW<|DN h Bg fun h=>Ch (fun s=>∃(U:Bool),Bz s ⟨Aw 39 [(0,OI ak),(4,.ptr 0 0),(8,OI ak),(9,AV (ak.length:Int)),(10,AV J),(20,Ae U)],[.box (BJ (EK m))],0⟩∧aGK m k3 J U=some r) (by rintro s ⟨U,hs,h⟩;exact CZ hs<|DN h Bg fun h=>AP h fun Y q h=>AL<|.a 2<|.ca (aIp m.N Y q)<|.aW<|Az h Bg fun h=>Ak<|.a 2<|.nil<|L _ _ (AZ 39 1793 []) h)<|fun u=>Ef h (fun j h=>AP h fun z I h=>AO.draw AA AA AA (.a 2<|.c (BL some j)<|.a 5<|.p (BG EK I FK JA rfl)<|.a 5<|.nil _)<|u _ ⟨(Op.bytesLess (m.User.toList) (z.User.toList)||m.User.toList==z.User.toList),AZ 39 1050385 [(0,true)],h⟩) fun j h=>AO.draw AA AA AA (.a 2<|.c (BL some j)<|.a 11<|.nil _)<|u _ ⟨false,AZ 39 1050385 [(0,true)],h⟩) fun h=>EO
def aH1 (m:Ir) (q:(Int→Option Int)) (u:Int) (z:Bool):Option Int:=(bif z then some 8 else(nE m.N).bind fun j=>(bif j then some 2 else q (Am (u+1))))
abbrev NH:=List Ir
def aOg (j:NH) (z:(Int→Option Int)):Int→Option Int:=fun m=>(bif decide (m<(j.length:Int))then(Ai j m).bind fun q=>(o9 q.Kind).bind fun I=>(bif (!I)then some 1 else(bif decide (m>0)then(Ai j (Am (m-1))).bind fun u=>aH1 q z m (decide (q.Kind≤u.Kind))else aH1 q z m false))else some 0)
def adM (j:NH):Int→Option Int:=bD (aOg j) Aj
def aBh (j:NH):Option Int:=(bif decide ((j.length:Int)>100)then some 7 else adM j 0)
def as8 (ak r) (h:aBh ak=some r):Ap 309 [Oc ak] [] (AV r) []:=Ah.aI Tryz.func309 rfl<|AX<|AY<|AL<|.a 1<|.p (BK ER ak FI rfl)<|.aW<|Az h Bg fun h=>AY<|AL<|.a 1<|.p (BK ER ak FI rfl)<|.aW<|AO.block<|DZ (fun I=>⟨Aw 39 [(0,Oc ak),(8,Oc ak),(9,AV (ak.length:Int)),(10,AV I)],[],0⟩) _ _ _ (AZ 39 1793 []) h<|fun Z k3 J I h=>AX<|AY<|Bf h (fun h=>AY<|AO.block<|AP h fun m L h=>AL<|.a 1<|.p (BG ER L FI Jd rfl)<|.aW<|AO.block<|AP h fun x6 M h=>AL<|.a 2<|.ca (adt m.Kind x6 M)<|.aW<|DN h Bg fun h=>Ch (fun s=>∃(O:Bool),Bz s ⟨Aw 39 [(0,Oc ak),(4,.ptr 0 0),(8,Oc ak),(9,AV (ak.length:Int)),(10,AV I),(20,Ae O)],[.box (BJ (ER m))],0⟩∧aH1 m k3 I O=some r) (by rintro s ⟨O,hs,h⟩;exact CZ hs<|DN h Bg fun h=>AP h fun U q h=>AL<|.a 2<|.ca (aIp m.N U q)<|.aW<|Az h Bg fun h=>Ak<|.a 2<|.nil<|J _ _ (AZ 39 1793 []) h)<|fun u=>Ef h (fun j h=>AP h fun Y z h=>AO.draw AA AA AA (.a 2<|.c (BL some j)<|.a 5<|.p (BG ER z FI Jd rfl)<|.a 5<|.nil _)<|u _ ⟨(decide (m.Kind≤Y.Kind)),AZ 39 1050385 [(0,true)],h⟩) fun j h=>AO.draw AA AA AA (.a 2<|.c (BL some j)<|.a 11<|.nil _)<|u _ ⟨false,AZ 39 1050385 [(0,true)],h⟩) fun h=>EO
def aVB (j:CB) (q:(Int→Option Int)):Int→Option Int:=fun m=>(bif decide (m<7)then(Ai ([j.User,j.Message,j.State,j.gW,j.jL,j.mO,j.gy]:AU) m).bind fun u=>(nE u).bind fun z=>(bif z then some 2 else q (Am (m+1)))else some 0)
def aNf (j:CB):Int→Option Int:=bD (aVB j) Aj
def bT (j:CB):Option Int:=(aCw j.Users).bind fun m=>(bif (m != 0)then some m else(aBh j.Kinds).bind fun q=>(bif (q != 0)then some q else aNf j 0))
def agb (ak r) (h:bT ak=some r):Ap 260 [I9 ak] [] (AV r) []:=Ah.aI Tryz.func260 rfl<|AX<|AY<|AP h fun J j h=>AL<|.a 2<|.ca (afg ak.Users J j)<|.aW<|AX<|Az h Bg fun h=>AY<|AP h fun L m h=>AL<|.a 2<|.ca (as8 ak.Kinds L m)<|.aW<|AX<|Az h Bg fun h=>AY<|AX<|AO.block<|DZ (fun I=>⟨Aw 40 [(33,.d ((Md Ac) ([ak.User,ak.Message,ak.State,ak.gW,ak.jL,ak.mO,ak.gy]:(List Int)))),(34,AV I)],[],0⟩) _ _ _ (AZ 40 25769803776 []) h<|fun M Y q I h=>AX<|AY<|Bf h (fun h=>AY<|AO.block<|AP h fun O u h=>AL<|.p (aHM (k:=.i64) Ac u aAG CP AA rfl)<|.aW<|AP h fun U z h=>AL<|.a 1<|.ca (aIp O U z)<|.aZ<|Az h Bg fun h=>Ak<|.a 2<|.nil<|q _ _ (AZ 40 25769803776 []) h) fun h=>EO
def aEK (j:Bool):Option Int:=(bif j then some 7 else some 0)
def Qq (m:Int) (j:CW):Option Int:=(bif (m==9)then some (!(j.Text.toList==Bv.toList))else some false).bind fun u=>(bif u then(pV j.Text).bind fun z=>some z else(bif (m==12)then some (j.Text.toList==Bv.toList)else some false).bind fun I=>(bif I then some 9 else(bif (m==12)then some (decide ((j.Text.size:Int)>32))else some false).bind fun q=>(bif q then aEK q else aEK (decide ((j.Text.size:Int)>400)))))
def af9 (dU fC r) (h:Qq dU fC=some r):Ap 253 [AV dU,H7 fC] [] (AV r) []:=Ah.aI Tryz.func253 rfl<|AX<|AY<|AO.block<|AL<|.a 2<|AP h fun J q h=>.mg 8 4 (Ae J) (.bi q)<|.aW<|DN h (fun h=>AP h fun L u h=>AL<|.a 2<|.ca (aa3 fC.Text L u)<|.aW<|CO) fun h=>AL<|.a 2<|AP h fun M z h=>.mg 19 4 (Ae M) (.bi z)<|.aW<|DN h Bg fun h=>Ch (fun s=>∃(I:Bool),Bz s ⟨Aw 37 [(24,Ae I)],[],0⟩∧aEK I=some r) aV3<|fun K10=>AL<|.a 2<|AP h fun j m h=>.mg 27 5 (Ae j) (.bi m)<|.aW<|Bf h (fun h=>K10 _ ⟨j,AZ 37 16777216 [],h⟩) fun h=>Ak<|.a 5<|.nil<|K10 _ ⟨(decide ((fC.Text.size:Int)>400)),AZ 37 16777216 [],h⟩
def uj (j:CW) (m:Int) (q:Int):Option Int:=(bif decide (j.N<m)then some true else some (decide (j.N>q))).bind fun u=>(bif u then some 2 else some 0)
def OW (m:Int) (j:CW):Option Int:=(bif (m==2)then uj j 0 4 else(bif (m==8)then uj j 0 1000000000 else(bif (m==10)then uj j 1 10000 else(bif (m==9)then(bif (j.N==1)then some true else some (j.N==2)).bind fun q=>(bif q then some true else some (j.N==6)).bind fun u=>(bif u then some 0 else some 2)else uj j 0 3))))
def apu (dU fC r) (h:OW dU fC=some r):Ap 254 [AV dU,H7 fC] [] (AV r) []:=Ah.aI Tryz.func254 rfl<|AX<|AX<|Ch (fun s=>∃(q:Int) (u:Int),Bz s ⟨Aw 39 [(3,.ptr 0 0),(5,AV q),(6,AV u)],[.box (BJ (F7 fC))],0⟩∧uj fC q u=some r) (by rintro s ⟨q,u,hs,h⟩;exact CZ hs<|AY<|AL<|.a 4<|AP h fun L z h=>.mg 33 5 (Ae L) (.bi z)<|.aZ<|JL)<|fun K6=>AX<|AO.block<|AX<|DN h (fun h=>Ak<|.a 1<|.nil<|K6 _ ⟨0,4,AZ 39 104 [(0,true)],h⟩) fun h=>AX<|DN h (fun h=>Ak<|.a 1<|.nil<|K6 _ ⟨0,1000000000,AZ 39 104 [(0,true)],h⟩) fun h=>AX<|DN h (fun h=>Ak<|.a 2<|.nil<|K6 _ ⟨1,10000,AZ 39 104 [(0,true)],h⟩) fun h=>AX<|Az h (fun h=>AY<|AX<|AL<|.a 2<|AP h fun I j h=>.mg 21 3 (Ae I) (.bi j)<|.a 1<|AP h fun J m h=>.mg 26 2 (Ae J) (Cc m)<|.aZ<|JL) fun h=>K6 _ ⟨0,3,AZ 39 104 [(0,true)],h⟩
def Rs (m:Int) (j:CW):Option Int:=(bif decide (j.Target<0)then some true else(bif (j.Target==0)then some (m != 11)else some false).bind fun q=>some q).bind fun u=>(bif u then some 2 else some 0)
def anL (dU fC r) (h:Rs dU fC=some r):Ap 255 [AV dU,H7 fC] [] (AV r) []:=Ah.aI Tryz.func255 rfl<|AX<|AY<|AL<|.a 3<|AP h fun q j h=>.mg 8 8 (Ae q) (.bi j (k2:=fun h=>.a 3<|AP h fun u m h=>.mg 12 3 (Ae u) (.bi m)<|.aW<|CJ))<|.aZ<|JL
def ZL (m:Int) (j:CW):Option Int:=(bif j.Thread then some (j.Target==0)else some false).bind fun q=>(bif q then some 1 else some 0)
def aiK (dU fC r) (h:ZL dU fC=some r):Ap 256 [AV dU,H7 fC] [] (AV r) []:=Ah.aI Tryz.func256 rfl<|AX<|AY<|AL<|.a 2<|AP h fun m j h=>.mg 7 4 (Ae m) (.bi j)<|.aZ<|JL
def Zu (m:Int) (j:CW):Option Int:=(bif (j.Via.toList==Bv.toList)then some 0 else(bif (j.N != 3)then some 1 else(bQ j.Via).bind fun q=>some q))
def aiE (dU fC r) (h:Zu dU fC=some r):Ap 257 [AV dU,H7 fC] [] (AV r) []:=Ah.aI Tryz.func257 rfl<|AX<|AY<|AO.block<|AX<|DN h Bg fun h=>AX<|Az h Bg fun h=>AP h fun m j h=>AL<|.a 2<|.ca (aDD fC.Via m j)<|.aW<|CO
def aMi (j:CW) (J:(Int→Option Int)):Int→Option Int:=fun q=>(bif decide (q<(j.Allow.length:Int))then(Ai j.Allow q).bind fun m=>(ny m).bind fun z=>(bif (z != 0)then some 3 else(bif decide (q>0)then(Ai j.Allow (Am (q-1))).bind fun u=>some (Op.bytesLess (m.toList) (u.toList)||m.toList==u.toList)else some false).bind fun I=>(bif I then some 8 else J (Am (q+1))))else some 0)
def aar (j:CW):Int→Option Int:=bD (aMi j) Aj
def Vo (m:Int) (j:CW):Option Int:=(bif (m==6)then(XI j.Allow).bind fun q=>some q else(bif decide ((j.Allow.length:Int)>0)then some (j.N != 3)else some false).bind fun u=>(bif u then some 1 else(bif decide ((j.Allow.length:Int)>100)then some 7 else aar j 0)))
def anN (dU fC r) (h:Vo dU fC=some r):Ap 258 [AV dU,H7 fC] [] (AV r) []:=Ah.aI Tryz.func258 rfl<|AX<|AY<|AO.block<|AX<|DN h (fun h=>AP h fun Y z h=>AL<|.a 2<|.ca (ad9 fC.Allow Y z)<|.aW<|CO) fun h=>AL<|.a 2<|.p (BK Cx fC.Allow FD rfl)<|.a 1<|AP h fun Z I h=>.mg 18 4 (Ae Z) (.bi I)<|.aW<|DN h Bg fun h=>AL<|.a 2<|.p (BK Cx fC.Allow FD rfl)<|.aW<|Az h Bg fun h=>AY<|AL<|.a 2<|.p (BK Cx fC.Allow FD rfl)<|.aW<|AO.block<|DZ (fun U=>⟨Aw 52 [(3,.ptr 0 0),(29,Hf fC.Allow),(30,AV (fC.Allow.length:Int)),(31,AV U)],[.box (BJ (F7 fC))],0⟩) _ _ _ (AZ 52 3758096392 [(0,true)]) h<|fun J17 k8 J U h=>AX<|AY<|Bf h (fun h=>AY<|AO.block<|AP h fun L j h=>AL<|.a 1<|.p (BG Cx j FD JK rfl)<|.aW<|AY<|AP h fun M m h=>AL<|.a 1<|.ca (aQf L M m)<|.aW<|Az h Bg fun h=>AL<|.a 2<|AP h fun O q h=>.mg 41 9 (Ae O) (.bi q (fun h=>AP h fun x15 u h=>.a 5<|.p (BG Cx u FD JK rfl)<|.aW<|CJ))<|.aZ<|Az h Bg fun h=>Ak<|.a 2<|.nil<|J _ _ (AZ 52 3758096392 [(0,true)]) h) fun h=>EO
def aBH (n:Nat) (a0:Int) (j:CW):Option Int:=bif n==253 then Qq a0 j else bif n==254 then OW a0 j else bif n==255 then Rs a0 j else bif n==256 then ZL a0 j else bif n==257 then Zu a0 j else bif n==258 then Vo a0 j else none
def ak0 (n a0 j r) (h:aBH n a0 j=some r):WY Tryz.prog Ac F7 Ac (acz n) (aBH n):=by
 by_cases q:n=253
 ·subst q;exact⟨253,[],rfl,ahy,fun a0 j c m=>af9 a0 j c m⟩
 by_cases u:n=254
 ·subst u;exact⟨254,[],rfl,asJ,fun a0 j c m=>apu a0 j c m⟩
 by_cases z:n=255
 ·subst z;exact⟨255,[],rfl,afw,fun a0 j c m=>anL a0 j c m⟩
 by_cases I:n=256
 ·subst I;exact⟨256,[],rfl,ant,fun a0 j c m=>aiK a0 j c m⟩
 by_cases J:n=257
 ·subst J;exact⟨257,[],rfl,aeh,fun a0 j c m=>aiE a0 j c m⟩
 by_cases L:n=258
 ·subst L;exact⟨258,[],rfl,aek,fun a0 j c m=>anN a0 j c m⟩
 rw[aBH,jr q,jr u,jr z,jr I,jr J,jr L]at h;have h:(none:Option Int)=some r:=h;cases h
def ZX :(List OQ):=[(⟨1,253⟩:OQ),(⟨2,254⟩:OQ),(⟨4,255⟩:OQ),(⟨8,256⟩:OQ),(⟨16,257⟩:OQ),(⟨32,258⟩:OQ)]
def aPi (j:(Int→CW→Option Int)) (m:Int) (q:CW):Option Int:=j (Am (m+1)) q
def Xn (J:Int) (q:Int) (u:(Int→CW→Option Int)):Int→CW→Option Int:=fun m j=>(bif decide (m<(ZX.length:Int))then(Ai ZX m).bind fun z=>(bif ((Ec .and .i64 J z.aBo)==0)then aPi u m j else(aBH z.atm q j).bind fun I=>(bif (I != 0)then some I else aPi u m j))else(bif ((Ec .and .i64 J 64) != 0)then(XI j.gY).bind fun L=>some L else(bif ((Ec .and .i64 J 128) != 0)then(bT j.Levels).bind fun M=>some M else some 0)))
def ML (m:Int) (j:Int):Int→CW→Option Int:=aU (Xn m j) Aj
def LH (j:Int) (m:CW):Option Int:=(jI j).bind fun u=>(o9 j).bind fun z=>(bif (!z)then some true else(xC m).bind fun I=>some ((Ec .andNot .i64 I u) != 0)).bind fun J=>(bif J then some 1 else(xC m).bind fun L=>(bif (L==0)then(iw j).bind fun q=>some (q==0)else some false).bind fun M=>(bif M then some 0 else ML u j 0 m))
def apI (dU fC r) (h:LH dU fC=some r):Ap 195 [AV dU,H7 fC] [] (AV r) []:=Ah.aI Tryz.func195 rfl<|AX<|AP h fun z Z h=>AL<|.a 1<|.ca (aVH dU z Z)<|.aW<|AY<|AP h fun x2 hx2 h=>AL<|.a 1<|.ca (adt dU x2 hx2)<|.a 1<|AP h fun x3 hx3 h=>.mg 15 6 (Ae x3) (.bi hx3 (k2:=fun h=>AP h fun x5 hx5 h=>.a 1<|.ca (adI fC x5 hx5)<|.a 1<|.p (akt (k:=.i64) (u:=x5) (v:=z) rfl)<|.aW<|CJ))<|.aZ<|Az h Bg fun h=>AY<|AP h fun x7 hx7 h=>AL<|.a 1<|.ca (adI fC x7 hx7)<|.a 1<|AP h fun x8 sV h=>.mg 25 4 (Ae x8) (.bi sV (fun h=>AP h fun x10 I h=>.a 1<|.ca (aUC dU x10 I)<|.aW<|CJ))<|.aZ<|Az h Bg fun h=>AL<|.a 6<|.p (DY agW aID [Ud (⟨1,253⟩:OQ),Ud (⟨2,254⟩:OQ),Ud (⟨4,255⟩:OQ),Ud (⟨8,256⟩:OQ),Ud (⟨16,257⟩:OQ),Ud (⟨32,258⟩:OQ)] rfl)<|.aW<|AY<|AL<|.a 1<|.p (BK Ud ZX adf rfl)<|.aW<|AO.block<|DR (fun m j=>⟨Aw 69 [(0,AV dU),(3,.ptr 0 0),(5,AV z),(37,.d ((BQ Ud) ZX)),(38,AV (ZX.length:Int)),(39,AV m)],[.box (BJ (F7 j))],0⟩) _ _ _ _ (AZ 69 962072674345 [(0,true)]) h<|fun J25 k14 J m j h=>AX<|AY<|Bf h (fun h=>Ch (fun s=>Bz s ⟨Aw 69 [(0,AV dU),(3,.ptr 0 0),(5,AV z),(37,.d ((BQ Ud) ZX)),(38,AV (ZX.length:Int)),(39,AV m)],[.box (BJ (F7 j))],0⟩∧aPi k14 m j=some r) (by rintro s ⟨hs,h⟩;exact CZ hs<|Ak<|.a 2<|.nil<|J _ _ _ (AZ 69 962072674345 [(0,true)]) h)<|fun L=>AO.block<|AP h fun M O h=>AL<|.p (BG Ud O adf aUV rfl)<|.aW<|AY<|AL<|.a 3<|.p (Qd (k:=.i64) (u:=z) (v:=M.aBo) rfl)<|.aW<|Az h (fun h=>AO.exit<|L _ ⟨AZ 69 962072674345 [(0,true)],h⟩) fun h=>AP h fun x19 q h=>AL<|.a 4<|.p (Xj (ak0 M.atm dU j x19 q) q rfl)<|.aW<|AX<|Az h Bg fun h=>L _ ⟨AZ 69 962072674345 [(0,true)],h⟩) fun h=>AO.exit<|AY<|AL<|.a 1<|.p (Qd (k:=.i64) (u:=z) (v:=64) rfl)<|.aW<|Az h (fun h=>AP h fun qQ U h=>AL<|.a 2<|.ca (ad9 j.gY qQ U)<|.aW<|CO) fun h=>AY<|AL<|.a 1<|.p (Qd (k:=.i64) (u:=z) (v:=128) rfl)<|.aW<|Az h (fun h=>AP h fun x24 Y h=>AL<|.a 2<|.ca (agb j.Levels x24 Y)<|.aW<|CO) fun h=>AX<|CO
def Xv (j:AQ) (O:Bool):Option Int:=(bif O then some 1 else(aDL j).bind fun U=>(bif (!U)then some 3 else(bif decide (j.Time<0)then some true else some (decide (j.Time>1000000000))).bind fun Y=>(bif Y then some true else some (decide (j.Depth<1))).bind fun Z=>(bif Z then some true else some (decide (j.Depth>100000))).bind fun m=>(bif m then some 2 else(bif decide ((j.bM.length:Int)>10)then some true else some (decide ((j.bK.length:Int)>8))).bind fun q=>(bif q then some 7 else(uz j.bM).bind fun u=>(bif (!u)then some true else(uz j.bK).bind fun z=>some (!z)).bind fun I=>(bif I then some 8 else(bif ((j.bM.length:Int)==0)then some (j.Kind != 1)else some false).bind fun J=>(bif J then some 9 else(bif (j.Kind==1)then some (decide ((Am ((j.bM.length:Int)+(j.bK.length:Int)))>0))else some false).bind fun L=>(bif L then some 6 else(LH j.Kind j.Content).bind fun M=>some M)))))))
def aBz (j:AQ):Option Int:=(bif (j.Kind==2)then some true else some (j.Kind==9)).bind fun q=>(bif decide (j.Kind<1)then Xv j true else(bif decide (j.Kind>14)then Xv j true else(dF j.Kind).bind fun m=>(bif (!(j.State==m))then Xv j true else(bif (!(j.Key.toList==Bv.toList))then Xv j (!q)else Xv j false))))
def asE (aS r) (h:aBz aS=some r):Ap 153 [DC aS] [] (AV r) []:=Ah.aI Tryz.func153 rfl<|AX<|AL<|.a 3<|AP h fun x1 hx1 h=>.mg 7 4 (Ae x1) (.bi hx1)<|.aW<|AY<|AO.block<|Ch (fun s=>∃(v3:Bool),Bz s ⟨Aw 112 [(1,.ptr 0 0),(12,Ae v3)],[.box (BJ (BD aS))],0⟩∧Xv aS v3=some r) (by rintro s ⟨v3,hs,h⟩;exact CZ hs<|DN h Bg fun h=>AP h fun x5 hx5 h=>AL<|.a 1<|.ca (agX aS x5 hx5)<|.aW<|DN h Bg fun h=>AL<|.a 3<|AP h fun x7 hx7 h=>.mg 46 4 (Ae x7) (.bi hx7)<|.a 1<|AP h fun x9 mX h=>.mg 52 3 (Ae x9) (Cc mX)<|.a 1<|AP h fun x11 L h=>.mg 57 3 (Ae x11) (Cc L)<|.aW<|DN h Bg fun h=>AL<|.a 2<|.p (BK Ac aS.bM BX rfl)<|.a 1<|AP h fun x14 M h=>.mg 66 5 (Ae x14) (.bi M (k2:=fun h=>.a 2<|.p (BK Ac aS.bK BX rfl)<|.aW<|CJ))<|.aW<|DN h Bg fun h=>AP h fun x17 O h=>AL<|.a 2<|.ca (ac2 aS.bM x17 O)<|.a 1<|AP h fun x18 U h=>.mg 77 5 (Ae x18) (.bi U (k2:=fun h=>AP h fun uP Y h=>.a 2<|.ca (ac2 aS.bK uP Y)<|.aW<|CJ))<|.aW<|DN h Bg fun h=>AL<|.a 2<|.p (BK Ac aS.bM BX rfl)<|.a 1<|AP h fun qQ Z h=>.mg 88 4 (Ae qQ) (.bi Z)<|.aW<|DN h Bg fun h=>AL<|.a 3<|AP h fun x25 hx25 h=>.mg 97 9 (Ae x25) (.bi hx25 (fun h=>.a 2<|.p (BK Ac aS.bM BX rfl)<|.a 2<|.p (BK Ac aS.bK BX rfl)<|.aW<|CJ))<|.aW<|Az h Bg fun h=>AP h fun x28 hx28 h=>AL<|.a 4<|.ca (apI aS.Kind aS.Content x28 hx28)<|.aW<|CO)<|fun u=>Ef h (fun j h=>AO.draw AA AA AA (.a 3<|.c (BL some j)<|.a 22<|.nil _)<|u _ ⟨true,AZ 112 4098 [(0,true)],h⟩) fun j h=>Ef h (fun m h=>AO.draw AA AA AA (.a 3<|.c (BL some j)<|.a 4<|.c (BL some m)<|.a 17<|.nil _)<|u _ ⟨true,AZ 112 4098 [(0,true)],h⟩) fun m h=>AP h fun J z h=>Ef h (fun q h=>AO.draw AA AA AA (.a 3<|.c (BL some j)<|.a 4<|.c (BL some m)<|.a 4<|.ca (lG aS.Kind J z)<|.a 2<|.c (BL some q)<|.a 9<|.nil _)<|u _ ⟨true,AZ 112 4098 [(0,true)],h⟩) fun q h=>Ef h (fun I h=>AO.draw AA AA AA (.a 3<|.c (BL some j)<|.a 4<|.c (BL some m)<|.a 4<|.ca (lG aS.Kind J z)<|.a 2<|.c (BL some q)<|.a 3<|.c (BL some I)<|.a 5<|.nil _)<|u _ ⟨(!x1),AZ 112 4098 [(0,true)],h⟩) fun I h=>AO.draw AA AA AA (.a 3<|.c (BL some j)<|.a 4<|.c (BL some m)<|.a 4<|.ca (lG aS.Kind J z)<|.a 2<|.c (BL some q)<|.a 3<|.c (BL some I)<|.a 5<|.nil _)<|u _ ⟨false,AZ 112 4098 [(0,true)],h⟩
def aLH (j:Fp) (m:Fp) (u:(Int→Option Bool)):Int→Option Bool:=fun q=>(bif decide (q<(j.length:Int))then(Ai j q).bind fun z=>(Ai m q).bind fun I=>(bif (!(z.toList==I.toList))then some false else u (Am (q+1)))else some true)
def aTo (j:Fp) (m:Fp):Int→Option Bool:=bD (aLH j m) Aj
def vF (j:Fp) (m:Fp):Option Bool:=(bif ((j.length:Int) != (m.length:Int))then some false else aTo j m 0)
def aVy (fK fJ r) (h:vF fK fJ=some r):Ap 196 [Hf fK,Hf fJ] [] (Ae r) []:=Ah.aI Tryz.func196 rfl<|AX<|AY<|AL<|.a 1<|.p (BK Cx fK FD rfl)<|.a 1<|.p (BK Cx fJ FD rfl)<|.aW<|Az h Bg fun h=>AY<|AL<|.a 1<|.p (BK Cx fK FD rfl)<|.aW<|AO.block<|DZ (fun u=>⟨Aw 26 [(0,Hf fK),(1,Hf fJ),(12,AV (fK.length:Int)),(13,AV u)],[],0⟩) _ _ _ (AZ 26 12291 []) h<|fun z I j u h=>AX<|AY<|Bf h (fun h=>AY<|AO.block<|AX<|Bh h fun J m L q h=>Ew AA AA AA (.a 2<|.p (BG Cx m FD JK rfl)<|.a 3<|.p (BG Cx q FD JK rfl)<|.a 2<|.nil _)<|Az h Bg fun h=>Ak<|.a 2<|.nil<|j _ _ (AZ 26 12291 []) h) fun h=>EO
def aPd (j:NT) (m:NT) (u:(Int→Option Bool)):Int→Option Bool:=fun q=>(bif decide (q<(j.length:Int))then(Ai j q).bind fun z=>(Ai m q).bind fun I=>(bif (!aEg z I)then some false else u (Am (q+1)))else some true)
def aUQ (j:NT) (m:NT):Int→Option Bool:=bD (aPd j m) Aj
def aCg (j:NT) (m:NT):Option Bool:=(bif ((j.length:Int) != (m.length:Int))then some false else aUQ j m 0)
def ajO (fK fJ r) (h:aCg fK fJ=some r):Ap 197 [OI fK,OI fJ] [] (Ae r) []:=Ah.aI Tryz.func197 rfl<|AX<|AY<|AL<|.a 1<|.p (BK EK fK FK rfl)<|.a 1<|.p (BK EK fJ FK rfl)<|.aW<|Az h Bg fun h=>AY<|AL<|.a 1<|.p (BK EK fK FK rfl)<|.aW<|AO.block<|DZ (fun I=>⟨Aw 26 [(0,OI fK),(1,OI fJ),(12,AV (fK.length:Int)),(13,AV I)],[],0⟩) _ _ _ (AZ 26 12291 []) h<|fun J L q I h=>AX<|AY<|Bf h (fun h=>AY<|AO.block<|AX<|Bh h fun j u m z h=>Ew AA AA AA (.a 2<|.p (BG EK u FK JA rfl)<|.a 3<|.p (BG EK z FK JA rfl)<|.a 1<|.p (x:=(Ae (!aEg j m))) (aOL [.string j.User,.int .i64 j.N] [.string m.User,.int .i64 m.N] (ajJ j m) BU ajv rfl)<|.nil _)<|Az h Bg fun h=>Ak<|.a 2<|.nil<|q _ _ (AZ 26 12291 []) h) fun h=>EO
def aNd (j:NH) (m:NH) (u:(Int→Option Bool)):Int→Option Bool:=fun q=>(bif decide (q<(j.length:Int))then(Ai j q).bind fun z=>(Ai m q).bind fun I=>(bif (!aFJ z I)then some false else u (Am (q+1)))else some true)
def aSe (j:NH) (m:NH):Int→Option Bool:=bD (aNd j m) Aj
def aCs (j:NH) (m:NH):Option Bool:=(bif ((j.length:Int) != (m.length:Int))then some false else aSe j m 0)
def alY (fK fJ r) (h:aCs fK fJ=some r):Ap 198 [Oc fK,Oc fJ] [] (Ae r) []:=Ah.aI Tryz.func198 rfl<|AX<|AY<|AL<|.a 1<|.p (BK ER fK FI rfl)<|.a 1<|.p (BK ER fJ FI rfl)<|.aW<|Az h Bg fun h=>AY<|AL<|.a 1<|.p (BK ER fK FI rfl)<|.aW<|AO.block<|DZ (fun I=>⟨Aw 26 [(0,Oc fK),(1,Oc fJ),(12,AV (fK.length:Int)),(13,AV I)],[],0⟩) _ _ _ (AZ 26 12291 []) h<|fun J L q I h=>AX<|AY<|Bf h (fun h=>AY<|AO.block<|AX<|Bh h fun j u m z h=>Ew AA AA AA (.a 2<|.p (BG ER u FI Jd rfl)<|.a 3<|.p (BG ER z FI Jd rfl)<|.a 1<|.p (x:=(Ae (!aFJ j m))) (aOL [.int .i64 j.Kind,.int .i64 j.N] [.int .i64 m.Kind,.int .i64 m.N] (ara j m) BU ao9 rfl)<|.nil _)<|Az h Bg fun h=>Ak<|.a 2<|.nil<|q _ _ (AZ 26 12291 []) h) fun h=>EO
def aF4 (j:CW) (m:CW):Option Bool:=(bif (!(j.Text.toList==m.Text.toList))then some true else some (j.N != m.N)).bind fun x1=>(bif x1 then some true else some (j.Target != m.Target)).bind fun x3=>(bif x3 then some true else some (!(j.Thread==m.Thread))).bind fun x5=>(bif x5 then some true else some (!(j.Via.toList==m.Via.toList))).bind fun x7=>(bif x7 then some true else(vF j.Allow m.Allow).bind fun q=>some (!q)).bind fun x9=>(bif x9 then some true else(vF j.gY m.gY).bind fun u=>some (!u)).bind fun z=>(bif z then some false else(aCg j.Levels.Users m.Levels.Users).bind fun I=>(bif I then(aCs j.Levels.Kinds m.Levels.Kinds).bind fun J=>some J else some false).bind fun L=>(bif L then some (j.Levels.User==m.Levels.User)else some false).bind fun M=>(bif M then some (j.Levels.Message==m.Levels.Message)else some false).bind fun O=>(bif O then some (j.Levels.State==m.Levels.State)else some false).bind fun U=>(bif U then some (j.Levels.gW==m.Levels.gW)else some false).bind fun Y=>(bif Y then some (j.Levels.jL==m.Levels.jL)else some false).bind fun Z=>(bif Z then some (j.Levels.mO==m.Levels.mO)else some false).bind fun PI=>(bif PI then some (j.Levels.gy==m.Levels.gy)else some false).bind fun x32=>some x32)
def aqp (fK fJ r) (h:aF4 fK fJ=some r):Ap 154 [H7 fK,H7 fJ] [] (Ae r) []:=Ah.aI Tryz.func154 rfl<|AX<|AO.atj [] 108 0x68383206638310641830062182f064302e062302d05c082c05a082b060102a05e1029060302805c182805e302705a182705c202605a28250580024056002305818220500822056182104e0821058202004c0820056281f04a081f054301e050101e052301d04e101d050201c04c181c04e281b04a181b04c281a04a201a048181904400190461818042001804820170400017046281603e0016044101503c0815042101403a0814044201304018130380813042281203e18120360812040281103e2011034081103c2010038101003a280f036100f038280e036200e034180e032100d02a000d030100c028000c032200b02e180b026000b030280a02c180a024000a02e280902c2009022000902a2008026100802008080282807024100701e080702628060242006022180601c0806020280501e200501c100501a2004016100401000040182803014100300e000301628020142002012180200c0002010280100e200100c100100a08010082800006200000410000020000 [51,52] ⟨Aw 121 [(2,.ptr 0 0),(3,.ptr 1 0),(5,.ptr 2 0),(6,.ptr 3 0)],[.box (BJ (F7 fK)),.box (BJ (F7 fJ)),.box (BJ (EZ fK.Levels)),.box (BJ (EZ fJ.Levels))],0⟩ ⟨ku (AZ 121 108 [(0,true),(1,true),(2,true),(3,true)]),ku (AZ 121 108 [(0,true),(1,true),(3,true),(2,true)]),trivial⟩<|AY<|AL<|.a 5<|AP h fun x1 hx1 h=>.mg 16 6 (Ae x1) (.bi hx1)<|.a 1<|AP h fun x3 hx3 h=>.mg 24 5 (Ae x3) (Cc hx3)<|.a 1<|AP h fun x5 hx5 h=>.mg 31 5 (Ae x5) (Cc hx5)<|.a 1<|AP h fun x7 hx7 h=>.mg 38 5 (Ae x7) (Cc hx7)<|.a 1<|AP h fun x9 mX h=>.mg 45 6 (Ae x9) (Cc mX (k2:=fun e i=>by subst e;have h:=i;exact AP h fun x11 j h=>.a 4<|.ca (aVy fK.Allow fJ.Allow x11 j)<|.aW<|CJ))<|.a 1<|AP h fun x12 m h=>.mg 53 6 (Ae x12) (Cc m (k2:=fun e i=>by subst e;have h:=i;exact AP h fun x14 q h=>.a 4<|.ca (aVy fK.gY fJ.gY x14 q)<|.aW<|CJ))<|.aZ<|Az h Bg fun h=>AP h fun x16 u h=>AL<|.a 4<|.ca (ajO fK.Levels.Users fJ.Levels.Users x16 u)<|.a 1<|AP h fun x17 z h=>.mg 66 5 (Ae x17) (Cc z (fun e i=>by subst e;have h:=i;exact AP h fun x19 I h=>.a 4<|.ca (alY fK.Levels.Kinds fJ.Levels.Kinds x19 I)<|.aW<|CJ))<|.a 1<|AP h fun uP J h=>.mg 73 5 (Ae uP) (Cc J)<|.a 1<|AP h fun qQ L h=>.mg 80 5 (Ae qQ) (Cc L)<|.a 1<|AP h fun x24 M h=>.mg 87 5 (Ae x24) (Cc M)<|.a 1<|AP h fun Bd O h=>.mg 94 5 (Ae Bd) (Cc O)<|.a 1<|AP h fun x28 U h=>.mg 101 5 (Ae x28) (Cc U)<|.a 1<|AP h fun PI Y h=>.mg 108 5 (Ae PI) (Cc Y)<|.a 1<|AP h fun x32 Z h=>.mg 115 5 (Ae x32) (Cc Z)<|.aW<|CO
def gG (j:ByteArray):Option ByteArray:=(lJ j uK).bind fun m=>some m.2.1
def aJx (CQ r) (h:gG CQ=some r):Ap 155 [CS CQ] [] (CS r) []:=Ah.aI Tryz.func155 rfl<|AX<|AP h fun m j h=>AL<|.a 1<|.ca (aac CQ uK m j)<|.aW<|AX<|CO
def dJ (j:AQ) (m:Bool):Option Int:=(bif m then some 6 else(yJ j).bind fun q=>(bif (q != j.Id)then some 11 else(gG j.aY).bind fun u=>(bif (!aAe j.pz (⟨u,j.Id⟩:Ny))then some 12 else some 0)))
def aEj (j:AQ):Option Int:=(aBz j).bind fun z=>(bif (z != 0)then some z else(kK j).bind fun m=>(bif (!m)then(uI j.Kind j.Content).bind fun q=>(aF4 j.Content q).bind fun u=>dJ j (!u)else dJ j false))
def ajt (aS r) (h:aEj aS=some r):Ap 124 [DC aS] [] (AV r) []:=Ah.aI Tryz.func124 rfl<|AX<|AY<|AP h fun Z M h=>AL<|.a 1<|.ca (asE aS Z M)<|.aW<|AX<|Az h Bg fun h=>AY<|AO.block<|Ch (fun s=>∃(O:Bool),Bz s ⟨Aw 40 [(1,.ptr 0 0),(9,Ae O)],[.box (BJ (BD aS))],0⟩∧dJ aS O=some r) (by rintro s ⟨O,hs,h⟩;exact CZ hs<|DN h Bg fun h=>AP h fun x5 U h=>Ew AA AA AA (.a 1<|.ca (acI aS x5 U)<|.a 4<|.nil _)<|DN h Bg fun h=>AP h fun q Y h=>Ew AA AA AA (.a 4<|.ca (aJx aS.aY q Y)<|.a 3<|.p (x:=(Ae (!aAe aS.pz (⟨q,aS.Id⟩:Ny)))) (aOL [.string aS.pz.Server,.int .i64 aS.pz.Sum] [.string ((⟨q,aS.Id⟩:Ny).Server),.int .i64 ((⟨q,aS.Id⟩:Ny).Sum)] (aia aS.pz (⟨q,aS.Id⟩:Ny)) BU ajW rfl)<|.a 1<|.nil _)<|JL)<|fun K9=>AP h fun u m h=>Ef h (fun j h=>Bh h fun z I J L h=>AO.draw AA AA AA (.a 1<|.ca (aBu aS u m)<|.a 1<|.c (BL some j)<|.a 6<|.ca (aby aS.Kind aS.Content z I)<|.ca (aqp aS.Content z J L)<|.a 3<|.nil _)<|K9 _ ⟨(!J),AZ 40 514 [(0,true)],h⟩) fun j h=>AO.draw AA AA AA (.a 1<|.ca (aBu aS u m)<|.a 1<|.c (BL some j)<|.a 11<|.nil _)<|K9 _ ⟨false,AZ 40 514 [(0,true)],h⟩
def aCN (j:Ad) (q:(Int→Option Int)):Int→Option Int:=fun m=>(bif decide (m<(j.length:Int))then(Ai j m).bind fun u=>(Ai j (Am (m-1))).bind fun z=>(bif decide (u.Id≤z.Id)then some 8 else q (Am (m+1)))else some 0)
def aDQ (j:Ad):Int→Option Int:=bD (aCN j) Aj
def Z5 (j:Ad) (z:(Int→Option Int)):Int→Option Int:=fun m=>(bif decide (m<(j.length:Int))then(Ai j m).bind fun q=>(Ai j 0).bind fun u=>(bif (!(q.Room.toList==u.Room.toList))then some 13 else z (Am (m+1)))else aDQ j 1)
def vT (j:Ad):Int→Option Int:=bD (Z5 j) Aj
def uY (j:Ad) (u:(Int→Option Int)):Int→Option Int:=fun m=>(bif decide (m<(j.length:Int))then(Ai j m).bind fun z=>(aEj z).bind fun q=>(bif (q != 0)then some q else u (Am (m+1)))else vT j 0)
def aLR (j:Ad):Int→Option Int:=bD (uY j) Aj
def QL (j:Ad):Option Int:=(bif decide ((j.length:Int)>2000)then some 7 else aLR j 0)
def amN (ak r) (h:QL ak=some r):Ap 83 [BF ak] [] (AV r) []:=Ah.aI Tryz.func83 rfl<|AX<|AY<|AL<|.a 1<|.p (BK BD ak Bq rfl)<|.aW<|Az h Bg fun h=>AY<|AL<|.a 1<|.p (BK BD ak Bq rfl)<|.aW<|AO.block<|DZ (fun U=>⟨Aw 56 [(0,BF ak),(12,BF ak),(13,AV (ak.length:Int)),(14,AV U)],[],0⟩) _ _ _ (AZ 56 28673 []) h<|fun Z k3 J U h=>AX<|AY<|Bf h (fun h=>AY<|AO.block<|AP h fun x5 L h=>AL<|.p (BG BD L Bq Cb rfl)<|.aW<|AP h fun x6 M h=>AL<|.a 1<|.ca (ajt x5 x6 M)<|.aW<|AX<|Az h Bg fun h=>Ak<|.a 2<|.nil<|J _ _ (AZ 56 28673 []) h) fun h=>AO.exit<|AY<|AL<|.a 1<|.p (BK BD ak Bq rfl)<|.aW<|AO.block<|DZ (fun Y=>⟨Aw 56 [(0,BF ak),(24,BF ak),(25,AV (ak.length:Int)),(26,AV Y)],[],0⟩) _ _ _ (AZ 56 117440513 []) h<|fun J21 k9 O Y h=>AX<|AY<|Bf h (fun h=>AY<|AO.block<|AP h fun x11 j h=>AL<|.p (BG BD j Bq Cb rfl)<|.aW<|AP h fun x12 m h=>Ew AA AA AA (.a 3<|.p (BG BD m Bq Cb rfl)<|.a 3<|.nil _)<|Az h Bg fun h=>Ak<|.a 2<|.nil<|O _ _ (AZ 56 117440513 []) h) fun h=>AO.exit<|AY<|AX<|AO.block<|DZ (fun q=>⟨Aw 56 [(0,BF ak),(8,AV q)],[],0⟩) _ _ _ (AZ 56 257 []) h<|fun J20 k15 u q h=>AY<|AL<|.a 2<|.p (BK BD ak Bq rfl)<|.aW<|Bf h (fun h=>AY<|AO.block<|Bh h fun x17 z x18 I h=>Ew AA AA AA (.a 2<|.p (BG BD z Bq Cb rfl)<|.a 5<|.p (BG BD I Bq Cb rfl)<|.a 3<|.nil _)<|Az h Bg fun h=>Ak<|.a 3<|.nil<|u _ _ (AZ 56 257 []) h) fun h=>EO
def aUE (j:Ad) (u:(Int→(List (Int×Int))→Option (List (Int×Int)))):Int→(List (Int×Int))→Option (List (Int×Int)):=fun m q=>(bif decide (m≥0)then(Ai j m).bind fun z=>u (Am (m-1)) (Et q z.Id m)else some q)
def adX (j:Ad):Int→(List (Int×Int))→Option (List (Int×Int)):=aU (aUE j) Aj
def aA (j:Ad):Option (List (Int×Int)):=adX j (Am ((j.length:Int)-1)) []
def aEY (ak r) (h:aA ak=some r):Ap 91 [BF ak] [] (.mp 0) [.map (List.map (CX D7 Ac) r)]:=Ah.aI Tryz.func91 rfl<|AX<|AL<|.a 1<|.p (BK BD ak Bq rfl)<|.f (x:=.mp 0) (aqV (kd:=.i64) (n:=(ak.length:Int)) Rj rfl)<|.aW<|AY<|AL<|.a 1<|.p (BK BD ak Bq rfl)<|.aW<|AO.block<|DR (fun j q=>⟨Aw 23 [(0,BF ak),(3,.mp 0),(4,AV j)],[.map (List.map (CX D7 Ac) q)],0⟩) _ _ _ _ (AZ 23 25 [(0,true)]) h<|fun J L u j q h=>AY<|AX<|Bf h (fun h=>AY<|AO.block<|AP h fun I z h=>Ak<|.a 3<|.p (BG BD z Bq Cb rfl)<|.a 3<|.f (aA7 (k:=0) (key:=I.Id) (val:=j) (m:=q) Ac Rj Iy AA rfl)<|.nil<|Ak<|.a 3<|.nil<|u _ _ _ (AZ 23 25 [(0,true)]) h) fun h=>HY
def aKf (j:AU) (m:(List (Int×Int))) (k2:(Int→Option Bool)):Int→Option Bool:=fun q=>(bif decide (q<(j.length:Int))then(Ai j q).bind fun u=>(bif (!((D6 m u).isSome))then some false else k2 (Am (q+1)))else some true)
def aUk (j:AU) (m:(List (Int×Int))):Int→Option Bool:=bD (aKf j m) Aj
def rZ (j:AU) (m:(List (Int×Int))):Option Bool:=aUk j m 0
def aSv (aeJ af6 r) (h:rZ aeJ af6=some r):Ap 156 [Ba aeJ,.ptr 0 0] [.box [.mp 1],.map (List.map (CX D7 Ac) af6)] (Ae r) [.box [.mp 1],.map (List.map (CX D7 Ac) af6)]:=Ah.aI Tryz.func156 rfl<|AX<|AY<|AL<|.a 1<|.p (BK Ac aeJ BX rfl)<|.aW<|AO.block<|DZ (fun z=>⟨Aw 23 [(1,.ptr 0 0),(8,Ba aeJ),(9,AV (aeJ.length:Int)),(10,AV z)],[.box [.mp 1],.map (List.map (CX D7 Ac) af6)],2⟩) _ _ _ (AZ 23 1794 [(0,true),(1,true)]) h<|fun I k2 j z h=>AX<|AY<|Bf h (fun h=>AY<|AO.block<|AP h fun q u h=>AL<|.p (BG Ac u BX CP rfl)<|.aW<|AL<|.a 2<|.p (x:=.fP [AV ((D6 af6 q).getD 0),Ae ((D6 af6 q).isSome)]) (aLd (k:=1) (key:=q) (m:=af6) Ac 0 Rj Iy zero3 AA AA AA rfl)<|.aW<|AX<|Az h (fun h=>AX<|aOa) fun h=>Ak<|.a 2<|.nil<|j _ _ (AZ 23 1794 [(0,true),(1,true)]) h) fun h=>AO.exit<|AX<|aOa
def aPz (j:Ad) (I:(Int→(List (Int×Int))→Option Bool)):Int→(List (Int×Int))→Option Bool:=fun m q=>(bif decide (m<(j.length:Int))then(Ai j m).bind fun J=>(rZ J.bM q).bind fun L=>(bif (!L)then some true else(Ai j m).bind fun u=>(rZ u.bK q).bind fun z=>some (!z)).bind fun M=>(bif M then some false else I (Am (m+1)) q)else some true)
def aUp (j:Ad):Int→(List (Int×Int))→Option Bool:=aU (aPz j) Aj
def aGf (j:Ad):Option Bool:=(aA j).bind fun m=>aUp j 0 m
def aes (ak r) (h:aGf ak=some r):Ap 125 [BF ak] [] (Ae r) []:=Ah.aI Tryz.func125 rfl<|AX<|AP h fun x1 I h=>AL<|.a 1<|.f (x:=.mp 0) (E9 [] [BF ak] (aEY ak x1 I) rfl)<|.aW<|AL<|.p (x:=.fn (.func 156) [] [.ptr 1 0]) (QK (fi:=[]) (ca:=[.ptr 1 0]) rfl rfl rfl)<|.aW<|AY<|AL<|.a 1<|.p (BK BD ak Bq rfl)<|.aW<|AO.block<|DR (fun U z=>⟨Aw 33 [(0,BF ak),(4,.fn (.func 156) [] [.ptr 0 0]),(10,AV (ak.length:Int)),(11,AV U)],[.box [.mp 1],.map (List.map (CX D7 Ac) z)],0⟩) _ _ _ _ (AZ 33 3089 [(1,true),(0,true)]) h<|fun J13 k4 J U z h=>AX<|AY<|Bf h (fun h=>AY<|AO.block<|AX<|Bh h fun Y L Z M h=>AL<|.a 3<|.p (BG BD L Bq Cb rfl)<|.a 2<|.f (x:=(Ae Z)) (dA [.ent 0,.ent 1] [] [.ptr 0 0] [Ba Y.bM] (aSv Y.bM z Z M) rfl (hE:=(MV AA<|MV AA<|trivial)))<|.a 1<|AP h fun x8 O h=>.mg 22 9 (Ae x8) (.bi O (k2:=fun h=>Bh h fun j m q u h=>.a 3<|.p (BG BD m Bq Cb rfl)<|.a 2<|.f (x:=(Ae q)) (dA [.ent 0,.ent 1] [] [.ptr 0 0] [Ba j.bK] (aSv j.bK z q u) rfl (hE:=(MV AA<|MV AA<|trivial)))<|.aW<|CJ))<|.aZ<|Az h Bg fun h=>Ak<|.a 2<|.nil<|J _ _ _ (AZ 33 3089 [(0,true),(1,true)]) h) fun h=>EO
def aIS (j:AQ) (z:Ad) (m:(List (Int×Int))) (I:(Int→Int→Option (Bool×(List (Int×Int))))):Int→Int→Option (Bool×(List (Int×Int))):=fun q u=>(bif decide (u<(j.bM.length:Int))then(Ai j.bM u).bind fun J=>(Ai z ((D6 m J).getD 0)).bind fun L=>I (RI q L.Depth) (Am (u+1))else(bif decide (j.Depth>q)then some ((Am (j.Depth-q))==1)else some false).bind fun M=>some (M,m))
def ab9 (m:AQ) (q:Ad) (j:(List (Int×Int))):Int→Int→Option (Bool×(List (Int×Int))):=aU (aIS m q j) Aj
def aOH (j:AQ) (q:Ad) (m:(List (Int×Int))) (k2:(Int→Option (Bool×(List (Int×Int))))):Int→Option (Bool×(List (Int×Int))):=fun u=>(bif decide (u<(j.bK.length:Int))then(Ai j.bK u).bind fun z=>(Ai q ((D6 m z).getD 0)).bind fun I=>(bif decide (I.Depth≥j.Depth)then some (false,m)else k2 (Am (u+1)))else(bif ((j.bM.length:Int)==0)then some ((j.Depth==1),m)else(Ai j.bM 0).bind fun J=>(Ai q ((D6 m J).getD 0)).bind fun L=>ab9 j q m L.Depth 0))
def aa7 (m:AQ) (q:Ad) (j:(List (Int×Int))):Int→Option (Bool×(List (Int×Int))):=bD (aOH m q j) Aj
def aCl (m:Ad) (j:(List (Int×Int))) (q:AQ):Option (Bool×(List (Int×Int))):=aa7 q m j 0
def ao3 (ak U4 iM r) (h:aCl ak U4 iM=some r):Ap 126 [BF ak,.mp 0,DC iM] [.map (List.map (CX D7 Ac) U4)] (Ae r.1) [.map (List.map (CX D7 Ac) r.2)]:=Ah.aI Tryz.func126 rfl<|AX<|AY<|AL<|.a 2<|.p (BK Ac iM.bK BX rfl)<|.aW<|AO.block<|DZ (fun v1=>⟨Aw 75 [(0,BF ak),(1,.mp 0),(5,.ptr 1 0),(13,Ba iM.bK),(14,AV (iM.bK.length:Int)),(15,AV v1)],[.map (List.map (CX D7 Ac) U4),.box (BJ (BD iM))],1⟩) _ _ _ (AZ 75 57379 [(0,true),(1,true)]) h<|fun J19 k2 M v1 h=>AX<|AY<|Bf h (fun h=>AY<|AO.block<|AP h fun x4 O h=>AL<|.p (BG Ac O BX CP rfl)<|.aW<|AP h fun x5 U h=>Ew AA AA AA (.a 3<|.p (x:=(AV ((D6 U4 x4).getD 0))) (kD (k:=0) (key:=x4) (m:=U4) Ac 0 Rj Iy zero3 AA AA AA rfl)<|.p (BG BD U Bq Cb rfl)<|.a 5<|.nil _)<|Az h lV fun h=>Ak<|.a 2<|.nil<|M _ _ (AZ 75 57379 [(0,true),(1,true)]) h) fun h=>AO.exit<|AY<|AL<|.a 2<|.p (BK Ac iM.bM BX rfl)<|.aW<|Az h lV fun h=>Bh h fun x8 Y x9 Z h=>AL<|.a 4<|.p (BG Ac Y BX CP rfl)<|.a 1<|.p (x:=(AV ((D6 U4 x8).getD 0))) (kD (k:=0) (key:=x8) (m:=U4) Ac 0 Rj Iy zero3 AA AA AA rfl)<|.p (BG BD Z Bq Cb rfl)<|.aW<|AY<|AL<|.a 2<|.p (BK Ac iM.bM BX rfl)<|.aW<|AO.block<|DR (fun j q=>⟨Aw 75 [(0,BF ak),(1,.mp 0),(5,.ptr 1 0),(9,AV j),(48,Ba iM.bM),(49,AV (iM.bM.length:Int)),(50,AV q)],[.map (List.map (CX D7 Ac) U4),.box (BJ (BD iM))],1⟩) _ _ _ _ (AZ 75 1970324836975139 [(0,true),(1,true)]) h<|fun J18 k12 u j q h=>AX<|AY<|Bf h (fun h=>AY<|AO.block<|AP h fun z I h=>AL<|.p (BG Ac I BX CP rfl)<|.aW<|AP h fun x15 J h=>Ak<|.a 4<|.p (x:=(AV ((D6 U4 z).getD 0))) (kD (k:=0) (key:=z) (m:=U4) Ac 0 Rj Iy zero3 AA AA AA rfl)<|.p (BG BD J Bq Cb rfl)<|.a 2<|.p (x:=(AV (RI j x15.Depth))) (adz rfl)<|.a 1<|.nil<|Ak<|.a 2<|.nil<|u _ _ _ (AZ 75 1970324836975139 [(0,true),(1,true)]) h) fun h=>AO.exit<|AL<|.a 4<|AP h fun x16 L h=>.mg 68 6 (Ae x16) (.bi L)<|.aW<|Pj
def aOZ (j:Ad) (u:(Int→(List (Int×Int))→Option Int)):Int→(List (Int×Int))→Option Int:=fun m z=>(bif decide (m<(j.length:Int))then(Ai j m).bind fun I=>(aCl j z I).bind fun q=>(bif (!q.1)then some 15 else u (Am (m+1)) q.2)else some 0)
def aSu (j:Ad):Int→(List (Int×Int))→Option Int:=aU (aOZ j) Aj
def aGI (j:Ad):Option Int:=(aGf j).bind fun m=>(bif (!m)then some 14 else(aA j).bind fun q=>aSu j 0 q)
def ao0 (ak r) (h:aGI ak=some r):Ap 84 [BF ak] [] (AV r) []:=Ah.aI Tryz.func84 rfl<|AX<|AY<|AP h fun O j h=>AL<|.a 1<|.ca (aes ak O j)<|.aW<|Az h Bg fun h=>AP h fun U m h=>AL<|.a 1<|.f (x:=.mp 0) (E9 [] [BF ak] (aEY ak U m) rfl)<|.aW<|AY<|AL<|.a 1<|.p (BK BD ak Bq rfl)<|.aW<|AO.block<|DR (fun J q=>⟨Aw 24 [(0,BF ak),(3,.mp 0),(11,AV (ak.length:Int)),(12,AV J)],[.map (List.map (CX D7 Ac) q)],0⟩) _ _ _ _ (AZ 24 6153 [(0,true)]) h<|fun Y Z u J q h=>AX<|AY<|Bf h (fun h=>AY<|AO.block<|AX<|Bh h fun L z M I h=>AL<|.a 4<|.p (BG BD z Bq Cb rfl)<|.a 1<|.f (x:=(Ae M.1)) (E9 [.ent 0] [BF ak,.mp 0,DC L] (ao3 ak q L M I) rfl)<|.aW<|Az h Bg fun h=>Ak<|.a 2<|.nil<|u _ _ _ (AZ 24 6153 [(0,true)]) h) fun h=>EO
end Go.Proofs.YtldfpencimjjlaaGreat
end
