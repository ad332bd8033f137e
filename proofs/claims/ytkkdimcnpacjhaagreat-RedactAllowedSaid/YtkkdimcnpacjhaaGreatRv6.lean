/- Part 6 of what the laws' proofs lean on: states of the walk, typed functions of the program and their laws (short forms written by wip/shrink.py; no condition). -/
import Derived.Test.YtkkdimcnpacjhaaGreatRv5
set_option linter.defProp false
set_option linter.unnecessarySimpa false
set_option linter.unusedVariables false
set_option linter.unusedSimpArgs false
section
namespace Go.Proofs.YtkkdimcnpacjhaaGreat
open Go.RowKit
def Z9 (named:List AL) (k:Ai):AL×Bool:=match named.find? (Dt k)with |some x=>(x,true)|none=>(Ej,false)
def Yp (l:List AL) (s:List Ai) (e:AL) (k:Ai):AL×Bool:=bif (FP s k.Kind k.Key).2 then GH l (FP s k.Kind k.Key).1 else Z9 (ofIds l e.bf) k
def QX (l:List AL) (s:List Ai) (e:AL) (k:Ai):List AL:=bif (Yp l s e k).2 then[(Yp l s e k).1]else[]
def Qr (l:List AL) (s:List Ai) (e:AL):List AL:=(keysOf e).flatMap (QX l s e)
def aMm (l:List AL) (s:List Ai) (e:AL) (k:Ai):(QX l s e k).length≤1:=by
 unfold QX;cases(Yp l s e k).2<;>simp
def adb (l:List AL) (s:List Ai) (e:AL):(Qr l s e).length≤5:=by
 have j:=flat_length (f:=QX l s e) (n:=1) (aMm l s e) (keysOf e);have m:=VD e;unfold Qr;omega
def asz {l:List AL} {s:List Ai} {e x:AL} (h:x∈Qr l s e):x∈l:=by
 obtain⟨k,_,h⟩:=RX.1 h;unfold QX Yp Z9 at h;cases q:(FP s k.Kind k.Key).2 with
 |true=>
  rw[q]at h;simp only[BA]at h;cases j:DT l (FP s k.Kind k.Key).1 with
  |none=>rw[QN j]at h;exact absurd h Ef
  |some y=>rw[KT j]at h;rw[GZ.1 h];exact OC j
 |false=>
  rw[q]at h;simp only[Ar]at h;cases m:(ofIds l e.bf).find? (Dt k)with
  |none=>rw[m]at h;exact absurd h Ef
  |some y=>rw[m]at h;rw[GZ.1 h];exact aGj (Qh m)
def D9.base {l:List AL} (h:D9 l) (s:List Ai) (e:AL):D9 (Qr l s e):=fun x j=>h x (asz j)
def arR (named:List AL) (k:Ai) (j:named.length≤1000):aAs named k=some (Z9 named k):=by
 unfold aAs;rw[aEi named A8 (fun a0=>lX a0 k) (Dt k) fun e=>by unfold lX Dt;rw[HY];cases e.Kind==k.Kind<;>rfl];exact found_eq named (Dt k) rfl
def ag3 (named:List AL) (k:Ai) (j:named.length≤1000):aGg named k.Kind k.Key=some (Z9 named k):=by
 unfold aGg abr;rw[aFR named (fuel_lt A8) (Dt k) (fun i=>some (match named[i]? with |some x=>(x,true)|none=>(Ej,false))) (some (Ej,false))]
 ·exact aJj named _
 ·intro k2 i h;unfold aF4;rw[Bl h,Bf h,Ce h];simp only[AQ];rw[HY];unfold Dt;cases named[i].Kind==k.Kind<;>cases decide (named[i].Key=k.Key)<;>rfl
 intro k2;unfold aF4;rw[D7]
def anx (l:List AL) (s:List Ai) (e:AL) (hl:l.length≤1000) (q:e.bf.length≤40) (hs:IQ s) (j:s.length≤1000000):wU l s e=some (Qr l s e):=by
 unfold wU;have u:=Yu l e.bf;have z:=VD e;have m:IK 376 Ej 0 5=some []:=by unfold IK;rw[CJ zU];rfl
 rw[aaM l _ hl A8,m,af8];simp only[AQ];unfold aOO;rw[Gi (keysOf e) A8 (fun r k=>r++QX l s e k) (fun i r=>r.length≤i) (fun r=>some r) (Dc _)]
 ·rw[foldl_append (QX l s e),Hd];rfl
 ·intro k r i h I;have J:=aMm l s e (keysOf e)[i];refine⟨JZ,?_⟩;unfold aLk zT yj;rw[Bl h,arR _ _ A8,aM1 s _ _ j hs];simp only[AQ];rw[L8 l _ A8,D5 FW];simp only[AQ];rw[D5 FW];unfold QX Yp;cases(FP s (keysOf e)[i].Kind (keysOf e)[i].Key).2 with
  |true=>
   simp only[BA];cases(GH l (FP s (keysOf e)[i].Kind (keysOf e)[i].Key).1).2 with
   |true=>rfl
   |false=>simp
  |false=>
   simp only[Ar];cases(Z9 (ofIds l e.bf) (keysOf e)[i]).2 with
   |true=>rfl
   |false=>simp
 intro k r _;unfold aLk;rw[D7]
def aqk (l:List AL) (s:List Ai) (e:AL) (hl:l.length≤1000) (m:e.bf.length≤40) (j:s.length≤1000000):aIj l s e=some (Qr l s e):=by
 unfold aIj;have q:=Yu l e.bf;have u:=VD e;rw[aKn,aKE l _ hl A8];simp only[AQ];unfold aeU;rw[Gi (a0:=[]) (keysOf e) A8 (fun r k=>r++QX l s e k) (fun i r=>r.length≤i) (fun r=>some r) (Dc _)]
 ·rw[foldl_append (QX l s e),Hd];rfl
 ·intro k r i h z;have I:=aMm l s e (keysOf e)[i];refine⟨JZ,?_⟩;unfold aG9 aHq aLx;rw[dec_lt h,Bf h];simp only[BA,AQ];rw[ag3 _ _ A8,aKt s _ _ j];simp only[AQ];rw[Le l _ A8,D5 FW];simp only[AQ];rw[D5 FW];unfold QX Yp;cases(FP s (keysOf e)[i].Kind (keysOf e)[i].Key).2 with
  |true=>
   simp only[BA];cases(GH l (FP s (keysOf e)[i].Kind (keysOf e)[i].Key).1).2 with
   |true=>rfl
   |false=>simp
  |false=>
   simp only[Ar];cases(Z9 (ofIds l e.bf) (keysOf e)[i]).2 with
   |true=>rfl
   |false=>simp
 intro k r _;unfold aG9;rw[CZ];rfl
def RH (l:List AL) (s:List Ai) (id:Int):Bool:=cZ l id&&(GX (ev l id).Kind&&Ls (ev l id) (Qr l s (ev l id))==0)
def MZ (l:List AL) (s:List Ai) (id:Int):List Ai:=bif RH l s id then Ew s (ev l id).Kind (ev l id).Key (ev l id).Id else s
def ML (l:List AL) (s:List Ai) (ids:List Int):List Ai:=ids.foldl (MZ l) s
def aQb {l:List AL} {s:List Ai} (h:IQ s) (id:Int):IQ (MZ l s id):=by
 unfold MZ;cases RH l s id with
 |true=>exact Vf h _ _ _
 |false=>exact h
def aJ4 {l:List AL}:∀{ids:List Int} {s:List Ai},IQ s→IQ (ML l s ids)
 | [],_,h=>h
 |id::ids,s,h=>aJ4 (ids:=ids) (aQb h id)
def aK1 (l:List AL) (s:List Ai) (id:Int):(MZ l s id).length≤s.length+1:=by
 unfold MZ;cases RH l s id with
 |true=>exact OO _ _ _ _
 |false=>exact Nat.le_succ _
def aBN (l:List AL):∀(ids:List Int) (s:List Ai),(ML l s ids).length≤s.length+ids.length
 | [],s=>Dc _
 |id::ids,s=>by
  have j:=aBN l ids (MZ l s id);have m:=aK1 l s id;show(ML l (MZ l s id) ids).length≤_;rw[FC];omega
def aOr {l:List AL} (hs:D9 l) {id:Int} (h:cZ l id=true):GV (ev l id):=hs _ (OC (Jb h).1)
def agI (l:List AL) (s:List Ai) (id:Int) (hl:l.length≤1000) (hs:D9 l) (u:IQ s) (m:s.length≤1000000):vS l s id=some (MZ l s id):=by
 unfold vS aG6 lD MZ RH;have j:Fn2 s (.error (.iface 331 (.agg #[])):Except Value (List Ai))=some s:=rfl;rw[L8 l _ A8];simp only[AQ];rw[Nq];cases I:(DT l id).isSome with
 |false=>rw[show cZ l id=false from I];exact j
 |true=>
  have q:cZ l id=true:=I;have J:=aOr hs q;have z:(GH l id).1=ev l id:=rfl;rw[q,z,ad3];simp only[AQ,Dv,Ar,FT];cases GX (ev l id).Kind with
  |false=>exact j
  |true=>
   have L:=adb l s (ev l id);rw[anx l s _ hl J.auth u m];simp only[AQ,Dv,Ar,FT];rw[aMU _ _ A8 (hs.base s _) J];simp only[AQ];rw[Xd s _ _ _ m];unfold bne;cases Ls (ev l id) (Qr l s (ev l id))==0 with
   |true=>rfl
   |false=>exact j
def aRW (l:List AL) (s:List Ai) (ids:List Int) (hl:l.length≤1000) (hs:D9 l) (j:IQ s) (q:s.length+ids.length≤1000000):ZU l s ids=some (ML l s ids):=by
 unfold ZU aA1;rw[D5 SE];simp only[AQ,Hd];unfold aat;rw[Gi ids A8 (MZ l) (fun i r=>IQ r∧r.length≤s.length+i) (fun r=>some r) ⟨j,Dc _⟩]
 ·rfl
 ·intro k r i h m;have u:=aK1 l r ids[i];refine⟨⟨aQb m.1 _,A8⟩,?_⟩;unfold aJl;rw[Bl h,agI l r _ hl hs m.1 A8];rfl
 intro k r _;unfold aJl;rw[D7]
def ac9 (l:List AL) (s:List Ai) (ids:List Int) (hl:l.length≤1000) (hs:D9 l) (z:s.length+ids.length≤1000000):bU l s ids=some (ML l s ids):=by
 unfold bU;rw[D5 SE];simp only[AQ,Hd];unfold aRe;rw[Gi ids A8 (MZ l) (fun i r=>r.length≤s.length+i) (fun r=>some r) (Dc _)]
 ·rfl
 ·intro k r i h I;have J:=aK1 l r ids[i];refine⟨A8,?_⟩;unfold aGe yA aF3 MZ RH;rw[Bl h,Le l _ A8];simp only[AQ];rw[Nq];cases q:(DT l ids[i]).isSome with
  |false=>rw[show cZ l ids[i]=false from q];rfl
  |true=>
   have j:cZ l ids[i]=true:=q;have u:=aOr hs j;have m:(GH l ids[i]).1=ev l ids[i]:=rfl;rw[j,m,wM];simp only[AQ,BA,FT];cases GX (ev l ids[i]).Kind with
   |false=>rfl
   |true=>
    have L:=adb l r (ev l ids[i]);rw[aqk l r _ hl u.auth A8];simp only[AQ,BA,FT];rw[aJ9 _ _ A8 (hs.base r _) u];simp only[AQ];rw[aKG r _ _ _ A8];cases Ls (ev l ids[i]) (Qr l r (ev l ids[i]))==0<;>rfl
 intro k r _;unfold aGe;rw[D7]
def JH (l:List AL) (j:List (List Ai)):List Int:=Rl l (Hu l j)
def JW (l:List AL) (j:List (List Ai)):List Int:=qF l (fK l (JH l j)).length (fK l (JH l j))
def Gs (l:List AL) (j:List (List Ai)):List Ai:=ML l (Gl j) (JW l j)
def SL (l:List AL) (j:List (List Ai)):List Int:=bif (FP (Gs l j) 3 BU).2 then Wy l (FP (Gs l j) 3 BU).1 else[]
def Iw (l:List AL) (j:List (List Ai)):List Int:=yu l (SL l j) (NP (Hu l j) (JH l j))
def qy (s a:List Ai):List Ai:=a.foldl (fun s x=>Ew s x.Kind x.Key x.Id) s
def lastOf (l:List AL) (j:List (List Ai)):List Ai:=qy (ML l (Gs l j) (Iw l j)) (Gl j)
structure Jy (l:List AL) (sts:List (List Ai)):Prop where
 len:l.length≤100
 small:D9 l
 states:MR sts
def aA {l:List AL} {j:List (List Ai)} (h:Jy l j):(Hu l j).length≤40000:=by
 have z:=h.len;have I:=aB8 h.states;have J:=MF (Om j);have m:=zW l j [] fun s hs=>(h.states.2 s hs).1;have q:=h.states.1;have u:=JD (fun x=>decide (I5 l j x<j.length)) (allOf l j);have L:j.length*(100+l.length)≤100*200:=vJ q A8;have M:=aLt (EX (Om j)) (Md l j)
 have O:(Md l j).length≤20000:=by
  unfold Md;unfold allOf at u ⊢;simp only[Kr]at m;omega
 unfold Hu;omega
def aso {l:List AL} {j:List (List Ai)} (h:Jy l j):(Bc l (Hu l j)).length≤40000:=EZ (JD _ _) (aA h)
def aLF {l:List AL} {j:List (List Ai)} (h:Jy l j):(JW l j).length≤100:=by
 have q:=aeP l (fK l (JH l j)).length (fK l (JH l j));have u:(fK l (JH l j)).length≤l.length:=kF (ZP _ _) fun x m=>(KW.1 m).2;have z:=h.len;unfold JW;omega
def vV {l:List AL} {j:List (List Ai)} (h:Jy l j):(Gs l j).length≤200:=by
 have m:=aBN l (JW l j) (Gl j);have q:=aLF h;have u:=ZI h.states;unfold Gs;omega
def aIh {l:List AL} {j:List (List Ai)} (h:Jy l j):IQ (Gs l j):=aJ4 (aPu h.states)
def aaY {l:List AL} {j:List (List Ai)} (h:Jy l j):(SL l j).length≤100:=by
 have m:=abl l (FP (Gs l j) 3 BU).1;have q:=h.len;unfold SL;cases(FP (Gs l j) 3 BU).2 with
 |true=>simp only[BA];omega
 |false=>exact EK _
def aPY {l:List AL} {j:List (List Ai)} (h:Jy l j):(Iw l j).length≤40000:=by
 have m:=amb l (SL l j) (NP (Hu l j) (JH l j));have q:=aGN (Hu l j) (JH l j);have u:=aA h;unfold Iw;omega
def aho {l:List AL} {j:List (List Ai)} (h:Jy l j):mO (Hu l j) (JH l j) l (Gs l j,JW l j) (Gl j,EX (Om j)) (SL l j)=some ⟨lastOf l j,JW l j,Iw l j⟩:=by
 have u:=h.len;have z:=aA h;have I:=aA2 l (Hu l j);have J:=aaY h;have L:=aGN (Hu l j) (JH l j);have M:=vV h;have O:=aPY h;have U:=ZI h.states;unfold mO aKd aHk;rw[agE _ _ A8 (by unfold JH;omega)];simp only[AQ];rw[ahY l _ _ A8 h.small A8 A8 (UZ (aEk _ _))];simp only[AQ];show((ZU l (Gs l j) (Iw l j)).bind _).bind _=_;rw[aRW l _ _ A8 h.small (aIh h) A8];simp only[AQ];unfold aQj;have Y:=aBN l (Iw l j) (Gs l j);show aP _ Ag 0 (⟨ML l (Gs l j) (Iw l j),JW l j,Iw l j⟩:NU)=_;rw[dh (Gl j) A8 (fun v x=>({ v with BQ:=Ew v.BQ x.Kind x.Key x.Id }:NU)) (fun i v=>v.BQ.length≤(ML l (Gs l j) (Iw l j)).length+i) (fun v=>some v) (Dc _)]
 ·congr 1;unfold lastOf qy
  have key:∀(a:List Ai) (v:NU),a.foldl (fun v x=>({ v with BQ:=Ew v.BQ x.Kind x.Key x.Id }:NU)) v=⟨a.foldl (fun s x=>Ew s x.Kind x.Key x.Id) v.BQ,v.ahO,v.ap4⟩:=by
   intro a
   induction a with
   |nil=>intro v;rfl
   |cons x a m=>intro v;rw[El,m];rfl
  rw[key]
 ·intro k v i hi Z;have q:=OO v.BQ (Gl j)[i].Kind (Gl j)[i].Key (Gl j)[i].Id;refine⟨by show(Ew _ _ _ _).length≤_;omega,?_⟩;unfold aLS;rw[Bl hi,Xd _ _ _ _ A8];rfl
 intro k v _;unfold aLS;rw[D7]
def alL {l:List AL} {j:List (List Ai)} (h:Jy l j):zf l j=some ⟨lastOf l j,JW l j,Iw l j⟩:=by
 have u:=h.len;have z:=aA h;have I:=aA2 l (Hu l j);have J:=aso h;have L:=vV h;have M:=aLF h;have O:=ZI h.states;have m:=aho h;unfold zf;rw[acz j h.states,aq0 l j A8 h.small.ahX h.states];simp only[AQ];rw[aoZ l _ A8 h.small A8 A8];simp only[AQ];unfold aFz aHb;rw[akI l _ A8 h.small A8];simp only[AQ];have ha:ZU l (Gl j) (JW l j)=some (Gs l j):=aRW l _ _ A8 h.small (aPu h.states) A8;unfold JW JH at ha;rw[ha];simp only[AQ];rw[aM1 _ _ _ A8 (aIh h)];simp only[AQ];rw[alb l _ A8 h.small];unfold SL at m;cases q:(FP (Gs l j) 3 BU).2 with
 |true=>rw[q]at m;exact m
 |false=>rw[q]at m;exact m
def amS {l:List AL} {j:List (List Ai)} (h:Jy l j):wC (Hu l j) (JH l j) l (Gl j,EX (Om j)) (JW l j) (Gs l j) (SL l j)=some ⟨Gl j,JW l j,Gs l j,Iw l j,lastOf l j⟩:=by
 have z:=h.len;have I:=aA h;have J:=aA2 l (Hu l j);have L:=aaY h;have M:=aGN (Hu l j) (JH l j);have O:=vV h;have U:=aPY h;have Y:=ZI h.states;unfold wC;rw[aBI _ _ A8 (by unfold JH;omega)];simp only[AQ];rw[anD l _ _ A8 h.small A8 A8 (UZ (aEk _ _))];simp only[AQ];show(bU l (Gs l j) (Iw l j)).bind _=_;rw[ac9 l _ _ A8 h.small A8];simp only[AQ];unfold aeD;have Z:=aBN l (Iw l j) (Gs l j);show aP _ Ag 0 (⟨Gl j,JW l j,Gs l j,Iw l j,ML l (Gs l j) (Iw l j)⟩:Nh)=_;rw[dh (Gl j) A8 (fun v x=>({ v with Last:=Ew v.Last x.Kind x.Key x.Id }:Nh)) (fun i v=>v.Same=Gl j∧v.Last.length≤(ML l (Gs l j) (Iw l j)).length+i) (fun v=>some v) ⟨rfl,Dc _⟩]
 ·congr 1;unfold lastOf qy
  have key:∀(a:List Ai) (v:Nh),a.foldl (fun v x=>({ v with Last:=Ew v.Last x.Kind x.Key x.Id }:Nh)) v=⟨v.Same,v.Power,v.First,v.Others,a.foldl (fun s x=>Ew s x.Kind x.Key x.Id) v.Last⟩:=by
   intro a
   induction a with
   |nil=>intro v;rfl
   |cons x a q=>intro v;rw[El,q];rfl
  rw[key]
 ·intro k v i hi m;have u:=OO v.Last (Gl j)[i].Kind (Gl j)[i].Key (Gl j)[i].Id;refine⟨⟨m.1,by show(Ew _ _ _ _).length≤_;omega⟩,?_⟩;unfold aLV;rw[m.1,dec_lt hi,Bf hi];simp only[BA,AQ];rw[aKG _ _ _ _ A8];rfl
 intro k v m;unfold aLV;rw[m.1,CZ];rfl
def as8 {l:List AL} {j:List (List Ai)} (h:Jy l j):aLd l j=some ⟨Gl j,JW l j,Gs l j,Iw l j,lastOf l j⟩:=by
 have u:=h.len;have z:=aA h;have I:=aA2 l (Hu l j);have J:=vV h;have L:=aLF h;have M:=ZI h.states;have m:=amS h;unfold aLd;rw[aQF j h.states,apV l j A8 h.small.ahX h.states];simp only[AQ];rw[asU l _ A8 h.small A8];simp only[AQ];rw[amQ l _ A8 h.small A8];simp only[AQ];have ha:bU l (Gl j) (JW l j)=some (Gs l j):=ac9 l _ _ A8 h.small A8;unfold JW JH at ha;rw[ha];simp only[AQ];rw[aKt _ _ _ A8];simp only[AQ];rw[aQe l _ A8 h.small];unfold SL at m;cases q:(FP (Gs l j) 3 BU).2 with
 |true=>rw[q]at m;exact m
 |false=>rw[q]at m;exact m
def WW (l:List AL) (j:List (List Ai)):List Ai:=match j with
 | []=>[]
 | [s]=>s
 |_=>lastOf l j
def aiq {l:List AL} {j:List (List Ai)} (h:Jy l j):mJ l j=some (WW l j):=by
 match j,h with
 | [],_=>rfl
 | [s],h=>
   have hs:=(h.states.2 s (Ec ..)).1;have m:Af [s] 0=some s:=rfl;show((Af [s] 0).bind fun q=>(Bq 32 [] q).bind fun u=>some u)=some s;rw[m];simp only[AQ];rw[D5 SE];rfl
 |s::t::j,h=>
  unfold mJ;have m:(((s::t::j).length:Int)==0)=false:=aAW
  have z:(((s::t::j).length:Int)==1)=false:=aAW
  rw[m,z,alL h];rfl
def alk {l:List AL} {j:List (List Ai)} (h:Jy l j):aGO l j=some (WW l j):=by
 match j,h with
 | [],_=>rfl
 | [s],_=>rfl
 |s::t::j,h=>
  unfold aGO;have m:(((s::t::j).length:Int)==0)=false:=aAW
  have q:(((s::t::j).length:Int)==1)=false:=aAW
  rw[m,q,as8 h];rfl
def ajS (l:List AL):dQ (xM l 14) (fun b=>b=false→l.length≤14∧D9 l):=by
 unfold xM;refine dQ.bif (fun _=>.ret fun h=>Fr) fun e=>?_;have hl:l.length≤14:=by have :=Ir e;omega
 unfold ae4;refine aX l.length (fuel_lt A8) (fun i=>∀j,(q:j<i)→(u:j<l.length)→GV l[j]) (fun j q=>A8) ?_ ?_
 ·intro i k hi m z;unfold aIE;rw[Bl hi,wrap_succ i A8];refine(ajG l[i]).bind fun b I=>dQ.bif (fun _=>.ret fun h=>Fr) fun J=>z fun j q u=>?_;by_cases L:j=i
  ·subst L;exact I J
  exact m j A8 u
 intro k m;unfold aIE;rw[D7];exact .ret fun _=>⟨hl,aNE fun j h=>m j h h⟩
def Jy.of {l:List AL} {j:List (List Ai)} (q:l.length≤14∧D9 l) (m:j.length≤100∧∀s∈j,s.length≤20∧IQ s):Jy l j:=
 ⟨by have :=q.1;omega,q.2,⟨m.1,fun s hs=>⟨by have :=(m.2 s hs).1;omega,(m.2 s hs).2⟩⟩⟩
def aJt {x:Ai}:∀(a s:List Ai),x∈qy s a→x∈a∨x∈s
 | [],_,h=>.inr h
 |y::a,s,h=>by
  rcases aJt a _ h with h|h
  ·exact .inl (Ez _ h)
  rcases Pg h with h|h
  ·left;rw[h];cases y;exact Ec ..
  exact .inr h
def aQx (l:List AL) (ids:List Int) (x:Ai):Prop:=∃id∈ids,cZ l id=true∧GX (ev l id).Kind=true∧x=⟨(ev l id).Kind,(ev l id).Key,(ev l id).Id⟩
def aEx {l:List AL} {x:Ai}:∀(ids:List Int) (s:List Ai),x∈ML l s ids→x∈s∨aQx l ids x
 | [],_,h=>.inl h
 |id::ids,s,h=>by
  rcases aEx ids _ h with h|⟨j,u,h⟩
  ·have m:x∈bif RH l s id then Ew s (ev l id).Kind (ev l id).Key (ev l id).Id else s:=h
   cases q:RH l s id with
   |false=>rw[q]at m;exact .inl m
   |true=>
    rw[q]at m;rcases Pg m with m|m
    ·unfold RH at q;simp only[CV]at q;exact .inr ⟨id,Ec ..,q.1,q.2.1,m⟩
    exact .inl m
  exact .inr ⟨j,Ez _ u,h⟩
def anw {l:List AL} {j:List (List Ai)} {x:Int} (h:x∈JH l j):x∈Hu l j:=(xK.1 h).1
def aOi {l:List AL} {m:List (List Ai)} {x:Ai} (h:x∈lastOf l m):x∈Gl m∨aQx l (Hu l m) x:=by
 unfold lastOf at h;rcases aJt _ _ h with h|h
 ·exact .inl h
 rcases aEx _ _ h with h|⟨j,q,h⟩
 ·unfold Gs at h;rcases aEx _ _ h with h|⟨j,q,h⟩
  ·exact .inl h
  exact .inr ⟨j,anw (KW.1 (aHV _ _ _ q)).1,h⟩
 exact .inr ⟨j,(aHK.1 (ahE.1 q).1).1,h⟩
def aQp :∀(a s:List Ai),IQ s→IQ (qy s a)
 | [],_,h=>h
 |x::a,s,h=>aQp a _ (Vf h x.Kind x.Key x.Id)
def aow {l:List AL} {j:List (List Ai)} (h:Jy l j):IQ (lastOf l j):=aQp _ _ (aJ4 (aIh h))
structure IB (l:List AL) (s:List Ai):Prop where
 sorted:IQ s
 named:∀x∈s,cZ l x.Id=true∧GX x.Kind=true∧(ev l x.Id).Kind=x.Kind∧(ev l x.Id).Key=x.Key
def IB.nil (l:List AL):IB l []:=⟨List.Pairwise.nil,fun _ h=>absurd h Ef⟩
def IB.nodup {l:List AL} {s:List Ai} (h:IB l s):(s.map (·.Id)).Nodup:=by
 rw[aJg,aLm];refine List.Pairwise.imp_of_mem ?_ h.sorted;intro a b ha m j e;obtain⟨_,_,q,k2⟩:=h.named a ha;obtain⟨_,_,u,z⟩:=h.named b m;have I:a.Kind=b.Kind:=by rw[←q,←u,e]
 have J:a.Key=b.Key:=by rw[←k2,←z,e]
 rw[ku (VK.2 ⟨I,J⟩)]at j;cases j
def IB.length {l:List AL} {s:List Ai} (h:IB l s):s.length≤l.length:=by
 have :U1 l (s.map (·.Id)):=⟨h.nodup,fun x j=>by
  obtain⟨y,m,rfl⟩:=FH.1 j
  exact(h.named y m).1⟩
 have :=this.length
 rwa [C9]at this
def IB.okay {l:List AL} {j:List (List Ai)} (hl:l.length≤100) (hs:D9 l) (q:j.length≤100) (h:∀s∈j,IB l s):Jy l j:=
 ⟨hl,hs,q,fun s m=>⟨EZ (h s m).length hl,(h s m).sorted⟩⟩
def IB.resolve {l:List AL} {j:List (List Ai)} (m:Jy l j) (h:∀s∈j,IB l s):IB l (WW l j):=by
 match j,m,h with
 | [],_,_=>exact .nil l
 | [s],_,h=>exact h s (Ec ..)
 |s::t::j,m,h=>
  refine⟨aow m,fun x I=>?_⟩;rcases aOi I with J|⟨id,_,z,hst,q⟩
  ·exact(h s (Ec ..)).named x ((afG m.states (List.cons_ne_nil _ _)).1 J s (Ec ..))
  have u:=Jb z;have L:x.Id=id:=by rw[q];exact u.2
  rw[L];exact⟨z,by rw[q];exact hst,by rw[q],by rw[q]⟩
def IB.set {l:List AL} {s:List Ai} (h:IB l s) {e:AL} (q:cZ l e.Id=true) (m:ev l e.Id=e) (hst:GX e.Kind=true):IB l (Ew s e.Kind e.Key e.Id):=
 ⟨Vf h.sorted _ _ _,fun x j=>by
  rcases Pg j with rfl|j
  ·exact⟨q,hst,by rw[m],by rw[m]⟩
  exact h.named x j⟩
def VX (l:List AL) (e:AL):Bool:=e.bF.all (cZ l)&&e.bf.all (cZ l)
def X0 (l:List AL):Bool:=l.all (VX l)
def Y0 {α:Type} {l:List α} {p:α→Bool} {x:α} (h:x∈l) (j:p x=false):l.all p=false:=by
 rw[←Jd,E5];exact fun m=>by rw[m x h]at j;cases j
def all_good {α:Type} {l:List α} {p:α→Bool} (h:∀j,(hj:j<l.length)→p l[j]=true):l.all p=true:=E5.2 (aNE h)
def aQq (j:List Int) (l:List AL) (m:List (Int×Int)) (h:WL l m) (q:j.length≤1000):uo j m=some (j.all (cZ l)):=by
 unfold uo abd;rw[GK j (fuel_lt A8) (fun x=> !cZ l x) false (some true)]
 ·rw[List.all_eq_not_any_not];cases(j.any fun x=> !cZ l x)<;>rfl
 ·intro k i hi;unfold aMt;rw[Bl hi,h.isSome]
 intro k;unfold aMt;rw[D7]
def am7 (l:List AL) (hl:l.length≤100) (hs:D9 l):aE5 l=some (X0 l):=by
 refine dQ.eq ?_;unfold aE5;refine(aD9 l A8).bind fun m I=>?_;unfold aaF;refine Xh (body:=aMu l) (Q:=fun b=>b=X0 l) (fun n a b=>∃i:Nat,a=i∧i+n=l.length∧b=m∧∀j,(q:j<i)→(hl:j<l.length)→VX l l[j]=true) ?_ Ag l.length 0 m (fuel_lt A8) ⟨0,rfl,A8,rfl,fun j q=>A8⟩;rintro n a b k ⟨i,rfl,O,rfl,J⟩ M;unfold aMu;by_cases hi:i<l.length
 ·have L:=hs l[i] (E8 hi);have U:=L.prev;have Y:=L.auth;rw[Bl hi,aQq _ l b I A8,AQ,Bf hi,AQ,aQq _ l b I A8];cases u:l[i].bF.all (cZ l)with
  |false=>exact .ret (Y0 (E8 hi) (by unfold VX;rw[u];rfl)).symm
  |true=>
   cases ha:l[i].bf.all (cZ l)with
   |false=>exact .ret (Y0 (E8 hi) (by unfold VX;rw[u,ha];rfl)).symm
   |true=>
    refine M (n-1) _ _ A8 ⟨i+1,wrap_succ i A8,A8,rfl,fun j q z=>?_⟩;by_cases e:j=i
    ·subst e;unfold VX;rw[u,ha];rfl
    exact J j A8 z
 have :i=l.length:=A8
 subst this;rw[D7];exact .ret (all_good fun j q=>J j q q).symm
def Yr (l:List AL):List Int:=l.foldl (fun r e=>e.bf.foldl put (e.bF.foldl put r)) []
def apB {l:List AL} {i:Nat} (hi:i<l.length) (m:List Int→Int→Option (List Int)) (v:List Int) (z:Inc v) (hl:v.length≤900000) (ha:l[i].bf.length≤40):
 xI l (i:Int) m v 0=m (l[i].bf.foldl put v) (Ah ((i:Int)+1)):=by
 unfold xI;rw[Gi l[i].bf A8 put (fun j a=>Inc a∧a.length≤v.length+j) (fun a=>m a (Ah ((i:Int)+1))) ⟨z,A8⟩]
 ·intro k a j q u;have I:=bZ a l[i].bf[j];refine⟨⟨QV u.1,A8⟩,?_⟩;unfold aF2;rw[Bf hi,AQ,dec_lt q,BA,AQ,Bf q,AQ,aMD a _ u.1 A8,AQ]
 intro k a _;unfold aF2;rw[Bf hi,AQ,CZ];rfl
def arx {l:List AL} {i:Nat} (hi:i<l.length) (m:List Int→Int→Option (List Int)) (v:List Int) (q:Inc v) (hl:v.length≤800000) (I:l[i].bF.length≤40) (ha:l[i].bf.length≤40):
 aH3 l (i:Int) m v 0=m (l[i].bf.foldl put (l[i].bF.foldl put v)) (Ah ((i:Int)+1)):=by
 unfold aH3;rw[Gi l[i].bF A8 put (fun j a=>Inc a∧a.length≤v.length+j) (fun a=>xI l (i:Int) m a 0) ⟨q,A8⟩]
 ·have h:=gQ l[i].bF v;exact apB hi m _ (wI q) A8 ha
 ·intro k a j u z;have I:=bZ a l[i].bF[j];refine⟨⟨QV z.1,A8⟩,?_⟩;unfold aL5;rw[Bf hi,AQ,dec_lt u,BA,AQ,Bf u,AQ,aMD a _ z.1 A8,AQ]
 intro k a _;unfold aL5;rw[Bf hi,AQ,CZ];rfl
def aEe :∀(l:List AL) (r:List Int),Inc r→(∀e∈l,e.bF.length≤40∧e.bf.length≤40)→
 Inc (l.foldl (fun r e=>e.bf.foldl put (e.bF.foldl put r)) r)∧(l.foldl (fun r e=>e.bf.foldl put (e.bF.foldl put r)) r).length≤r.length+l.length*80∧
 ∀x,x∈l.foldl (fun r e=>e.bf.foldl put (e.bF.foldl put r)) r↔x∈r∨∃e∈l,x∈e.bF∨x∈e.bf
 | [],r,h,_=>⟨h,Am,fun x=>Am⟩
 |e::l,r,h,hs=>by
  have z:=hs e (Ec ..);obtain⟨m,I,q⟩:=aEe l (e.bf.foldl put (e.bF.foldl put r)) (wI (wI h)) fun x u=>hs x (Ez _ u);have J:=gQ e.bF r;have L:=gQ e.bf (e.bF.foldl put r);rw[El];refine⟨m,by rw[FC];omega,fun x=>(q x).trans ?_⟩;rw[aNC,aNC];constructor
  ·rintro(((h|h)|h)|⟨y,j,h⟩)
   ·exact .inl h
   ·exact .inr ⟨e,Ec ..,.inl h⟩
   ·exact .inr ⟨e,Ec ..,.inr h⟩
   exact .inr ⟨y,Ez _ j,h⟩
  rintro(h|⟨y,j,h⟩)
  ·exact .inl (.inl (.inl h))
  rcases EO.1 j with rfl|j
  ·exact h.elim (fun h=>.inl (.inl (.inr h))) fun h=>.inl (.inr h)
  exact .inr ⟨y,j,h⟩
def D9.lists {l:List AL} (hs:D9 l):∀e∈l,e.bF.length≤40∧e.bf.length≤40:=fun e j=>⟨(hs e j).prev,(hs e j).auth⟩
def ao5 {l:List AL} {i:Nat} (h:i<l.length):(l.take (i+1)).foldl (fun r e=>e.bf.foldl put (e.bF.foldl put r)) ([]:List Int)=l[i].bf.foldl put (l[i].bF.foldl put ((l.take i).foldl (fun r e=>e.bf.foldl put (e.bF.foldl put r)) [])):=by
 rw[Tc,Ce h,Qo,Uy];rfl
def agk (l:List AL) (hl:l.length≤1000) (hs:D9 l):aEq l=some (Yr l):=by
 unfold aEq aOy;refine dQ.eq (KX l.length (fuel_lt A8) (fun i a=>a=(l.take i).foldl (fun r e=>e.bf.foldl put (e.bF.foldl put r)) []) rfl (fun i a k hi ha q=>?_) fun a k ha=>?_)
 ·subst ha;obtain⟨u,j,_⟩:=aEe (l.take i) [] .nil fun e z=>hs.lists e (qx z);have m:=hs.lists l[i] (E8 hi);unfold aL9;rw[dec_lt hi,BA,arx hi k _ u (by rw[FI]at j;simp only[Kr]at j;omega) m.1 m.2,wrap_succ i A8];exact q _ (ao5 hi).symm
 unfold aL9;rw[CZ];refine .ret ?_;rw[ha,GY];rfl
def apF {l:List AL} (hs:D9 l):(Yr l).length≤l.length*80:=by
 have :=(aEe l [] .nil hs.lists).2.1;unfold Yr;simpa using this
def aei {l:List AL} (hs:D9 l) {x:Int}:x∈Yr l↔∃e∈l,x∈e.bF∨x∈e.bf:=by
 have :=(aEe l [] .nil hs.lists).2.2 x;unfold Yr;rw[this];simp
def afx {l:List AL}:X0 l=true↔∀e∈l,(∀x∈e.bF,cZ l x=true)∧∀x∈e.bf,cZ l x=true:=by
 unfold X0 VX;simp only[E5,CV]
def ag0 (l:List AL) (hl:l.length≤1000) (hs:D9 l):aMf l=some (X0 l):=by
 have L:=apF hs;unfold aMf;rw[agk l hl hs,AQ,aKu l _ hl A8,AQ];refine BH some ?_;rw[Q8,afx];constructor
 ·intro h e m;have q:XL l (Yr l)=[]:=GN aFT
  have key:∀x,x∈e.bF∨x∈e.bf→cZ l x=true:=fun x j=>by
   cases z:cZ l x with
   |true=>rfl
   |false=>have :=aIY.2 ⟨(aei hs).2 ⟨e,m,j⟩,z⟩;rw[q]at this;cases this
  exact⟨fun x j=>key x (.inl j),fun x j=>key x (.inr j)⟩
 intro h
 have q:XL l (Yr l)=[]:=List.eq_nil_iff_forall_not_mem.2 fun x j=>by
  obtain⟨I,u⟩:=aIY.1 j;obtain⟨e,m,J⟩:=(aei hs).1 I;rw[J.elim ((h e m).1 x) ((h e m).2 x)]at u;cases u
 rw[q];rfl
def Zw (l:List AL):Prop:=∀e∈l,1≤e.Depth∧e.Depth≤100000
def G6 (l:List AL) (x:Int):Int:=(GH l x).1.Depth
def U4 (l:List AL) (e:AL):Bool:=e.bf.all (fun x=>decide (G6 l x<e.Depth))&&bif (e.bF.length:Int)==0 then e.Depth==1 else e.bF.all (fun x=>decide (G6 l x<e.Depth))&&e.bF.any fun x=>G6 l x==e.Depth-1
def Rh (l:List AL):Int:=bif X0 l then bif l.all (U4 l)then 0 else 15 else 14
def af0 {l:List AL} (h:Zw l) (x:Int):0≤G6 l x∧G6 l x≤100000:=by
 unfold G6 GH;cases j:DT l x with
 |none=>exact⟨Int.le_refl 0,BK⟩
 |some e=>have :=h e (OC j);exact⟨by show 0≤e.Depth;omega,this.2⟩
def aHm (a b:Int):decide (a≥b)= !decide (a<b):=by by_cases h:a<b<;>simp[h];omega
def nI {α:Type} (l:List α) (p:α→Bool):l.any (fun x=> !p x)= !l.all p:=by rw[List.all_eq_not_any_not,pW]
def anR (l:List AL) (e:AL) (hl:l.length≤1000) (L:GV e) (hd:Zw l) (M:1≤e.Depth∧e.Depth≤100000):aGX l e=some (U4 l e):=by
 have h1:=L.prev;have h2:=L.auth;have w:Ah (e.Depth-1)=e.Depth-1:=Ob A8 A8
 have u:aCD e l ((e.bF.length:Int)==0) 0=some (bif (e.bF.length:Int)==0 then true else e.bF.all (fun x=>decide (G6 l x<e.Depth))&&e.bF.any fun x=>G6 l x==e.Depth-1):=by
  unfold aCD;refine dQ.eq (KX e.bF.length (fuel_lt A8) (fun i a=>(∀j,(q:j<i)→(hl:j<e.bF.length)→decide (G6 l e.bF[j]<e.Depth)=true)∧a=(((e.bF.length:Int)==0)||(e.bF.take i).any fun x=>G6 l x==e.Depth-1)) ⟨fun j q=>A8,Am⟩ (fun i a k hi ha O=>?_) fun a k ha=>?_)
  ·have U:((e.bF.length:Int)==0)=false:=by simp;intro Y;rw[Y]at hi;simp at hi
   unfold aGK;rw[Bl hi,Le l _ A8,AQ,aHm];refine dQ.bif (fun m=>.ret ?_) fun m=>?_
   ·have m:decide (G6 l e.bF[i]<e.Depth)=false:=by unfold G6;simpa using m
    rw[U,Y0 (E8 hi) m];rfl
   have m:decide (G6 l e.bF[i]<e.Depth)=true:=by unfold G6;simpa using m
   rw[show(bif a then some true else some ((GH l e.bF[i]).1.Depth==Ah (e.Depth-1)))=some (a||(G6 l e.bF[i]==e.Depth-1)) by rw[w];cases a<;>rfl,AQ,wrap_succ i A8];refine O _ ⟨fun j q z=>?_,?_⟩
   ·by_cases Z:j=i
    ·subst Z;exact m
    exact ha.1 j A8 z
   rw[ha.2,Tc,Ce hi,Qo,aGk,Bool.or_assoc];simp
  unfold aGK;rw[D7];refine .ret ?_;rw[ha.2,GY,all_good fun j q=>ha.1 j q q];cases((e.bF.length:Int)==0)<;>simp
 unfold aGX
 have I:aN2 e l 0=some (e.bf.all (fun x=>decide (G6 l x<e.Depth))&&(bif (e.bF.length:Int)==0 then true else e.bF.all (fun x=>decide (G6 l x<e.Depth))&&e.bF.any fun x=>G6 l x==e.Depth-1)):=by
  unfold aN2;rw[GK e.bf (fuel_lt A8) (fun x=> !decide (G6 l x<e.Depth)) false (aCD e l ((e.bF.length:Int)==0) 0)]
  ·rw[u,nI];cases e.bf.all (fun x=>decide (G6 l x<e.Depth))<;>rfl
  ·intro k i hi;unfold aIl;rw[Bl hi,Le l _ A8,AQ,aHm];rfl
  intro k;unfold aIl;rw[D7]
 rw[I];unfold U4;have J:(e.Depth != 1)= !(e.Depth==1):=rfl;rw[J];cases((e.bF.length:Int)==0)<;>cases(e.Depth==1)<;>cases e.bf.all (fun x=>decide (G6 l x<e.Depth))<;>rfl
def aKJ {l:List AL} {m:List (Int×Int)} (h:WL l m) {x:Int} (j:cZ l x=true):∃e,Af l ((CB m x).getD 0)=some e∧e.Depth=G6 l x:=⟨_,h.get (Jb j).1,rfl⟩
def aoy (p:List Int) (f:Int→Int) (d a:Int) (j:∃y∈p,f y=a) (ha:∀y∈p,f y≤a):(p.all (fun x=>decide (f x<d))&&p.any fun x=>f x==d-1)=bif decide (d>a)then d-a==1 else false:=by
 obtain⟨y,j,e⟩:=j;by_cases h:d>a
 ·have u:p.all (fun x=>decide (f x<d))=true:=E5.2 fun x m=>by have :=ha x m;simp;omega
  rw[u,FT,Ht h,BA,Q8,Gw];constructor
  ·rintro⟨x,m,q⟩;have :=ha x m;have :=eq_of_beq q;simp;omega
  intro q;have :=eq_of_beq q;exact⟨y,j,DK⟩
 rw[Hr h,Ar,Y0 j DK];rfl
def ajK (l:List AL) (m:List (Int×Int)) (e:AL) (O:WL l m) (Z:GV e) (J:VX l e=true) (hd:Zw l) (hde:1≤e.Depth∧e.Depth≤100000):yt l m e=some (U4 l e,m):=by
 have h1:=Z.prev;have h2:=Z.auth;unfold VX at J;simp only[CV,E5]at J;unfold yt acJ;rw[GK e.bf (fuel_lt A8) (fun x=> !decide (G6 l x<e.Depth)) (false,m) (some ((bif (e.bF.length:Int)==0 then e.Depth==1 else e.bF.all (fun x=>decide (G6 l x<e.Depth))&&e.bF.any fun x=>G6 l x==e.Depth-1),m))]
 ·rw[nI];unfold U4;cases e.bf.all (fun x=>decide (G6 l x<e.Depth))<;>rfl
 ·intro k i hi;unfold aI3;obtain⟨x,U,q⟩:=aKJ O (J.2 _ (E8 hi));rw[Bl hi,U,AQ,aHm,q]
 intro k;unfold aI3;rw[D7];cases u:((e.bF.length:Int)==0)with
 |true=>rfl
 |false=>
  have Y:0<e.bF.length:=by
   rcases Xv e.bF.length with h|h
   ·rw[h]at u;cases u
   exact h
  obtain⟨x,U,q⟩:=aKJ O (J.1 _ (E8 Y));have g0:Af e.bF 0=some e.bF[0]:=Bf (i:=0) Y;rw[Ar,Ar,g0,AQ,U,AQ,q];unfold aOR;refine dQ.eq (KX e.bF.length (fuel_lt A8) (fun i a=>(0≤a∧a≤100000)∧(∃y∈e.bF,G6 l y=a)∧∀y∈e.bF.take i,G6 l y≤a) ⟨af0 hd _,⟨_,E8 Y,rfl⟩,fun y L=>by simp at L⟩ (fun i a k2 hi ha hk=>?_) fun a k2 ha=>?_)
  ·unfold aHJ;obtain⟨y,L,I⟩:=aKJ O (J.1 _ (E8 hi));have hb:=af0 hd e.bF[i];rw[Bl hi,L,AQ,wrap_succ i A8,I]
   have M:P6 a (G6 l e.bF[i])=a∧G6 l e.bF[i]≤a∨P6 a (G6 l e.bF[i])=G6 l e.bF[i]∧a≤G6 l e.bF[i]:=by
    unfold P6;by_cases h:G6 l e.bF[i]>a
    ·rw[Ht h];exact .inr ⟨rfl,A8⟩
    rw[Hr h];exact .inl ⟨rfl,A8⟩
   refine hk _ ⟨A8,?_,fun z u=>?_⟩
   ·rcases M with h|h
    ·rw[h.1];exact ha.2.1
    rw[h.1];exact⟨_,E8 hi,rfl⟩
   rw[Tc,Ce hi,Qo,Fz,GZ]at u;rcases u with u|rfl
   ·have :=ha.2.2 z u;omega
   omega
  obtain⟨hb,⟨y,L,I⟩,j⟩:=ha;rw[GY]at j;unfold aHJ;rw[D7,Ob A8 A8,aoy e.bF (G6 l) e.Depth a ⟨y,L,I⟩ j];cases decide (e.Depth>a)<;>exact .ret rfl
def ajQ (l:List AL) (hl:l.length≤100) (hs:D9 l) (hd:Zw l):zk l=some (Rh l):=by
 unfold zk Rh;rw[am7 l hl hs,AQ];cases L:X0 l with
 |false=>rfl
 |true=>
  have M:∀e∈l,VX l e=true:=E5.1 L;refine dQ.eq ((aD9 l A8).bind fun m O=>?_);unfold aQQ;refine Xh (body:=aNF l) (Q:=fun b=>b=bif l.all (U4 l)then 0 else 15) (fun n a b=>∃i:Nat,a=i∧i+n=l.length∧b=m∧∀j,(u:j<i)→(hl:j<l.length)→U4 l l[j]=true) ?_ Ag l.length 0 m (fuel_lt A8) ⟨0,rfl,A8,rfl,fun j u=>A8⟩;rintro n a b k ⟨i,rfl,Y,rfl,I⟩ U;unfold aNF;by_cases hi:i<l.length
  ·have q:=E8 hi;rw[Bl hi,ajK l b l[i] O (hs _ q) (M _ q) hd (hd _ q),AQ];cases J:U4 l l[i]with
   |false=>exact .ret (by rw[Y0 q J];rfl)
   |true=>
    refine U (n-1) _ _ A8 ⟨i+1,wrap_succ i A8,A8,rfl,fun j u z=>?_⟩;by_cases e:j=i
    ·subst e;exact J
    exact I j A8 z
  have :i=l.length:=A8
  subst this;rw[D7];exact .ret (by rw[all_good fun j u=>I j u u];rfl)
def aps (l:List AL) (hl:l.length≤100) (hs:D9 l) (hd:Zw l):aIw l=some (Rh l):=by
 unfold aIw Rh;rw[ag0 l A8 hs,AQ];cases L:X0 l with
 |false=>rfl
 |true=>
  show aHM l 0=_;unfold aHM;refine dQ.eq (aX l.length (fuel_lt A8) (fun i=>∀j,(q:j<i)→(hl:j<l.length)→U4 l l[j]=true) (fun j q=>A8) (fun i k hi u J=>?_) fun k u=>?_)
  ·have m:=E8 hi;unfold aId;rw[Bl hi,anR l l[i] A8 (hs _ m) hd (hd _ m),AQ,wrap_succ i A8];cases I:U4 l l[i]with
   |false=>exact .ret (by rw[Y0 m I];rfl)
   |true=>
    refine J fun j q z=>?_;by_cases e:j=i
    ·subst e;exact I
    exact u j A8 z
  unfold aId;rw[CZ];exact .ret (by rw[all_good fun j q=>u j q q];rfl)
section
variable {α β R : Type} {lt : α → α → Bool}
def J4 (lt:α→α→Bool) (A:List α) (x:α):List α:=(A.reverse.dropWhile (lt x)).reverse++x::(A.reverse.takeWhile (lt x)).reverse
def aRc {A:List α} {a x:α} (h:lt x a=true):J4 lt (A++[a]) x=J4 lt A x++[a]:=by
 unfold J4;rw[aLB,List.reverse_singleton,List.singleton_append,aR3 h,List.takeWhile_cons_of_pos h,List.reverse_cons,Gq];rfl
def aNx {A:List α} {a x:α} (h:lt x a=false):J4 lt (A++[a]) x=A++a::[x]:=by
 have h':¬lt x a=true:=by rw[h];simp
 unfold J4;rw[aLB,List.reverse_singleton,List.singleton_append,aaL h',List.takeWhile_cons_of_neg h'];simp
def aqO (A:List α) (x:α):(J4 lt A x).length=A.length+1:=by
 unfold J4;have :=BH List.length (jm (p:=lt x) (l:=A.reverse));simp only[Dk,List.length_reverse,FC]at this ⊢;omega
def aaq (A:List α) (x:α):(J4 lt A x).Perm (x::A):=by
 unfold J4;refine aAN.trans (List.Perm.cons x ?_);rw[←aLB,jm,List.reverse_reverse]
def arf {lt':β→β→Bool} {f:α→β} (h:∀x a,lt x a=lt' (f x) (f a)) (A:List α) (x:α):(J4 lt A x).map f=J4 lt' (A.map f) (f x):=by
 have e:lt x=lt' (f x)∘f:=funext fun a=>h x a;unfold J4;have j:(A.map f).reverse=A.reverse.map f:=aGY.symm;rw[j,List.dropWhile_map,List.takeWhile_map,Ip,I7,aGY,aGY,e]
def aNw {lt':β→β→Bool} {f:α→β} (h:∀x a,lt x a=lt' (f x) (f a)):∀(l A:List α),(l.foldl (J4 lt) A).map f=(l.map f).foldl (J4 lt') (A.map f)
 | [],A=>rfl
 |x::l,A=>by rw[El,aNw h l,I7,El,arf h]
def aEb :∀(l A:List α),(l.foldl (J4 lt) A).length=A.length+l.length
 | [],A=>rfl
 |x::l,A=>by rw[El,aEb l,aqO,FC];omega
def aeK :∀(l A:List α),(l.foldl (J4 lt) A).Perm (A++l)
 | [],A=>by rw[PG];exact .refl _
 |x::l,A=>by
  rw[El];exact(aeK l (J4 lt A x)).trans (((aaq A x).append_right l).trans (aAN (l₁:=A) (l₂:=l) (a:=x)).symm)
def aAS (A:List α) (x:α) (B:List α):Af (A++x::B) (A.length:Int)=some x:=by rw[qU];simp
def aG3 (A:List α) (a x:α) (B:List α):Af (A++a::x::B) ((A.length+1:Nat):Int)=some x:=by rw[qU];simp
def set_mid (A:List α) (x y:α) (B:List α):(A++x::B).set A.length y=A++y::B:=Am
def aOm (A:List α) (a x y:α) (B:List α):(A++a::x::B).set (A.length+1) y=A++a::y::B:=by
 have :=set_mid (A++[a]) x y B;simpa using this
def bubble {body:(Int→List α→Option R)→Int→List α→Option R} (j:List α→Option R) (N:Nat) (U:∀k x B,(x::B).length=N→body k 0 (x::B)=j (x::B))
 (hs:∀k A a x B,(A++a::x::B).length=N→body k ((A.length+1:Nat):Int) (A++a::x::B)=bif lt x a then k (A.length:Int) (A++x::a::B)else j (A++a::x::B)):
 ∀n (A:List α) (x:α) (B:List α),A.length=n→(A++x::B).length=N→∀m,n<m→aP body m (A.length:Int) (A++x::B)=j (J4 lt A x++B):=by
 intro n
 induction n with
 |zero=>
  intro A x B I J m Y;obtain⟨m,rfl⟩:∃L,m=L+1:=⟨m-1,A8⟩
  obtain rfl:=GN I;exact U _ x B J
 |succ n Z=>
  intro A x B I J m Y;obtain⟨m,rfl⟩:∃L,m=L+1:=⟨m-1,A8⟩
  have q:A≠[]:=fun e=>by subst e;cases I
  obtain⟨A',a,rfl⟩:∃A' a,A=A'++[a]:=⟨A.dropLast,A.getLast q,(List.dropLast_concat_getLast q).symm⟩
  have M:A'.length=n:=PK
  have O:A'++[a]++x::B=A'++a::x::B:=Am
  have u:(A'++a::x::B).length=N:=by rw[←O];exact J
  have e2:(A'++[a]).length=A'.length+1:=Am
  rw[O,e2];show body (aP body m) _ _=_;rw[hs _ A' a x B u];cases z:lt x a with
  |true=>
   rw[BA,Z A' x (a::B) M (by simp at u ⊢;omega) m A8,aRc z];simp
  |false=>rw[Ar,aNx z];simp
end
def Gp (a b:AL):Bool:=decide (a.Depth<b.Depth)||((a.Depth==b.Depth)&&decide (a.Id<b.Id))
def Wu (l:List AL):List AL:=l.foldl (J4 Gp) []
def OX (l:List AL):List Int:=(Wu l).map (·.Id)
def aMO (l:List AL):(Wu l).length=l.length:=by unfold Wu;rw[aEb];simp
def pK (l:List AL):(Wu l).Perm l:=by have :=aeK (lt:=Gp) l [];rwa [Hd]at this
def ard (a b:AL):aJR a b=some (Gp a b):=by
 unfold aJR Gp;cases decide (a.Depth<b.Depth)<;>cases(a.Depth==b.Depth)<;>rfl
def aMR {α β:Type} {f:β→α→β} {b:β} {l:List α} {i:Nat} (h:i<l.length):(l.take (i+1)).foldl f b=f ((l.take i).foldl f b) l[i]:=by
 rw[Tc,Ce h,Qo,Uy];rfl
def map_take {α β:Type} {f:α→β} {l:List α} {i:Nat} (h:i<l.length):(l.take (i+1)).map f=(l.take i).map f++[f l[i]]:=by
 rw[Tc,Ce h,Qo,Ip];rfl
def agG (l:List AL) (hl:l.length≤1000000):aGR l=some (l.map (·.Id)):=by
 unfold aGR aQT;refine dQ.eq (KX l.length (fuel_lt A8) (fun i a=>a=(l.take i).map (·.Id)) rfl (fun i a k hi ha j=>?_) fun a k ha=>?_)
 ·unfold aKM;have hlen:a.length≤i:=aEc
  rw[Bl hi,D5 FW,AQ,wrap_succ i A8];exact j _ (by rw[map_take hi,ha])
 unfold aKM;rw[D7];exact .ret nC
def aou (l:List AL) (hl:l.length≤1000):aJ5 l=some (OX l):=by
 unfold aJ5 aRp;refine dQ.eq (KX l.length (fuel_lt A8) (fun i a=>a=(l.take i).foldl (J4 Gp) []) rfl (fun i a k hi ha q=>?_) fun a k ha=>?_)
 ·have hlen:a.length=i:=by rw[ha,aEb,FI];simp;omega
  unfold aEm;rw[Bl hi,D5 FW,AQ];unfold ad1;have j:=bubble (lt:=Gp) (body:=aDL k (i:Int)) (fun v=>k v ((i+1:Nat):Int)) (i+1) (fun k2 x B m=>?_) (fun k2 A b x B m=>?_) i a l[i] [] hlen DK Ag (fuel_lt A8)
  ·rw[hlen]at j;rw[j,PG];exact q _ (by rw[aMR hi,ha])
  ·unfold aDL aB2;rw[wrap_succ i A8];rfl
  have z:A.length+2≤i+1:=by rw[←m];simp
  have u:Ah (((A.length+1:Nat):Int)-1)=(A.length:Int):=PI
  unfold aDL aB2;rw[Ht (show((A.length+1:Nat):Int)>0 by omega),BA,aG3,AQ,u,aAS,AQ,ard,AQ,wrap_succ i A8];cases Gp x b with
  |false=>rfl
  |true=>
   simp only[BA,AQ,Ws];rw[aOm,aAS,AQ,set_mid]
 unfold aEm;rw[CZ,Ar];have e:a=Wu l:=by rw[ha,GY];rfl
 rw[e,agG _ (by rw[aMO];omega)];exact .ret rfl
def rV (e:AL):QJ:=⟨e.Depth,e.Id⟩
def eS (a b:QJ):Bool:=decide (a.nN<b.nN)||((a.nN==b.nN)&&decide (a.lU<b.lU))
def arZ (a x:QJ):(bif decide (a.nN<x.nN)then some true else(bif (a.nN==x.nN)then some (decide (a.lU≤x.lU))else some false).bind fun j=>some j)=some (!eS x a):=by
 unfold eS;by_cases m:a.nN<x.nN
 ·rw[Ht m,BA,Hr A8,show(x.nN==a.nN)=false by simp;omega];rfl
 rw[Hr m,Ar];by_cases q:a.nN=x.nN
 ·rw[q,Hr (show ¬x.nN<x.nN by omega)];simp only[Rn,BA,AQ,Kv,FT];by_cases u:a.lU≤x.lU
  ·rw[Ht u,Hr A8];rfl
  rw[Hr u,Ht A8];rfl
 rw[show(a.nN==x.nN)=false by simpa using q,Ht (show x.nN<a.nN by omega)];rfl
def afw (l:List AL) (hl:l.length≤1000):yM l=some (OX l):=by
 have J:IK 16 aCJ 0 (l.length:Int)=some []:=by unfold IK;rw[CJ ⟨Int.le_refl _,A8,A8⟩];rfl
 unfold yM;rw[J,AQ];unfold aOk;refine dQ.eq (KX l.length (fuel_lt A8) (fun i a=>a=((l.take i).map rV).foldl (J4 eS) []) rfl (fun i a k hi ha L=>?_) fun a k ha=>?_)
 ·have hlen:a.length=i:=by rw[ha,aEb,C9,FI];simp;omega
  unfold aLN;rw[Bl hi,Bf hi,AQ,D5 FW,AQ];unfold aNt;have M:Ah (((a++[(⟨l[i].Depth,l[i].Id⟩:QJ)]).length:Int)-1)=(a.length:Int):=aLn
  rw[M];have O:=bubble (lt:=eS) (body:=jT k (i:Int)) (fun v=>k v ((i+1:Nat):Int)) (i+1) (fun k2 x B q=>?_) (fun k2 A b x B q=>?_) i a (rV l[i]) [] hlen DK Ag (fuel_lt A8)
  ·show dQ (aP (jT k (i:Int)) Ag (a.length:Int) (a++[rV l[i]])) _;rw[O,PG];exact L _ (by rw[map_take hi,Uy,ha];rfl)
  ·unfold jT um;rw[wrap_succ i A8];rfl
  have hA:A.length+2≤i+1:=by rw[←q];simp
  have U:Ah (((A.length+1:Nat):Int)-1)=(A.length:Int):=PI
  unfold jT um;rw[Ht (show((A.length+1:Nat):Int)>0 by omega),BA,U,aAS,AQ,aG3,AQ,arZ,AQ,wrap_succ i A8];cases eS x b with
  |false=>rfl
  |true=>
   simp only[Dv,Ar,BA,AQ,Ws];rw[set_mid,aG3,AQ,aOm]
 unfold aLN;rw[D7];have e:a=(Wu l).map rV:=by rw[ha,GY];exact(aNw (lt:=Gp) (lt':=eS) (f:=rV) (fun _ _=>rfl) l []).symm
 have Y:a.length=l.length:=by rw[e,C9,aMO]
 have Z:IK 8 0 (a.length:Int) (a.length:Int)=some (List.replicate a.length (0:Int)):=by unfold IK;rw[CJ ⟨A8,Int.le_refl _,A8⟩];simp
 have e2:OX l=a.map (·.lU):=by rw[e,qg];rfl
 rw[Z,AQ,e2];unfold aOa;refine UQ (body:=aEl a) (Q:=fun r=>r=a.map (·.lU)) (fun n (x:Int) (o:List Int) (p:List QJ)=>∃i:Nat,x=i∧i+n=a.length∧o=(a.take i).map (·.lU)++List.replicate (a.length-i) 0∧p=a) ?_ Ag a.length 0 (List.replicate a.length 0) a (fuel_lt A8) ⟨0,rfl,A8,Am,rfl⟩;rintro n x o p k2 ⟨i,rfl,hn,u,rfl⟩ m;unfold aEl;by_cases hi:i<p.length
 ·have I:((p.take i).map (·.lU)).length=i:=by rw[C9,FI];omega
  obtain⟨z,hz⟩:∃z,p.length-i=z+1:=⟨p.length-i-1,A8⟩
  have j:o=(p.take i).map (·.lU)++0::List.replicate z 0:=by rw[u,hz,List.replicate_succ]
  have g2:Af o (i:Int)=some 0:=by have :=aAS ((p.take i).map (·.lU)) 0 (List.replicate z 0);rw[I]at this;rw[j];exact this
  have s2:o.set i p[i].lU=(p.take i).map (·.lU)++p[i].lU::List.replicate z 0:=by have :=set_mid ((p.take i).map (·.lU)) 0 p[i].lU (List.replicate z 0);rw[I]at this;rw[j];exact this
  rw[Bl hi,g2,AQ];refine m (n-1) _ _ _ A8 ⟨i+1,wrap_succ i A8,A8,?_,rfl⟩;rw[Ws,s2,map_take hi,show p.length-(i+1)=z by omega];simp
 have :i=p.length:=A8
 subst this;rw[D7];exact .ret (by rw[u];simp)
def aFq {α:Type} {p:α→Bool} {l:List α} {i:Nat} (h:i<l.length):(l.take (i+1)).filter p=(l.take i).filter p++bif p l[i]then[l[i]]else[]:=by
 rw[Tc,Ce h,Qo,Ot];cases j:p l[i]<;>simp[j]
def aFD {α:Type} {p:α→Bool} {l:List α} {i:Nat} (h:i<l.length):(l.take (i+1)).any p=((l.take i).any p||p l[i]):=by
 rw[Tc,Ce h,Qo,aGk];simp
def QD (x y:AL):Bool:=y.Kind==x.Kind&&decide (y.Key=x.Key)
def Iz (m:List Ai):List AL→List AL→Bool
 |_,[]=>true
 |j,x::xs=>(m.any fun k=>Dt k x)&& !j.any (QD x)&&Iz m (j++[x]) xs
def Oq (x:AL):Bool:=x.Kind==1&&decide (x.Key=BU)
def Oo (l:List AL) (e:AL):Int:=
 bif !e.bf.all (cZ l)then 14 else bif !(ofIds l e.bf).all (fun x=>decide (x.Room=e.Room))then 13
 else bif Iz (keysOf e) [] (ofIds l e.bf)&&(e.Kind==1||(ofIds l e.bf).any Oq)then 0 else 16
def Yk {k:Ai} {x:AL}:Dt k x=true↔x.Kind=k.Kind∧x.Key=k.Key:=by unfold Dt;simp
def aRj {x y:AL}:QD x y=true↔y.Kind=x.Kind∧y.Key=x.Key:=by unfold QD;simp
def aRI {j:List Ai} {X:List AL} {i:Nat} (h:i<X.length):Iz j (X.take i) (X.drop i)=((j.any fun k=>Dt k X[i])&& !(X.take i).any (QD X[i])&&Iz j (X.take (i+1)) (X.drop (i+1))):=by
 rw[Jp h,Tc,Ce h];rfl
def adY {j:List Ai} (X:List AL):Iz j (X.take X.length) (X.drop X.length)=true:=by rw[Na];rfl
def adg (X:List AL) (k:Int) (key:ByteArray) (h:X.length≤1000):ZT (X.map fun x=>(⟨x.Kind,x.Key,0⟩:Ai)) k key=some (X.any fun y=>y.Kind==k&&decide (y.Key=key)):=by
 unfold ZT aHI;rw[GK (X.map fun x=>(⟨x.Kind,x.Key,0⟩:Ai)) (fuel_lt Xi) (fun y=>y.Kind==k&&decide (y.Key=key)) true (some false)]
 ·rw[List.any_map];show(bif X.any (fun y=>y.Kind==k&&decide (y.Key=key))then some true else some false)=_;cases X.any (fun y=>y.Kind==k&&decide (y.Key=key))<;>rfl
 ·intro q i hi;unfold sW;rw[Bl hi,Bf hi,AQ,HY];cases((X.map fun x=>(⟨x.Kind,x.Key,0⟩:Ai))[i].Kind==k)<;>rfl
 intro q;unfold sW;rw[CZ];rfl
def afz (j:List Ai) (x:AL) (h:j.length≤1000):ZT j x.Kind x.Key=some (j.any fun k=>Dt k x):=by
 unfold ZT aHI;rw[GK j (fuel_lt A8) (fun k=>Dt k x) true (some false)]
 ·cases j.any (fun k=>Dt k x)<;>rfl
 ·intro q i hi;unfold sW;rw[Bl hi,Bf hi,AQ,HY];have m:(j[i].Kind==x.Kind)=(x.Kind==j[i].Kind):=by rw[Q8,PZ,PZ];exact eq_comm
  have u:decide (j[i].Key=x.Key)=decide (x.Key=j[i].Key):=rH.2 eq_comm;unfold Dt;rw[m,u];cases(x.Kind==j[i].Kind)<;>rfl
 intro q;unfold sW;rw[CZ];rfl
def aqI (X:List AL) (e:AL) (O:X.length≤40):aN9 X (keysOf e) e [] 0=some (bif Iz (keysOf e) [] X&&(e.Kind==1||X.any Oq)then 0 else 16):=by
 have I:=VD e;unfold aN9;refine dQ.eq (KX X.length (fuel_lt A8) (fun i a=>a=(X.take i).map (fun x=>(⟨x.Kind,x.Key,0⟩:Ai))∧Iz (keysOf e) [] X=Iz (keysOf e) (X.take i) (X.drop i)) ⟨rfl,rfl⟩ (fun i a k hi ha J=>?_) fun a k ha=>?_)
 ·obtain⟨rfl,j⟩:=ha;unfold aIS;rw[Bl hi,Bf hi,AQ,afz _ _ A8,AQ];rw[aRI hi]at j
  have q:∀b,Iz (keysOf e) [] X=(!b&&Iz (keysOf e) (X.take (i+1)) (X.drop (i+1)))→dQ (zN X (i:Int) ((X.take i).map fun x=>(⟨x.Kind,x.Key,0⟩:Ai)) k b) (· =bif Iz (keysOf e) [] X&&(e.Kind==1||X.any Oq)then 0 else 16):=fun b u=>by
   unfold zN;cases b with
   |true=>exact .ret oP
   |false=>
    simp only[Ar];rw[Bf hi,AQ,AQ,D5 (by simp only[MS,C9,FI];omega),AQ,wrap_succ i A8];exact J _ ⟨by rw[map_take hi],oP⟩
  cases z:(keysOf e).any fun k=>Dt k X[i]with
  |false=>
   rw[I4,BA];exact q true (by rw[j,z];rfl)
  |true=>
   rw[Dv,Ar];have L:(fun y:AL=>y.Kind==X[i].Kind&&decide (y.Key=X[i].Key))=QD X[i]:=rfl;rw[AQ,AQ,adg _ _ _ (by rw[FI];omega),AQ,L];exact q _ (by rw[j,z,FT])
 obtain⟨rfl,j⟩:=ha;rw[adY]at j;unfold aIS;rw[CZ,Ar,GY,j,adg _ _ _ A8];have M:(X.any fun y=>y.Kind==1&&decide (y.Key=BU))=X.any Oq:=rfl;rw[M];have m:(e.Kind != 1)= !(e.Kind==1):=rfl;rw[m];cases e.Kind==1<;>cases X.any Oq<;>exact .ret rfl
def ajj (X:List AL) (e:AL) (j:X.length≤40):aK2 X e 0=some (bif !X.all (fun x=>decide (x.Room=e.Room))then 13 else bif Iz (keysOf e) [] X&&(e.Kind==1||X.any Oq)then 0 else 16):=by
 unfold aK2;rw[GK X (fuel_lt A8) (fun x=> !decide (x.Room=e.Room)) 13 (some (bif Iz (keysOf e) [] X&&(e.Kind==1||X.any Oq)then 0 else 16))]
 ·rw[nI];cases X.all (fun x=>decide (x.Room=e.Room))<;>rfl
 ·intro k i hi;unfold aMK;rw[Bl hi,HY]
 intro k;unfold aMK;rw[D7,aKn,AQ,aqI X e j]
def arC (l:List AL) (e:AL) (hl:l.length≤100) (j:GV e):aJG l e=some (Oo l e):=by
 have m:=j.auth;have q:=Yu l e.bf;unfold aJG aQn Oo;rw[GK e.bf (fuel_lt A8) (fun x=> !cZ l x) 14 (some (bif !(ofIds l e.bf).all (fun x=>decide (x.Room=e.Room))then 13 else bif Iz (keysOf e) [] (ofIds l e.bf)&&(e.Kind==1||(ofIds l e.bf).any Oq)then 0 else 16))]
 ·rw[nI];cases e.bf.all (cZ l)<;>rfl
 ·intro k i hi;unfold aK8;rw[Bl hi,Le l _ A8,AQ,Nq];rfl
 intro k;unfold aK8;rw[CZ,Ar,aKE l _ A8 A8,AQ,ajj _ e A8]
def agL (k:Ai) (e:AL):UU (IL k) e=some (Dt k e):=by
 unfold UU Dt IL;cases h:(e.Kind==k.Kind)with
 |false=>rfl
 |true=>show some (e.Key.toList==k.Key.toList)=_;rw[HY,FT]
def alu (j:List Ai) (x:AL) (h:j.length≤100):yZ (j.map IL) x=some (if j.findIdx (fun k=>Dt k x)<j.length then((j.findIdx (fun k=>Dt k x):Nat):Int)else -1):=by
 unfold yZ aPt
 have q:∀k (i:Nat),i<j.length→aBe (j.map IL) x k (i:Int)=bif Dt (j.getD i ⟨0,BU,0⟩) x then some (i:Int)else k (Ah ((i:Int)+1)):=fun k i hi=>by
  unfold aBe;have m:i<(j.map IL).length:=aMW
  rw[Bl m,Po];show((UU (IL j[i]) x).bind _)=_;rw[agL,AQ];simp[List.getD,hi]
 rw[Ie j (fuel_lt A8) (fun k=>Dt k x) (fun i=>some (i:Int)) (some (-1))]
 ·split<;>rfl
 ·intro k i hi;rw[q k i hi];simp[List.getD,hi]
 intro k;unfold aBe;rw[show((j.map IL).length:Int)=(j.length:Int) by rw[C9],CZ];rfl
def aeo {α:Type} {p:α→Bool}:∀l:List α,l.Pairwise (fun a b=>¬(p a=true∧p b=true))→l.findIdx p<l.length→l.filter (fun x=> !p x)=l.take (l.findIdx p)++l.drop (l.findIdx p+1)
 | [],_,h=>absurd h (Nat.not_lt_zero _)
 |a::l,j,h=>by
  obtain⟨m,q⟩:=O7.1 j;rw[SP]at h ⊢;cases ha:p a with
  |true=>
   rw[List.filter_cons_of_neg (by simp[ha]),uf.2 fun b u=>by
    cases z:p b with
    |false=>rfl
    |true=>exact absurd ⟨ha,z⟩ (m b u)]
   rfl
  |false=>
   rw[ha]at h;rw[List.filter_cons_of_pos (by simp[ha]),aeo l q JU];rfl
def abt {α:Type} {p:α→Bool}:∀l:List α,decide (l.findIdx p<l.length)=l.any p
 | []=>rfl
 |a::l=>by
  have j:=abt (p:=p) l;rw[SP,Y7,←j];cases p a<;>simp
def agn (e:AL):IQ (keysOf e):=by
 have z:IQ (Jc e):=Vf (Vf (Vf List.Pairwise.nil _ _ _) _ _ _) _ _ _;unfold keysOf;cases e.Kind==1<;>cases e.Kind==2<;>cases(e.Content.N==3||e.Content.N==1||e.Content.N==2)<;>simp only[BA,Ar]
 ·exact z
 ·exact z
 ·exact Vf z _ _ _
 ·exact Vf (Vf z _ _ _) _ _ _
 all_goals exact List.Pairwise.nil
def ajN {e:AL} {k:Ai} (h:k∈keysOf e) (m:k.Kind=1):k.Key=BU:=by
 have z:∀x∈Jc e,x.Kind=1→x.Key=BU:=fun x j u=>by
  unfold Jc at j;rcases Pg j with rfl|j
  ·cases u
  rcases Pg j with rfl|j
  ·cases u
  rcases Pg j with rfl|j
  ·rfl
  cases j
 unfold keysOf at h;cases q:e.Kind==1 with
 |true=>rw[q]at h;cases h
 |false=>
  cases I:e.Kind==2 with
  |false=>rw[q,I]at h;exact z k h m
  |true=>
   rw[q,I]at h;cases J:(e.Content.N==3||e.Content.N==1||e.Content.N==2)with
   |true=>
    rw[J]at h;rcases Pg h with rfl|h
    ·cases m
    rcases Pg h with rfl|h
    ·cases m
    exact z k h m
   |false=>
    rw[J]at h;rcases Pg h with rfl|h
    ·cases m
    exact z k h m
def abH {q:List Ai}:∀(X j:List AL),Iz q j X=true→∀x∈X,∃k∈q,Dt k x=true
 | [],_,_,_,h=>absurd h Ef
 |y::X,j,h,x,m=>by
  unfold Iz at h;simp only[CV]at h;rcases EO.1 m with rfl|m
  ·obtain⟨k,u,z⟩:=Gw.1 h.1.1;exact⟨k,u,z⟩
  exact abH X _ h.2 x m
def any_congr {α:Type} {l:List α} {p q:α→Bool} (h:∀x∈l,p x=q x):l.any p=l.any q:=by
 rw[Q8,Gw,Gw];exact⟨fun⟨x,j,k⟩=>⟨x,j,by rw[←h x j];exact k⟩,fun⟨x,j,k⟩=>⟨x,j,by rw[h x j];exact k⟩⟩
def air (l:List AL) (e:AL) (hl:l.length≤100) (he:GV e):qI l e=some (Oo l e):=by
 have h1:=he.auth;have hk5:=VD e;have hsk:=agn e;unfold qI adN;refine dQ.eq (KX e.bf.length (fuel_lt A8) (fun i a=>a=ofIds l (e.bf.take i)∧∀x∈e.bf.take i,cZ l x=true) ⟨rfl,fun x U=>by simp at U⟩ (fun i a k hi ha I=>?_) fun a k ha=>?_)
 ·obtain⟨rfl,q⟩:=ha;have hal:=Yu l (e.bf.take i);rw[FI]at hal;unfold wF;rw[Bl hi,L8 l _ A8,AQ,wrap_succ i A8];cases Y:DT l e.bf[i]with
  |none=>
   rw[QN Y];refine .ret ?_;unfold Oo;rw[Y0 (E8 hi) (show cZ l e.bf[i]=false by unfold cZ;rw[Y];rfl)];rfl
  |some x=>
   rw[KT Y];simp only[Dv,Ar];rw[D5 FW,AQ];refine I _ ⟨?_,fun y z=>?_⟩
   ·unfold ofIds;rw[Tc,Ce hi,Qo,eG,Ny,Y];rfl
   rw[Tc,Ce hi,Qo,Fz,GZ]at z;rcases z with z|rfl
   ·exact q y z
   unfold cZ;rw[Y];rfl
 obtain⟨rfl,q⟩:=ha;rw[GY]at q ⊢;have U:=Yu l e.bf;have Z:e.bf.all (cZ l)=true:=E5.2 q;unfold wF;rw[D7];unfold Oo;rw[Z];simp only[Dv,Ar];generalize ofIds l e.bf=X at U;unfold abX;rw[GK X (fuel_lt A8) (fun x=> !decide (x.Room=e.Room)) 13 (some (bif Iz (keysOf e) [] X&&(e.Kind==1||X.any Oq)then 0 else 16))]
 ·rw[nI];cases X.all (fun x=>decide (x.Room=e.Room))<;>exact .ret rfl
 ·intro k2 i hi;unfold aCx;rw[Bl hi,HY]
 intro k2;unfold aCx;rw[D7,aOE,AQ];unfold aez;refine dQ.eq (UQ (body:=aEN X) (Q:=(· =bif Iz (keysOf e) [] X&&(e.Kind==1||X.any Oq)then 0 else 16)) (fun n b ks x=>∃i:Nat,x=i∧i+n=X.length∧ks=((keysOf e).filter fun k=> !(X.take i).any (Dt k)).map IL∧b=(e.Kind==1||(X.take i).any fun x=>x.Kind==1)∧Iz (keysOf e) [] X=Iz (keysOf e) (X.take i) (X.drop i)) ?_ Ag X.length (e.Kind==1) ((keysOf e).map IL) 0 (fuel_lt A8) ⟨0,rfl,A8,by rw[aGV];exact BH (List.map IL) (uf.2 fun _ _=>rfl).symm,Am,rfl⟩);rintro n b ks x k3 ⟨i,rfl,hn,hks,hb,u⟩ hk3;unfold aEN;by_cases hi:i<X.length
 ·rw[aRI hi]at u;have hlk:((keysOf e).filter fun k=> !(X.take i).any (Dt k)).length≤5:=EZ (JD _ _) hk5;rw[Bl hi,hks,alu _ _ A8,AQ];have J:=abt (p:=fun k=>Dt k X[i]) ((keysOf e).filter fun k=> !(X.take i).any (Dt k))
  have L:(((keysOf e).filter fun k=> !(X.take i).any (Dt k)).any fun k=>Dt k X[i])=((keysOf e).any (fun k=>Dt k X[i])&& !(X.take i).any (QD X[i])):=by
   rw[Q8,Gw,CV,Gw,Qq,←Jd,Gw];constructor
   ·rintro⟨k,I,M⟩;obtain⟨hk1,hk2⟩:=ET.1 I;refine⟨⟨k,hk1,M⟩,?_⟩;rintro⟨y,z,hs⟩;obtain⟨m1,m2⟩:=Yk.1 M;obtain⟨s1,s2⟩:=aRj.1 hs;rw[Gw.2 ⟨y,z,Yk.2 ⟨s1.trans m1,s2.trans m2⟩⟩]at hk2;cases hk2
   rintro⟨⟨k,I,M⟩,hno⟩;refine⟨k,ET.2 ⟨I,?_⟩,M⟩;rw[Qq,←Jd,Gw];rintro⟨y,z,hs⟩;obtain⟨m1,m2⟩:=Yk.1 M;obtain⟨s1,s2⟩:=Yk.1 hs;exact hno ⟨y,z,aRj.2 ⟨s1.trans m1.symm,s2.trans m2.symm⟩⟩
  rw[←L,←J]at u;by_cases m:((keysOf e).filter fun k=> !(X.take i).any (Dt k)).findIdx (fun k=>Dt k X[i])<((keysOf e).filter fun k=> !(X.take i).any (Dt k)).length
  ·rw[CJ m,Hr A8,Ar];rw[Ht m,FT]at u;have hlm:(((keysOf e).filter fun k=> !(X.take i).any (Dt k)).map IL).length=((keysOf e).filter fun k=> !(X.take i).any (Dt k)).length:=C9 ..
   have hpw:((keysOf e).filter fun k=> !(X.take i).any (Dt k)).Pairwise (fun a b=>¬(Dt a X[i]=true∧Dt b X[i]=true)):=by
    refine(List.Pairwise.sublist Qx hsk).imp fun{a b} hab h=>?_;obtain⟨a1,a2⟩:=Yk.1 h.1;obtain⟨b1,b2⟩:=Yk.1 h.2;rw[ku (VK.2 ⟨a1.symm.trans b1,a2.symm.trans b2⟩)]at hab;cases hab
   have hd:=aeo _ hpw m
   have O:((keysOf e).filter fun k=> !(X.take i).any (Dt k)).filter (fun k=> !Dt k X[i])=(keysOf e).filter fun k=> !(X.take (i+1)).any (Dt k):=by
    rw[List.filter_filter];refine lN fun k _=>?_;rw[aFD hi];cases(X.take i).any (Dt k)<;>cases Dt k X[i]<;>rfl
   rw[O]at hd;generalize((keysOf e).filter fun k=> !(X.take i).any (Dt k))=K at m hd hlm hlk;generalize K.findIdx (fun k=>Dt k X[i])=j at m hd;have s1:Gh (K.map IL) 0 (j:Int)=some (((K.map IL).drop 0).take (j-0)):=iZ (lo:=0) (EK _) A8;have s2:Gh (K.map IL) (Ah ((j:Int)+1)) ((K.map IL).length:Int)=some (((K.map IL).drop (j+1)).take ((K.map IL).length-(j+1))):=by rw[wrap_succ j A8];exact iZ A8 (Dc _)
   rw[s1,AQ,s2,AQ,D5 (by simp only[FI,KA];omega),AQ];have hb3:(bif b then some true else(Af X (i:Int)).bind fun x28=>some (x28.Kind==1))=some (b||X[i].Kind==1):=by rw[Bf hi];cases b<;>rfl
   rw[hb3,AQ];refine hk3 (n-1) _ _ _ A8 ⟨i+1,wrap_succ i A8,A8,?_,?_,u⟩
   ·rw[hd,Ip,XY,Yv,Nat.sub_zero,jL,PE (l:=(K.map IL).drop (j+1)) (by rw[KA];omega)]
   rw[aFD hi,hb,Bool.or_assoc]
  rw[CU m];rw[Hr m,Bool.false_and]at u;exact .ret oP
 have :i=X.length:=A8
 subst this;rw[adY]at u;rw[D7,u,hb,GY,FT]
 have hc:(X.any fun x=>x.Kind==1)=X.any Oq:=any_congr fun x U=>by
  obtain⟨k,I,M⟩:=abH X [] u x U;obtain⟨m1,m2⟩:=Yk.1 M;unfold Oq;cases hq:x.Kind==1 with
  |false=>rfl
  |true=>rw[m2,ajN I (by rw[←m1];exact eq_of_beq hq)];simp
 rw[hc];cases(e.Kind==1||X.any Oq)<;>exact .ret rfl
def FK (l:List AL) (s:List Ai):List AL:=ofIds l (s.map (·.Id))
def Zu (l:List AL) (s:List Ai):(FK l s).length≤s.length:=by have :=Yu l (s.map (·.Id));rwa [C9]at this
def aEL {l:List AL} (hs:D9 l) (ids:List Int):D9 (ofIds l ids):=fun x j=>hs x (aGj j)
def aCL {l:List AL} {s:List Ai} {i:Nat} (h:i<s.length):FK l (s.take (i+1))=FK l (s.take i)++(DT l s[i].Id).toList:=by
 unfold FK ofIds;rw[map_take h,eG,Ny,List.filterMap_nil];cases DT l s[i].Id<;>rfl
def aKq (l:List AL) (s:List Ai) (hl:l.length≤100) (h:s.length≤1000):ZR l s=some (FK l s):=by
 unfold ZR jF;rw[AQ];unfold aRf;refine dQ.eq (aMH (body:=aNA s) (Q:=(· =FK l s)) (fun n a b c _ _=>∃i:Nat,b=i∧i+n=s.length∧c=l∧a=FK l (s.take i)) ?_ Ag s.length [] 0 l [] [] (fuel_lt A8) ⟨0,rfl,A8,rfl,rfl⟩);rintro n a b c d f k ⟨i,rfl,u,rfl,ha⟩ q;unfold aNA;by_cases hi:i<s.length
 ·have m:=Zu c (s.take i);rw[FI]at m;rw[Bl hi,L8 c _ A8,AQ,wrap_succ i A8];cases j:DT c s[i].Id with
  |none=>rw[QN j];exact q (n-1) _ _ _ _ _ A8 ⟨i+1,rfl,A8,rfl,by rw[aCL hi,j,ha];simp⟩
  |some x=>
   rw[KT j];simp only[BA];rw[D5 (by rw[ha];simp only[MS];omega),AQ];exact q (n-1) _ _ _ _ _ A8 ⟨i+1,rfl,A8,rfl,by rw[aCL hi,j,ha];rfl⟩
 have :i=s.length:=A8
 subst this;rw[D7];exact .ret nC
def aru (l:List AL) (s:List Ai) (hl:l.length≤100) (h:s.length≤1000):aEh l s=some (FK l s):=by
 unfold aEh aQw;refine dQ.eq (KX s.length (fuel_lt A8) (fun i a=>a=FK l (s.take i)) rfl (fun i a k hi ha q=>?_) fun a k ha=>?_)
 ·have m:=Zu l (s.take i);rw[FI]at m;unfold aKl aFk;rw[Bl hi,Le l _ A8,AQ,wrap_succ i A8];cases j:DT l s[i].Id with
  |none=>rw[QN j];exact q _ (by rw[aCL hi,j,ha];simp)
  |some x=>
   rw[KT j];simp only[BA];rw[D5 (by rw[ha];simp only[MS];omega),AQ];exact q _ (by rw[aCL hi,j,ha];rfl)
 unfold aKl;rw[CZ];exact .ret nC
structure Cx where
 id:Int
 before:List Ai
 after:List Ai
 err:Int
def F7 (t:List Cx) (x:Int):Option Cx:=t.find? fun y=>y.id==x
def L9 (t:List Cx) (x:Int):List Ai:=((F7 t x).map (·.after)).getD []
def errOf (t:List Cx) (x:Int):Int:=((F7 t x).map (·.err)).getD 0
def WR (l:List AL) (e:AL):Int:=bif Oo l e != 0 then Oo l e else Ls e (Qj l e)
def Ju (l:List AL) (t:List Cx) (e:AL) (s:List Ai):Int:=
 bif WR l e != 0 then WR l e else bif e.bf.any (fun x=>errOf t x != 0)then 16 else Ls e (FK l s)
def stB (l:List AL) (t:List Cx) (e:AL):List Ai:=WW l (e.bF.map (L9 t))
def WO (e:AL) (s:List Ai) (r:Int):Cx:=⟨e.Id,s,bif r==0&&GX e.Kind then Ew s e.Kind e.Key e.Id else s,r⟩
def Js (l:List AL) (t:List Cx) (e:AL):Cx:=WO e (stB l t e) (Ju l t e (stB l t e))
def La (l:List AL) (ids:List Int):List Cx:=ids.foldl (fun t id=>t++[Js l t (ev l id)]) []
def Jt (l:List AL):List Cx:=La l (OX l)
def aaf (l:List AL) {ids:List Int} {i:Nat} (h:i<ids.length):La l (ids.take (i+1))=La l (ids.take i)++[Js l (La l (ids.take i)) (ev l ids[i])]:=aMR h
def aRg {t:List Cx} {x:Int}:F7 t x=none↔x∉t.map (·.id):=by
 unfold F7;rw[vY,FH];exact⟨fun h ⟨y,j,e⟩=>h y j QK,fun h y j e=>h ⟨y,j,QK⟩⟩
def zS {t:List Cx} {y:Cx} (h:F7 t y.id=none) (x:Int):F7 (t++[y]) x=bif x==y.id then some y else F7 t x:=by
 unfold F7 at h ⊢;rw[lS];cases j:x==y.id with
 |true=>
  have e:=eq_of_beq j;subst e;rw[h];simp
 |false=>
  have :(y.id==x)=false:=by rw[←j,Q8,PZ,PZ];exact eq_comm
  simp[this]
def afy {t:List Cx} {x:Int} {y:Cx} (h:F7 t x=some y):y.id=x:=by have :=aH h;simpa using this
def aJx (l:List AL):∀(ids:List Int) (t:List Cx),(∀x∈ids,cZ l x=true)→(ids.foldl (fun t id=>t++[Js l t (ev l id)]) t).map (·.id)=t.map (·.id)++ids
 | [],t,_=>Am
 |x::ids,t,h=>by
  have j:(Js l t (ev l x)).id=x:=(Jb (h x (Ec ..))).2;rw[El,aJx l ids _ fun y m=>h y (Ez _ m),Ip,I7,List.map_nil,j,Gq];rfl
def JK (l:List AL) (t:List Cx):Prop:=∀y∈t,IB l y.before∧IB l y.after
def JK.after {l:List AL} {t:List Cx} (h:JK l t) (x:Int):IB l (L9 t x):=by
 unfold L9;cases hl:F7 t x with
 |none=>exact .nil l
 |some y=>exact(h y (Qh hl)).2
def JK.states {l:List AL} {t:List Cx} (h:JK l t) (ids:List Int):∀s∈ids.map (L9 t),IB l s:=fun s hs=>by
 obtain⟨x,_,rfl⟩:=FH.1 hs;exact h.after x
def JK.okay {l:List AL} {t:List Cx} (h:JK l t) (hl:l.length≤100) (hs:D9 l) (ids:List Int) (hi:ids.length≤100):Jy l (ids.map (L9 t)):=IB.okay hl hs aMW (h.states ids)
def JK.stB {l:List AL} {t:List Cx} (h:JK l t) (hl:l.length≤100) (hs:D9 l) {e:AL} (j:e.bF.length≤40):IB l (stB l t e):=IB.resolve (h.okay hl hs _ A8) (h.states _)
def JK.line {l:List AL} {t:List Cx} (h:JK l t) (hl:l.length≤100) (hs:D9 l) {e:AL} (u:e.bF.length≤40) (z:GX e.Kind=true→cZ l e.Id=true∧ev l e.Id=e):JK l (t++[Js l t e]):=fun y j=>by
 rcases Fz.1 j with j|j
 ·exact h y j
 rw[GZ.1 j];have m:=h.stB hl hs u;refine⟨m,?_⟩;show IB l (bif Ju l t e (Go.Proofs.YtkkdimcnpacjhaaGreat.stB l t e)==0&&GX e.Kind then Ew _ e.Kind e.Key e.Id else _);cases q:(Ju l t e (Go.Proofs.YtkkdimcnpacjhaaGreat.stB l t e)==0&&GX e.Kind)with
 |false=>exact m
 |true=>
  have hst:GX e.Kind=true:=by rw[CV]at q;exact q.2
  obtain⟨I,k2⟩:=z hst;exact m.set I k2 hst
def ahq {l:List AL} {id:Int} (h:GX (ev l id).Kind=true):cZ l (ev l id).Id=true∧ev l (ev l id).Id=ev l id:=by
 cases j:DT l id with
 |none=>unfold ev at h;rw[QN j]at h;exact absurd h BK
 |some e=>
  have m:cZ l id=true:=by unfold cZ;rw[j];rfl
  have :=(Jb m).2;rw[this];exact⟨m,rfl⟩
def agb :GV Ej:=⟨EK _,EK _,EK _,EK _,EK _,EK _,EK _,EK _,EK _,EK _,EK _,EK _,fun _ h=>absurd h Ef,fun _ h=>absurd h Ef,fun _ h=>absurd h Ef⟩
def zs {l:List AL} (hs:D9 l) (id:Int):GV (ev l id):=by
 unfold ev GH;cases h:DT l id with
 |none=>exact agb
 |some e=>exact hs e (OC h)
def yX {l:List AL} (hl:l.length≤100) (hs:D9 l):∀(ids:List Int) (t:List Cx),JK l t→JK l (ids.foldl (fun t id=>t++[Js l t (ev l id)]) t)
 | [],t,h=>h
 |x::ids,t,h=>by rw[El];exact yX hl hs ids _ (h.line hl hs (zs hs x).prev ahq)
structure Nk (t:List Cx) (m1 m2:List (Int×List Ai)) (m3:List (Int×Int)):Prop where
 b:∀x,CB m1 x=(F7 t x).map (·.before)
 a:∀x,CB m2 x=(F7 t x).map (·.after)
 r:∀x,CB m3 x=(F7 t x).map (·.err)
def Nk.after {t:List Cx} {m j:List (Int×List Ai)} {q:List (Int×Int)} (h:Nk t m j q) (x:Int):(CB j x).getD []=L9 t x:=by rw[h.a];rfl
def Nk.err {t:List Cx} {m q:List (Int×List Ai)} {j:List (Int×Int)} (h:Nk t m q j) (x:Int):(CB j x).getD 0=errOf t x:=by rw[h.r];rfl
def akr {t:List Cx} {m q:List (Int×List Ai)} {u:List (Int×Int)} (h:Nk t m q u) (l:List AL) (e:AL) (s:List Ai) (hl:l.length≤100) (hs:D9 l) (j:GV e) (z:s.length≤100):
 aAa m q u l e s=some (Ju l t e s):=by
 have J:=j.auth;have L:=Zu l s;unfold aAa Ju WR;rw[air l e hl j,AQ];cases I:Oo l e != 0 with
 |true=>simp only[BA];rw[I];rfl
 |false=>
  simp only[Ar];rw[aPC l e A8 A8,AQ,aMU e _ (EZ (xU l e) A8) (hs.from e) j,AQ];cases ha:Ls e (Qj l e) != 0 with
  |true=>rfl
  |false=>
   simp only[Ar];unfold aOV;rw[GK e.bf (fuel_lt A8) (fun x=>errOf t x != 0) 16 (some (Ls e (FK l s)))]
   ·cases e.bf.any (fun x=>errOf t x != 0)<;>rfl
   ·intro k i hi;unfold aI6;rw[Bl hi,h.err]
   intro k;unfold aI6;rw[D7,aKq l s hl A8,AQ,aMU e (FK l s) A8 (aEL hs _) j];rfl
def Nk.snoc {t:List Cx} {z I j m:List (Int×List Ai)} {J q:List (Int×Int)} (h:Nk t z I J) {y:Cx} (u:F7 t y.id=none)
 (L:∀x,CB j x=bif x==y.id then some y.before else CB z x) (M:∀x,CB m x=bif x==y.id then some y.after else CB I x) (O:∀x,CB q x=bif x==y.id then some y.err else CB J x):Nk (t++[y]) j m q:=by
 refine⟨fun x=>?_,fun x=>?_,fun x=>?_⟩
 ·rw[L,zS u,h.b];cases x==y.id<;>rfl
 ·rw[M,zS u,h.a];cases x==y.id<;>rfl
 rw[O,zS u,h.r];cases x==y.id<;>rfl
def add_eq {t:List Cx} {u z:List (Int×List Ai)} {I:List (Int×Int)} (h:Nk t u z I) (l:List AL) (e:AL) (hl:l.length≤100) (hs:D9 l) (J:GV e) (L:JK l t) (M:F7 t e.Id=none):
 dQ (aAL u z I l e) (fun r=>Nk (t++[Js l t e]) r.1 r.2.1 r.2.2):=by
 have O:=J.prev;unfold aAL aeI;refine KX e.bF.length (fuel_lt A8) (fun i a=>a=(e.bF.take i).map (L9 t)) rfl (fun i a k hi ha U=>?_) fun a k ha=>?_
 ·have Y:a.length≤i:=aEc
  unfold aMA;rw[Bl hi,D5 FW,AQ,wrap_succ i A8,h.after];exact U _ (by rw[map_take hi,ha])
 rw[GY]at ha;subst ha;unfold aMA;have Z:IB l (stB l t e):=L.stB hl hs O;have hpl:=Z.length;have q:mJ l (e.bF.map (L9 t))=some (stB l t e):=aiq (L.okay hl hs _ A8);rw[D7,q,AQ,akr h l e _ hl hs J A8,AQ];have j:Js l t e=WO e (stB l t e) (Ju l t e (stB l t e)):=rfl;rw[j];generalize Ju l t e (stB l t e)=r;have m:∀(c d f:Bool) {R:Type} (g:Bool→Option R),((bif c then some d else some false).bind fun x9=>(bif x9 then some f else some false).bind g)=g (c&&(d&&f)):=fun c d f R g=>by cases c<;>cases d<;>rfl
 rw[m];show dQ (bif (r==0&&GX e.Kind)then _ else _) _;unfold WO;cases hc:(r==0&&GX e.Kind)with
 |true=>
  simp only[BA];rw[Xd _ _ _ _ A8,AQ];refine .ret (h.snoc M (fun x=>QM ..) (fun x=>?_) fun x=>QM ..);rw[QM,QM];cases x==e.Id<;>rfl
 |false=>exact .ret (h.snoc M (fun x=>QM ..) (fun x=>QM ..) fun x=>QM ..)
def run_go (l:List AL) (ids:List Int) (hl:l.length≤100) (hs:D9 l) (q:∀x∈ids,cZ l x=true) (z:ids.Nodup) (J:ids.length≤1000):dQ (aGA ids l 0 [] [] []) (fun o=>∃T,o=some T∧Nk (La l ids) T.1 T.2.1 T.2.2):=by
 unfold aGA;refine aHd (body:=aLs ids l) (Q:=fun o=>∃T,o=some T∧Nk (La l ids) T.1 T.2.1 T.2.2) (fun n a b c d=>∃i:Nat,a=i∧i+n=ids.length∧Nk (La l (ids.take i)) b c d) ?_ Ag ids.length 0 [] [] [] (fuel_lt A8) ⟨0,rfl,A8,⟨fun x=>rfl,fun x=>rfl,fun x=>rfl⟩⟩;rintro n a b c d k ⟨i,rfl,Z,u⟩ L;unfold aLs;by_cases hi:i<ids.length
 ·have I:=q _ (E8 hi)
  have m:F7 (La l (ids.take i)) (ev l ids[i]).Id=none:=by
   rw[aRg,(Jb I).2];unfold La;rw[aJx l _ _ fun x M=>q x (qx M),List.map_nil,Hd];intro u;obtain⟨j,O,e⟩:=Hf u;rw[FI]at O;rw[aDb]at e;have :=KH.1 (aJg.1 z) j i A8 hi A8;exact this e
  rw[Bl hi,L8 l _ A8,AQ];refine(add_eq u l _ hl hs (zs hs ids[i]) (yX hl hs _ _ fun y U=>absurd U Ef) m).bind fun r Y=>?_;exact L (n-1) _ _ _ _ A8 ⟨i+1,wrap_succ i A8,A8,by rw[aaf l hi];exact Y⟩
 have :i=ids.length:=A8
 subst this;rw[D7];exact .ret ⟨_,rfl,by rw[GY]at u;exact u⟩
structure RN (l:List AL):Prop where
 len:l.length≤100
 small:D9 l
 nodup:(l.map (·.Id)).Nodup
 dep:Zw l
def XM {l:List AL} {x:Int}:cZ l x=true↔x∈l.map (·.Id):=by
 unfold cZ DT;rw[List.find?_isSome,FH];exact⟨fun⟨e,j,h⟩=>⟨e,j,JU⟩,fun⟨e,j,h⟩=>⟨e,j,JU⟩⟩
def aOQ (l:List AL):(OX l).Perm (l.map (·.Id)):=(pK l).map _
def aNK {l:List AL} {x:Int}:x∈OX l↔cZ l x=true:=by rw[(aOQ l).mem_iff,XM]
def aJm (l:List AL):(OX l).length=l.length:=by unfold OX;rw[C9,aMO]
def RN.order {l:List AL} (h:RN l):(OX l).Nodup:=(aOQ l).nodup_iff.2 h.nodup
def F8 (l:List AL) (c:Int):List Cx:=bif c==0&&Rh l==0 then Jt l else[]
def run_eq (l:List AL) {c:Int} (u:Oa l=some c) (h:c=0→RN l):
 dQ (pO l) (fun o=>(F8 l c=[]∧o=none)∨(F8 l c=Jt l∧RN l∧∃T,o=some T∧Nk (Jt l) T.1 T.2.1 T.2.2)):=by
 unfold pO F8;rw[u,AQ];by_cases q:c=0
 ·subst q;have j:=h rfl;rw[ajQ l j.len j.small j.dep];cases hd:Rh l==0 with
  |false=>
   have m:(Rh l != 0)=true:=by unfold bne;rw[hd];rfl
   simp only[VT,Ar,AQ,m,BA];exact .ret (.inl ⟨rfl,rfl⟩)
  |true=>
   have m:(Rh l != 0)=false:=by unfold bne;rw[hd];rfl
   simp only[VT,Ar,AQ,m];rw[afw l (by have :=j.len;omega),AQ];exact(run_go l (OX l) j.len j.small (fun x z=>aNK.1 z) j.order (by rw[aJm];have :=j.len;omega)).mono fun o I=>.inr ⟨rfl,j,I⟩
 have J:(c != 0)=true:=MV
 have L:(c==0)=false:=MV
 rw[J,L];exact .ret (.inl ⟨rfl,rfl⟩)
def am4 {l:List AL} (h:RN l):JK l (Jt l):=yX h.len h.small _ _ fun y j=>absurd j Ef
def ajR (l:List AL):(Jt l).map (·.id)=OX l:=by
 have :=aJx l (OX l) [] fun x j=>aNK.1 j;simpa[Jt,La]using this
def aok {l:List AL} {x:Int} (h:cZ l x=true):∃y,F7 (Jt l) x=some y:=by
 cases hl:F7 (Jt l) x with
 |some y=>exact⟨y,rfl⟩
 |none=>rw[aRg,ajR]at hl;exact absurd (aNK.2 h) hl
def I8 (t:List Cx) (x:Int):Bool:=match F7 t x with
 |some y=>y.err==0
 |none=>false
def PN (l:List AL) (t:List Cx):List Int:=(l.filter fun e=>I8 t e.Id).map (·.Id)
def asF (l:List AL) (t:List Cx):(PN l t).length≤l.length:=by unfold PN;rw[C9];exact JD _ _
def apJ (l:List AL):PN l []=[]:=by
 unfold PN;rw[Yz.2 fun e _=>by unfold I8 F7;simp];rfl
def aPp {l:List AL} {t:List Cx} {i:Nat} (h:i<l.length):PN (l.take (i+1)) t=PN (l.take i) t++bif I8 t l[i].Id then[l[i].Id]else[]:=by
 unfold PN;rw[aFq h,Ip];cases I8 t l[i].Id<;>rfl
def amM {l:List AL} {x:Int} (h:cZ l x=true):I8 (Jt l) x=(errOf (Jt l) x==0):=by
 obtain⟨y,j⟩:=aok h;unfold I8 errOf;rw[j];rfl
def anU {l:List AL} {j m:List (Int×List Ai)} {q:List (Int×Int)} (h:Nk (Jt l) j m q) (hl:l.length≤100):uq j m q l=some (PN l (Jt l)):=by
 unfold uq
 have I:aEC l j m q=some (PN l (Jt l)):=by
  unfold aEC abE;refine dQ.eq (KX l.length (fuel_lt A8) (fun i a=>a=PN (l.take i) (Jt l)) rfl (fun i a k hi ha u=>?_) fun a k ha=>?_)
  ·have J:a.length≤i:=by rw[ha];exact EZ (asF _ _) (by rw[FI];omega)
   unfold aNP aKm aAe;rw[Bl hi,AQ,h.err,←amM (XM.2 (FH.2 ⟨_,E8 hi,rfl⟩)),wrap_succ i A8];cases z:I8 (Jt l) l[i].Id with
   |true=>
    rw[BA,Bf hi,AQ,D5 FW,AQ];exact u _ (by rw[aPp hi,z,ha];rfl)
   |false=>exact u _ (by rw[aPp hi,z,ha];simp)
  unfold aNP;rw[D7];exact .ret nC
 rw[I];rfl
def agK {α:Type} {lt:α→α→Bool} (L:∀a b c,lt b a=false→lt c b=false→lt c a=false) (ha:∀a b,lt a b=true→lt b a=false) (x:α):
 ∀n (A:List α),A.length=n→A.Pairwise (fun a b=>lt b a=false)→(J4 lt A x).Pairwise fun a b=>lt b a=false:=by
 intro n
 induction n with
 |zero=>
  intro A m _;obtain rfl:=GN m;exact aMa ..
 |succ n M=>
  intro A m u;rcases List.eq_nil_or_concat A with rfl|⟨B,a,rfl⟩
  ·cases m
  rw[List.concat_eq_append]at m u ⊢;have m:B.length=n:=Xp
  obtain⟨O,_,J⟩:=Z7.1 u;cases q:lt x a with
  |true=>
   rw[aRc q];refine Z7.2 ⟨M B m O,aMa ..,fun y j z I=>?_⟩;rw[GZ.1 I];rcases EO.1 ((aaq B x).mem_iff.1 j)with rfl|j
   ·exact ha _ _ q
   exact J y j a (GZ.2 rfl)
  |false=>
   rw[aNx q,show B++a::[x]=(B++[a])++[x] by simp];refine Z7.2 ⟨u,aMa ..,fun y j z I=>?_⟩;rw[GZ.1 I];rcases Fz.1 j with j|j
   ·exact L y a x (J y j a (GZ.2 rfl)) q
   rw[GZ.1 j];exact q
def mX {a b:AL}:Gp b a=false↔a.Depth<b.Depth∨(a.Depth=b.Depth∧a.Id≤b.Id):=by
 unfold Gp;rw[aI,aHn,XW,XW,ZK];omega
def ahf (l:List AL):(Wu l).Pairwise fun a b=>Gp b a=false:=by
 have key:∀(l A:List AL),A.Pairwise (fun a b=>Gp b a=false)→(l.foldl (J4 Gp) A).Pairwise fun a b=>Gp b a=false:=by
  intro l
  induction l with
  |nil=>exact fun A h=>h
  |cons x l j=>
   intro A h;rw[El];refine j _ (agK (fun a b c m q=>?_) (fun a b h=>?_) x _ A rfl h)
   ·rw[mX]at *;omega
   rw[mX];unfold Gp at h;rw[YB,CV,Fb,Fb,PZ]at h;omega
 exact key l [] .nil
def aDN {l:List AL} (M:(l.map (·.Id)).Nodup) {e:AL} (h:e∈l):ev l e.Id=e:=by
 have O:cZ l e.Id=true:=XM.2 (FH.2 ⟨e,h,rfl⟩);obtain⟨U,z⟩:=Jb O;have Y:=OC U;obtain⟨i,hi,m⟩:=Hf Y;obtain⟨j,I,q⟩:=Hf h;have Z:=KH.1 (aJg.1 M)
 have J:∀a b (ha:a<l.length) (L:b<l.length),a<b→l[a].Id≠l[b].Id:=fun a b ha L u=>by
  have :=Z a b (by simpa using ha) sI u;simpa using this
 rcases aAf i j with h|h|h
 ·exact absurd (by rw[m,q,z]) (J i j hi I h)
 ·subst h;rw[←m,q]
 exact absurd (by rw[m,q,z]) (J j i I hi h)
def Qk (t:List Cx) (s:List Ai):Prop:=∀x∈s,I8 t x.Id=true
structure PO (l:List AL) (t:List Cx):Prop where
 st:∀y∈t,Qk t y.before∧Qk t y.after
 au:∀y∈t,y.err=0→∀a∈gZ l y.id,I8 t a=true
def Zm {t:List Cx} {x:Int}:I8 t x=true↔∃y,F7 t x=some y∧y.err=0:=by
 unfold I8;cases F7 t x with
 |none=>simp
 |some y=>simp
def agA {t:List Cx} {x:Int} {y:Cx} (h:F7 t x=some y) (z:Cx):F7 (t++[z]) x=some y:=by
 unfold F7 at *;rw[lS,h];rfl
def aBF {t:List Cx} {x:Int} (h:I8 t x=true) (z:Cx):I8 (t++[z]) x=true:=by
 obtain⟨y,j,m⟩:=Zm.1 h;exact Zm.2 ⟨y,agA j z,m⟩
def Qk.nil (t:List Cx):Qk t []:=fun _ h=>absurd h Ef
def PO.after {l:List AL} {t:List Cx} (h:PO l t) (x:Int):Qk t (L9 t x):=by
 unfold L9;cases hl:F7 t x with
 |none=>exact .nil t
 |some y=>exact(h.st y (Qh hl)).2
def PO.auth {l:List AL} {t:List Cx} (h:PO l t) {x:Int} (m:I8 t x=true):∀a∈gZ l x,I8 t a=true:=by
 obtain⟨y,j,q⟩:=Zm.1 m;have :=h.au y (Qh j) q
 rwa [afy j]at this
def PO.chain {l:List AL} {t:List Cx} (h:PO l t) {ids:List Int} (hi:∀x∈ids,I8 t x=true) {x:Int} (m:JA l ids x):I8 t x=true:=by
 induction m with
 |one q j _=>exact h.auth (hi _ q) _ j
 |more _ j _ u=>exact h.auth u _ j
def PO.full {l:List AL} {t:List Cx} (h:PO l t) {m:List (List Ai)} (hs:∀s∈m,Qk t s) {x:Int} (j:x∈Hu l m):I8 t x=true:=by
 have u:∀s∈m,∀y∈QF s,I8 t y=true:=fun s q y J=>by
  obtain⟨z,I,rfl⟩:=FH.1 J;exact hs s q z I
 unfold Hu at j;rcases RZ.1 j with j|j
 ·rw[Jh]at j;unfold Om at j;obtain⟨z,I,rfl⟩:=FH.1 j;obtain⟨s,q,I⟩:=RX.1 I;exact hs s q z (ET.1 I).1
 obtain⟨⟨s,q,j⟩,_⟩:=adt.1 j;unfold EP at j;rcases RZ.1 j with j|j
 ·exact u s q x j
 exact h.chain (u s q) (Ye.1 j)
def PO.resolve {l:List AL} {t:List Cx} (h:PO l t) {j:List (List Ai)} (m:Jy l j) (hs:∀s∈j,Qk t s):Qk t (WW l j):=by
 match j,m,hs with
 | [],_,_=>exact .nil t
 | [s],_,hs=>exact hs s (Ec ..)
 |s::r::j,m,hs=>
  intro x u;rcases aOi u with z|⟨id,q,I,_,J⟩
  ·exact hs s (Ec ..) x ((afG m.states (List.cons_ne_nil _ _)).1 z s (Ec ..))
  have L:x.Id=id:=by rw[J];exact(Jb I).2
  rw[L];exact h.full hs q
def PO.line {l:List AL} {t:List Cx} (h:PO l t) (Y:JK l t) (hl:l.length≤100) (hs:D9 l) {id:Int} (Z:cZ l id=true) (hn:F7 t id=none) (ha:∀a∈gZ l id,∃y,F7 t a=some y):PO l (t++[Js l t (ev l id)]):=by
 have z:(ev l id).Id=id:=(Jb Z).2
 have L:Qk t (stB l t (ev l id)):=h.resolve (Y.okay hl hs _ (by have :=(zs hs id).prev;omega)) fun s u=>by
  obtain⟨x,_,rfl⟩:=FH.1 u;exact h.after x
 have j:∀{s:List Ai},Qk t s→Qk (t++[Js l t (ev l id)]) s:=fun hs x I=>aBF (hs x I) _;refine⟨fun y m=>?_,fun y m q a u=>?_⟩
 ·rcases Fz.1 m with m|m
  ·exact⟨j (h.st y m).1,j (h.st y m).2⟩
  rw[GZ.1 m];refine⟨j L,?_⟩;show Qk _ (bif Ju l t (ev l id) (stB l t (ev l id))==0&&GX (ev l id).Kind then Ew _ (ev l id).Kind (ev l id).Key (ev l id).Id else _);cases O:(Ju l t (ev l id) (stB l t (ev l id))==0&&GX (ev l id).Kind)with
  |false=>exact j L
  |true=>
   rw[CV]at O;intro x I;rcases Pg I with rfl|I
   ·refine Zm.2 ⟨Js l t (ev l id),?_,eq_of_beq O.1⟩;show F7 _ (ev l id).Id=_;have M:F7 t (Js l t (ev l id)).id=none:=by show F7 t (ev l id).Id=none;rw[z];exact hn
    rw[zS M,show((ev l id).Id==(Js l t (ev l id)).id)=true from Rn _];rfl
   exact aBF (L x I) _
 rcases Fz.1 m with m|m
 ·exact aBF (h.au y m q a u) _
 rw[GZ.1 m]at q u;have u:a∈gZ l id:=by rw[←z];exact u
 have q:Ju l t (ev l id) (stB l t (ev l id))=0:=q;obtain⟨y,m⟩:=ha a u;refine aBF (Zm.2 ⟨y,m,?_⟩) _;unfold Ju at q;cases J:WR l (ev l id) != 0 with
 |true=>rw[J,BA]at q;rw[q]at J;cases J
 |false=>
  rw[J,Ar]at q;cases U:(ev l id).bf.any (fun x=>errOf t x != 0)with
  |true=>rw[U,BA]at q;cases q
  |false=>
   have h3:=List.any_eq_false.1 U a u;have :errOf t a=0:=by simpa using h3
   unfold errOf at this;rw[m]at this;exact this
structure LW (x y:AL):Prop where
 id:y.Id=x.Id
 room:y.Room=x.Room
 sender:y.aN=x.aN
 kind:y.Kind=x.Kind
 key:y.Key=x.Key
 time:y.Time=x.Time
 depth:y.Depth=x.Depth
 prev:y.bF=x.bF
 auth:y.bf=x.bf
 n:x.Kind=2∨x.Kind=4→y.Content.N=x.Content.N
 levels:x.Kind=3→y.Content.Levels=x.Content.Levels
def LW.refl (x:AL):LW x x:=⟨rfl,rfl,rfl,rfl,rfl,rfl,rfl,rfl,rfl,fun _=>rfl,fun _=>rfl⟩
inductive Gn :List AL→List AL→Prop
 |nil:Gn [] []
 |cons {x y:AL} {xs ys:List AL} (h:LW x y) (t:Gn xs ys):Gn (x::xs) (y::ys)
def Gn.append {a b c d:List AL} (h:Gn a b) (k:Gn c d):Gn (a++c) (b++d):=by
 induction h with
 |nil=>exact k
 |cons h _ j=>exact .cons h j
def Gn.flat {α:Type} {f g:α→List AL}:∀(l:List α),(∀x∈l,Gn (f x) (g x))→Gn (l.flatMap f) (l.flatMap g)
 | [],_=>.nil
 |x::l,h=>by
  rw[Lj,Lj];exact(h x (Ec ..)).append (Gn.flat l fun y j=>h y (Ez _ j))
def Gn.any {p:AL→Bool} (j:∀x y,LW x y→p y=p x) {a b:List AL} (h:Gn a b):b.any p=a.any p:=by
 induction h with
 |nil=>rfl
 |cons h _ m=>rw[Y7,Y7,j _ _ h,m]
def Gn.all {p:AL→Bool} (j:∀x y,LW x y→p y=p x) {a b:List AL} (h:Gn a b):b.all p=a.all p:=by
 induction h with
 |nil=>rfl
 |cons h _ m=>rw[qY,qY,j _ _ h,m]
def Gn.find {p:AL→Bool} (j:∀x y,LW x y→p y=p x) {a b:List AL} (h:Gn a b):(a.find? p=none∧b.find? p=none)∨∃x y,a.find? p=some x∧b.find? p=some y∧LW x y∧p x=true:=by
 induction h with
 |nil=>exact .inl ⟨rfl,rfl⟩
 | @cons x y xs ys h _ m=>
   rw[Qz,Qz,j _ _ h];cases q:p x with
   |true=>exact .inr ⟨x,y,rfl,rfl,h,q⟩
   |false=>exact m
def Gn.one {x y:AL} (h:LW x y):Gn [x] [y]:=.cons h .nil
def aMN {k:Ai} {x y:AL} (h:LW x y):Dt k y=Dt k x:=by unfold Dt;rw[h.kind,h.key]
def am5 {x y:AL} (h:LW x y):Nw y=Nw x:=by
 unfold Nw;rw[h.kind,h.key,h.sender];cases j:x.Kind==2 with
 |false=>rfl
 |true=>rw[h.n (.inl (eq_of_beq j))]
def aH0 {x y:AL} (h:LW x y):keysOf y=keysOf x:=by
 unfold keysOf Jc;rw[h.kind,h.key,h.sender];cases j:x.Kind==2 with
 |false=>rfl
 |true=>rw[h.n (.inl (eq_of_beq j))]
section
variable {a b : List AL}
def aoY (h:Gn a b):(Hl b).2=(Hl a).2∧LW (Hl a).1 (Hl b).1:=by
 unfold Hl;rcases h.find (p:=fun x=>x.Kind==1) (fun x y h=>by rw[h.kind])with⟨j,m⟩|⟨x,y,j,m,q,_⟩
 ·rw[j,m];exact⟨rfl,.refl _⟩
 rw[j,m];exact⟨rfl,q⟩
def acV {u:ByteArray} {x y:AL} (h:LW x y):Hz u y=Hz u x:=by unfold Hz;rw[h.kind,h.key]
def aIC (h:Gn a b) (u:ByteArray):Gy b u=Gy a u:=by
 unfold Gy;rcases h.find (p:=Hz u) (fun x y h=>acV h)with⟨j,m⟩|⟨x,y,j,m,z,q⟩
 ·rw[j,m]
 rw[j,m];unfold Hz at q;rw[CV]at q;exact z.n (.inl (eq_of_beq q.1))
def akw (h:Gn a b):Qd b=Qd a:=by
 unfold Qd;rcases h.find (p:=fun x=>x.Kind==1) (fun x y h=>by rw[h.kind])with⟨j,m⟩|⟨x,y,j,m,q,_⟩
 ·rw[j,m]
 rw[j,m];exact q.sender
def aIo (h:Gn a b):EH b=EH a:=by
 unfold EH;rcases h.find (p:=fun x=>x.Kind==3) (fun x y h=>by rw[h.kind])with⟨j,m⟩|⟨x,y,j,m,q,u⟩
 ·rw[j,m,akw h]
 rw[j,m];exact q.levels (eq_of_beq u)
def akg (h:Gn a b):(Vb b).1=(Vb a).1:=by
 unfold Vb;rcases h.find (p:=fun x=>x.Kind==4) (fun x y h=>by rw[h.kind])with⟨j,m⟩|⟨x,y,j,m,q,u⟩
 ·rw[j,m]
 rw[j,m];exact q.n (.inr (eq_of_beq u))
def aF1 {e f:AL} (j:LW e f) (h:Gn a b):Ls f b=Ls e a:=by
 unfold Ls;obtain⟨J,L⟩:=aoY h;rw[j.kind,j.sender,j.room,J];cases e.Kind==1 with
 |true=>rfl
 |false=>
 cases(Hl a).2 with
 |false=>rfl
 |true=>
 cases M:e.Kind==2 with
 |true=>
  have I:=j.n (.inl (eq_of_beq M));simp only[Ar,Dv,BA]
  have q:V6 f b=V6 e a:=by
   unfold V6;rw[J,j.prev,j.sender,j.key,I,L.id,L.sender,h.any fun x y h=>acV h]
  have u:∀m now,Xe m now b=Xe m now a:=fun m now=>by unfold Xe;rw[akg h]
  have z:∀now,WU f b now=WU e a now:=fun now=>by
   unfold WU;rw[aIC h,j.sender,j.key,I,aIo h]
  unfold bP;rw[q,j.key,j.sender,I,aIC h,u,z]
 |false=>
  simp only[Ar,Dv];rw[aIC h]
  have hl:Wq f b=Wq e a:=by
   unfold Wq;rw[aIo h,j.sender,j.kind];cases O:e.Kind==3 with
   |false=>rfl
   |true=>rw[j.levels (eq_of_beq O)]
  rw[hl]
end
structure G9 (l l':List AL) (S:List Int):Prop where
 nodup:S.Nodup
 mem:∀x∈S,cZ l x=true∧cZ l' x=true∧LW (ev l x) (ev l' x)
 prev:∀x∈S,∀a∈(ev l x).bF,a∈S
 auth:∀x∈S,∀a∈(ev l x).bf,a∈S
section
variable {l l' : List AL} {S : List Int} (h : G9 l l' S)
include h
def G9.ids {ids:List Int} (hi:∀x∈ids,x∈S):Gn (ofIds l ids) (ofIds l' ids):=by
 induction ids with
 |nil=>exact .nil
 |cons x ids j=>
  obtain⟨m,k2,q⟩:=h.mem x (hi x (Ec ..));unfold ofIds at j ⊢;rw[Ny,Ny,(Jb m).1,(Jb k2).1];exact .cons q (j fun y u=>hi y (Ez _ u))
def G9.gZ {x:Int} (j:x∈S):gZ l' x=gZ l x:=(h.mem x j).2.2.auth
def G9.ch {ids:List Int} (hi:∀x∈ids,x∈S) {x:Int} (u:JA l ids x):x∈S∧JA l' ids x:=by
 induction u with
 |one m j _=>
  have hs:=h.auth _ (hi _ m) _ j;exact⟨hs,.one m (by rw[h.gZ (hi _ m)];exact j) (h.mem _ hs).2.1⟩
 |more _ j _ q=>
  have hs:=h.auth _ q.1 _ j;exact⟨hs,.more q.2 (by rw[h.gZ q.1];exact j) (h.mem _ hs).2.1⟩
def G9.ch' {ids:List Int} (hi:∀x∈ids,x∈S) {x:Int} (u:JA l' ids x):x∈S∧JA l ids x:=by
 induction u with
 |one m j _=>
  rw[h.gZ (hi _ m)]at j;have hs:=h.auth _ (hi _ m) _ j;exact⟨hs,.one m j (h.mem _ hs).1⟩
 |more _ j _ q=>
  rw[h.gZ q.1]at j;have hs:=h.auth _ q.1 _ j;exact⟨hs,.more q.2 j (h.mem _ hs).1⟩
def G9.chain {ids:List Int} (hi:∀x∈ids,x∈S):chainOf l' ids=chainOf l ids:=Fp (aCp _ _) (aCp _ _) fun x=>by
 rw[Ye,Ye];exact⟨fun j=>(h.ch' hi j).2,fun j=>(h.ch hi j).2⟩
def G9.awI {ids:List Int} (hi:∀x∈ids,x∈S):∀x∈chainOf l ids,x∈S:=fun _ j=>(h.ch hi (Ye.1 j)).1
def G9.from {e f:AL} (q:LW e f) (hi:∀x∈e.bf,x∈S):Gn (Qj l e) (Qj l' f):=by
 unfold Qj;rw[aH0 q,q.auth];refine Gn.flat _ fun k _=>?_;rcases(h.ids hi).find (p:=Dt k) (fun x y h=>aMN h)with⟨j,m⟩|⟨x,y,j,m,u,_⟩
 ·rw[j,m];exact .nil
 rw[j,m];exact .one u
def G9.fits {e f:AL} (J:LW e f) (hi:∀x∈e.bf,x∈S):Oo l' f=Oo l e:=by
 have hs:=h.ids hi
 have O:e.bf.all (cZ l')=e.bf.all (cZ l):=by
  rw[Q8,E5,E5];exact⟨fun _ x q=>(h.mem x (hi x q)).1,fun _ x q=>(h.mem x (hi x q)).2.1⟩
 have U:∀(z:List Ai) {xs ys:List AL},Gn xs ys→∀{m j:List AL},Gn m j→Iz z j ys=Iz z m xs:=by
  intro z xs ys L
  induction L with
  |nil=>intro m j _;rfl
  | @cons x y xs ys q _ Y=>
    intro m j M;have Z:(z.any fun k=>Dt k y)=z.any fun k=>Dt k x:=BH (fun p=>z.any p) (funext fun k=>aMN q)
    have hl:j.any (QD y)=m.any (QD x):=by
     rw[show QD y=QD x from funext fun u=>by unfold QD;rw[q.kind,q.key]];exact M.any fun u v I=>by unfold QD;rw[I.kind,I.key]
    unfold Iz;rw[Y (M.append (.one q)),Z,hl]
 unfold Oo;rw[J.auth,J.kind,J.room,aH0 J,O,hs.all (fun x y h=>by rw[h.room]),U _ hs .nil,hs.any (fun x y h=>by unfold Oq;rw[h.kind,h.key])]
omit h in
def find_congr {p q:Int→Bool}:∀(l:List Int),(∀x∈l,p x=q x)→l.find? p=l.find? q
 | [],_=>rfl
 |x::l,h=>by rw[Qz,Qz,h x (Ec ..),find_congr l fun y j=>h y (Ez _ j)]
omit h in
def dY :∀{a b:List Int},a.Nodup→(∀x∈a,x∈b)→a.length≤b.length
 | [],_,_,_=>EK _
 |x::a,b,q,hs=>by
  have j:=hs x (Ec ..);obtain⟨u,z⟩:=JX.1 q;have :=dY (b:=b.erase x) z fun y m=>(List.mem_erase_of_ne fun e=>u (by rw[←e];exact m)).2 (hs y (Ez _ m));rw[List.length_erase_of_mem j]at this;have I:0<b.length:=List.length_pos_of_mem j;rw[FC];omega
def G9.power {x:Int} (j:x∈S):MW l' (ev l' x)=MW l (ev l x):=by
 unfold MW;rw[(h.mem x j).2.2.auth];refine find_congr _ fun a ha=>?_;obtain⟨m,k2,q⟩:=h.mem a (h.auth x j a ha);rw[m,k2,q.kind]
def G9.zo:∀(n m:Nat) (seen:List Int) (id:Int),id∈S→seen.Nodup→(∀x∈seen,x∈S)→S.length≤seen.length+n→S.length≤seen.length+m→zo l' m seen id=zo l n seen id:=by
 have q:∀(seen:List Int) (id:Int),id∈S→seen.Nodup→(∀x∈seen,x∈S)→S.length≤seen.length→id∈seen:=fun seen id j I hs hl=>by
  refine Ve fun z=>?_
  have :=dY (a:=id::seen) (b:=S) (JX.2 ⟨z,I⟩) fun x J=>by
   rcases EO.1 J with rfl|J
   ·exact j
   exact hs x J
  rw[FC]at this;omega
 have u:∀(l:List AL) (n:Nat) (seen:List Int) (id:Int),id∈seen→Go.Proofs.YtkkdimcnpacjhaaGreat.zo l n seen id=seen:=fun l n seen id j=>by
  cases n with
  |zero=>rfl
  |succ n=>unfold Go.Proofs.YtkkdimcnpacjhaaGreat.zo;rw[Ii.2 j];rfl
 intro n
 induction n with
 |zero=>
  intro m seen id j I hs M _;have :=q seen id j I hs A8;rw[u l' m seen id this,u l 0 seen id this]
 |succ n O=>
  intro m seen id j I hs M h2;by_cases z:id∈seen
  ·rw[u l' m seen id z,u l (n+1) seen id z]
  obtain⟨m,rfl⟩:∃U,m=U+1:=by
   cases m with
   |zero=>exact absurd (q seen id j I hs A8) z
   |succ m=>exact⟨m,rfl⟩
  obtain⟨Y,k2,k3⟩:=h.mem id j;unfold Go.Proofs.YtkkdimcnpacjhaaGreat.zo;rw[NR.2 z,Y,k2,h.power j];cases Z:MW l (ev l id)with
  |none=>rfl
  |some x=>
   have J:x∈S:=h.auth id j x (Qh Z);refine O m (seen++[id]) x J (iC.2 ⟨I,Am,fun a ha b hb=>?_⟩) (fun y L=>?_) (by rw[Dk,MS];omega) (by rw[Dk,MS];omega)
   ·rw[GZ.1 hb];exact fun e=>z (e▸ha)
   rcases Fz.1 L with L|L
   ·exact hs y L
   rw[GZ.1 L];exact j
def G9.way {x:Int} (j:x∈S):Wy l' x=Wy l x:=by
 have m:S.length≤l.length:=by
  have :=dY (b:=l.map (·.Id)) h.nodup fun x j=>XM.1 (h.mem x j).1
  rwa [C9]at this
 have q:S.length≤l'.length:=by
  have :=dY (b:=l'.map (·.Id)) h.nodup fun x j=>XM.1 (h.mem x j).2.1
  rwa [C9]at this
 exact h.zo _ _ [] x j .nil (fun _ h=>absurd h Ef) Xp MV
def G9.item {j:List Int} {x:Int} (m:x∈S):EF l' j x=EF l j x:=by
 unfold EF KQ;rw[h.way m,(h.mem x m).2.2.time]
def G9.yu {j ids:List Int} (hi:∀x∈ids,x∈S):yu l' j ids=yu l j ids:=by
 unfold Go.Proofs.YtkkdimcnpacjhaaGreat.yu;rw[lN (q:=cZ l) fun x m=>by rw[(h.mem x (hi x m)).1,(h.mem x (hi x m)).2.1],aBD fun x m=>h.item (hi x (ET.1 m).1)]
def G9.Bc {full:List Int} (hi:∀x∈full,x∈S):Bc l' full=Bc l full:=by
 unfold Go.Proofs.YtkkdimcnpacjhaaGreat.Bc;refine lN fun x j=>?_;obtain⟨m,k2,q⟩:=h.mem x (hi x j);unfold UK;rw[m,k2,am5 q]
def G9.Rl {full:List Int} (hi:∀x∈full,x∈S):Rl l' full=Rl l full:=by
 unfold Go.Proofs.YtkkdimcnpacjhaaGreat.Rl;rw[h.Bc hi,h.chain (ids:=Go.Proofs.YtkkdimcnpacjhaaGreat.Bc l full) fun x j=>hi x (ET.1 j).1]
def G9.fK {ids:List Int} (hi:∀x∈ids,x∈S):fK l' ids=fK l ids:=by
 unfold Go.Proofs.YtkkdimcnpacjhaaGreat.fK;exact lN fun x j=>by rw[(h.mem x (hi x (Jh.1 j))).1,(h.mem x (hi x (Jh.1 j))).2.1]
def G9.one {x:Int} (j:x∈S):chainOf l' [x]=chainOf l [x]:=h.chain fun y m=>by rw[GZ.1 m];exact j
def G9.node {x:Int} (j:x∈S):Ed l' x=Ed l x:=by
 obtain⟨_,_,m⟩:=h.mem x j;unfold Ed Zp;rw[aIo (h.from m (h.auth x j)),m.sender,m.time,h.one j]
omit h in
def ajb (l:List AL) (left:List Int) (b:Option Int) (x:Int):G8 l left b x=some x∨G8 l left b x=b:=by
 unfold G8;cases b with
 |none=>cases UH l left x<;>simp
 |some y=>
  simp only[];cases UH l left x<;>cases WM (Ed l x) (Ed l y)<;>simp
def G9.best {left:List Int}:∀(xs:List Int) (b:Option Int),(∀x∈xs,x∈S)→(∀y,b=some y→y∈S)→xs.foldl (G8 l' left) b=xs.foldl (G8 l left) b
 | [],_,_,_=>rfl
 |x::xs,b,u,z=>by
  have m:=u x (Ec ..)
  have e:G8 l' left b x=G8 l left b x:=by
   unfold G8 UH;rw[h.one m];cases b with
   |none=>rfl
   |some y=>simp only[h.node m,h.node (z y rfl)]
  rw[El,El,e];refine G9.best xs _ (fun y j=>u y (Ez _ j)) fun y j=>?_;rcases ajb l left b x with q|q
  ·rw[q]at j;rw[←CG j];exact m
  rw[q]at j;exact z y j
def G9.qF:∀(n:Nat) (left:List Int),(∀x∈left,x∈S)→qF l' n left=qF l n left
 |0,_,_=>rfl
 |n+1,left,hi=>by
  unfold Go.Proofs.YtkkdimcnpacjhaaGreat.qF Rq;rw[h.best left none hi fun _ h=>Fr];cases left.foldl (G8 l left) none with
  |none=>rfl
  |some b=>exact BH _ (G9.qF n _ fun x j=>hi x (ET.1 j).1)
def Jo (S:List Int) (s:List Ai):Prop:=∀x∈s,x.Id∈S
def G9.pick {s:List Ai} (hs:Jo S s) {e f:AL} (q:LW e f) (hi:∀x∈e.bf,x∈S):Gn (Qr l s e) (Qr l' s f):=by
 unfold Qr;rw[aH0 q];refine Gn.flat _ fun k _=>?_;unfold QX Yp;cases u:(FP s k.Kind k.Key).2 with
 |true=>
  have z:=aJy (s:=s) (k:=k.Kind) (key:=k.Key) (n:=(FP s k.Kind k.Key).1) (Prod.ext rfl u);obtain⟨I,k2,J⟩:=h.mem _ (hs _ z)
  have L:GH l (FP s k.Kind k.Key).1=(ev l (FP s k.Kind k.Key).1,true):=by
   have :=(Jb I).1;unfold ev GH at this ⊢;rw[this]
  have M:GH l' (FP s k.Kind k.Key).1=(ev l' (FP s k.Kind k.Key).1,true):=by
   have :=(Jb k2).1;unfold ev GH at this ⊢;rw[this]
  simp only[BA];rw[L,M];exact .one J
 |false=>
  simp only[Ar];unfold Z9;rw[q.auth];rcases(h.ids hi).find (p:=Dt k) (fun x y h=>aMN h)with⟨j,m⟩|⟨x,y,j,m,O,_⟩
  ·rw[j,m];exact .nil
  rw[j,m];exact .one O
def G9.apply {s:List Ai} (hs:Jo S s) {x:Int} (m:x∈S):MZ l' s x=MZ l s x∧Jo S (MZ l s x):=by
 obtain⟨u,k2,j⟩:=h.mem x m
 have e:RH l' s x=RH l s x:=by
  unfold RH;rw[u,k2,j.kind,aF1 j (h.pick hs j (h.auth x m))]
 unfold MZ;rw[e,j.kind,j.key,j.id];refine⟨rfl,?_⟩;cases RH l s x with
 |false=>exact hs
 |true=>
  intro y q;rcases Pg q with rfl|q
  ·show(ev l x).Id∈S;rw[(Jb u).2];exact m
  exact hs y q
def G9.applies:∀(ids:List Int) (s:List Ai),Jo S s→(∀x∈ids,x∈S)→ML l' s ids=ML l s ids∧Jo S (ML l s ids)
 | [],_,hs,_=>⟨rfl,hs⟩
 |x::ids,s,hs,hi=>by
  obtain⟨j,m⟩:=h.apply hs (hi x (Ec ..));unfold ML;rw[El,El,j];exact G9.applies ids _ m fun y q=>hi y (Ez _ q)
def G9.closure {s:List Ai} (hs:Jo S s):EP l' s=EP l s∧∀x∈EP l s,x∈S:=by
 have hi:∀x∈QF s,x∈S:=fun x j=>by
  obtain⟨y,m,rfl⟩:=FH.1 j;exact hs y m
 unfold EP;refine⟨by rw[h.chain hi],fun x j=>?_⟩;rcases RZ.1 j with j|j
 ·exact hi x j
 exact h.awI hi x j
def G9.full {j:List (List Ai)} (hs:∀s∈j,Jo S s):Hu l' j=Hu l j∧∀x∈Hu l j,x∈S:=by
 have I:∀(u:List (List Ai)) (a:List Int),(∀s∈u,Jo S s)→u.foldl (fun a s=>Gm a (EP l' s)) a=u.foldl (fun a s=>Gm a (EP l s)) a:=by
  intro u
  induction u with
  |nil=>exact fun _ _=>rfl
  |cons s u O=>
   intro a M;rw[El,El,(h.closure (M s (Ec ..))).1];exact O _ fun s q=>M s (Ez _ q)
 have J:∀x,I5 l' j x=I5 l j x:=fun x=>by
  unfold I5;exact List.countP_congr fun s q=>by rw[(h.closure (hs s q)).1]
 have hd:Md l' j=Md l j:=by
  unfold Md allOf;rw[I j [] hs];exact lN fun x _=>by rw[J]
 unfold Hu;rw[hd];refine⟨rfl,fun x m=>?_⟩;rcases RZ.1 m with m|m
 ·rw[Jh]at m;unfold Om at m;obtain⟨z,L,rfl⟩:=FH.1 m;obtain⟨s,q,L⟩:=RX.1 L;exact hs s q z (ET.1 L).1
 obtain⟨⟨s,q,m⟩,_⟩:=adt.1 m;exact(h.closure (hs s q)).2 x m
omit h in
def amF {j:List (List Ai)} (hs:∀s∈j,Jo S s):Jo S (Gl j):=by
 cases j with
 |nil=>exact fun _ h=>absurd h Ef
 |cons s j=>exact fun x m=>hs s (Ec ..) x (ET.1 m).1
def G9.last {j:List (List Ai)} (hs:∀s∈j,Jo S s):lastOf l' j=lastOf l j∧Jo S (lastOf l j):=by
 obtain⟨f1,Z⟩:=h.full hs;have u:=amF hs;have J:JH l' j=JH l j:=by unfold JH;rw[f1,h.Rl Z]
 have I:∀x∈JH l j,x∈S:=fun x m=>Z x (xK.1 m).1
 have hpo:JW l' j=JW l j:=by
  unfold JW;rw[J,h.fK I];exact h.qF _ _ fun x m=>I x (KW.1 m).1
 have M:∀x∈JW l j,x∈S:=fun x m=>I x (KW.1 (aHV l _ _ m)).1;obtain⟨a1,a2⟩:=h.applies (JW l j) (Gl j) u M;have q:Gs l' j=Gs l j:=by unfold Gs;rw[hpo,a1]
 have O:SL l' j=SL l j:=by
  unfold SL;rw[q];cases hg:(FP (Gs l j) 3 BU).2 with
  |false=>rfl
  |true=>exact h.way (a2 _ (aJy (n:=(FP (Gs l j) 3 BU).1) (Prod.ext rfl hg)))
 have L:∀x∈NP (Hu l j) (JH l j),x∈S:=fun x m=>Z x (aHK.1 m).1
 have U:Iw l' j=Iw l j:=by
  unfold Iw;rw[O,f1,J,h.yu L]
 have Y:∀x∈Iw l j,x∈S:=fun x m=>by
  unfold Iw Go.Proofs.YtkkdimcnpacjhaaGreat.yu at m;obtain⟨y,hy,rfl⟩:=FH.1 m;obtain⟨z,hz,rfl⟩:=FH.1 ((YF ..).mem_iff.1 hy);exact L z (ET.1 hz).1
 obtain⟨b1,b2⟩:=h.applies (Iw l j) (Gs l j) a2 Y;unfold lastOf;rw[q,U,b1];refine⟨rfl,fun x m=>?_⟩;rcases aJt _ _ m with m|m
 ·exact u x m
 exact b2 x m
def G9.resolve {j:List (List Ai)} (hs:∀s∈j,Jo S s):WW l' j=WW l j∧Jo S (WW l j):=by
 match j,hs with
 | [],_=>exact⟨rfl,fun _ h=>absurd h Ef⟩
 | [s],hs=>exact⟨rfl,hs s (Ec ..)⟩
 |s::r::j,hs=>exact h.last hs
def G9.verdict {t t':List Cx} {x:Int} (q:x∈S) {s:List Ai} (hs:Jo S s) (I:∀a∈(ev l x).bf,errOf t' a=errOf t a):Ju l' t' (ev l' x) s=Ju l t (ev l x) s:=by
 obtain⟨O,k2,j⟩:=h.mem x q
 have J:WR l' (ev l' x)=WR l (ev l x):=by
  unfold WR;rw[h.fits j (h.auth x q),aF1 j (h.from j (h.auth x q))]
 have m:(ev l' x).bf.any (fun x=>errOf t' x != 0)=(ev l x).bf.any (fun x=>errOf t x != 0):=by
  rw[j.auth,Q8,Gw,Gw];exact⟨fun⟨a,ha,e⟩=>⟨a,ha,by rw[←I a ha];exact e⟩,fun⟨a,ha,e⟩=>⟨a,ha,by rw[I a ha];exact e⟩⟩
 have u:Ls (ev l' x) (FK l' s)=Ls (ev l x) (FK l s):=aF1 j (h.ids fun y L=>by
  obtain⟨z,M,rfl⟩:=FH.1 L
  exact hs z M)
 unfold Ju;rw[J,m,u]
def G9.line {t t':List Cx} {x:Int} (q:x∈S) (z:∀a∈(ev l x).bF,L9 t' a=L9 t a∧Jo S (L9 t a)) (I:∀a∈(ev l x).bf,errOf t' a=errOf t a):
 Js l' t' (ev l' x)=Js l t (ev l x)∧Jo S (Js l t (ev l x)).before∧Jo S (Js l t (ev l x)).after:=by
 obtain⟨J,k2,m⟩:=h.mem x q
 have j:stB l' t' (ev l' x)=stB l t (ev l x)∧Jo S (stB l t (ev l x)):=by
  have L:(ev l x).bF.map (L9 t')=(ev l x).bF.map (L9 t):=aBD fun a ha=>(z a ha).1;unfold stB;rw[m.prev,L]
  exact h.resolve fun s hs=>by
   obtain⟨a,ha,rfl⟩:=FH.1 hs;exact(z a ha).2
 unfold Js WO;rw[j.1,h.verdict q j.2 I,m.id,m.kind,m.key];refine⟨rfl,j.2,?_⟩;show Jo S (bif Ju l t (ev l x) (stB l t (ev l x))==0&&GX (ev l x).Kind then _ else _);cases(Ju l t (ev l x) (stB l t (ev l x))==0&&GX (ev l x).Kind)with
 |false=>exact j.2
 |true=>
  intro y u;rcases Pg u with rfl|u
  ·show(ev l x).Id∈S;rw[(Jb J).2];exact q
  exact j.2 y u
end
end Go.Proofs.YtkkdimcnpacjhaaGreat
end
section
namespace Go.Proofs.YtkkdimcnpacjhaaGreat
def Rk (n:Int):Int:=if n<0 then bits .xor .u64 IntKind.u64.max (IntKind.u64.wrap (IntKind.u64.wrap n*2))else IntKind.u64.wrap (IntKind.u64.wrap n*2)
def jD (n:Int):0≤Rk n∧Rk n<18446744073709551616:=by
 unfold Rk;have j:∀x:Int,0≤IntKind.u64.wrap x∧IntKind.u64.wrap x<18446744073709551616:=fun x=>by rw[ig];omega
 split
 ·obtain⟨m,u⟩:=j (IntKind.u64.wrap n*2);generalize IntKind.u64.wrap (IntKind.u64.wrap n*2)=y at *;obtain⟨k,rfl⟩:=Int.eq_ofNat_of_zero_le m;have :(IntKind.u64.max:Int)=((18446744073709551615:Nat):Int):=BK
  rw[this,bits_xor_u64_nat _ _ A8 A8];have :18446744073709551615^^^k<2^64:=Nat.xor_lt_two_pow A8 A8;constructor
  ·exact aIu _
  have q:(2:Nat)^64=18446744073709551616:=BK
  omega
 exact j _
def N8 (u:Nat):List Int:=if u<128 then[(u:Int)]else((u % 128+128:Nat):Int)::N8 (u/128)
termination_by u
decreasing_by omega
def aB {u:Nat} (h:u<128):N8 u=[(u:Int)]:=by rw[N8,CJ h]
def aLE {u:Nat} (h:¬u<128):N8 u=((u % 128+128:Nat):Int)::N8 (u/128):=by rw[N8,CU h]
def aP2 :∀(j u:Nat),u<128^(j+1)→(N8 u).length≤j+1
 |0,u,h=>by rw[aB JU];simp
 |j+1,u,h=>by
  by_cases m:u<128
  ·rw[aB m];simp
  rw[aLE m]
  have :u/128<128^(j+1):=by
   rw[Nat.div_lt_iff_lt_mul A8];rw[Nat.pow_succ]at h;exact h
  have :=aP2 j (u/128) this;simp;omega
def enc (n:Int):List Int:=N8 (Rk n).toNat
def Ns (n:Int):(enc n).length≤10:=by
 have h:=(jD n).2;refine aP2 9 _ ?_;have :(128:Nat)^10=1180591620717411303424:=BK
 rw[this];have :=(jD n).1;omega
def aos (k:Nat):bits .or .u8 ((k:Int) % 256) 128=((k % 128+128:Nat):Int):=by
 have h:=u8_or_nat (k % 256) 128 A8 A8;rw[show((k:Int) % 256)=((k % 256:Nat):Int)from by omega];have j:(128:Int)=((128:Nat):Int):=rfl;rw[j,h];congr 1;have key:∀x,x<256→x|||128=x % 128+128:=L6
 rw[key _ A8];omega
def oG (u c:Int):Int:=(IntKind.u64.wrap (bits .xor .u64 u (IntKind.u64.wrap c)*1099511628211)).tmod 4611686018427387904
def aPX (x:Int):bits .and .u64 (IntKind.u64.wrap x) 4611686018427387903=(IntKind.u64.wrap x).tmod 4611686018427387904:=by
 rw[ig];have h:=bits_mask .u64 64 BK (fun n m q=>by rw[ig];omega) 62 BK (x % 18446744073709551616) A8 A8;have e:((2:Int)^62-1)=4611686018427387903:=BK
 have j:((2:Int)^62)=4611686018427387904:=BK
 rw[aaT A8];simpa[e,j]using h
def afq (u c:Int):bits .and .u64 (IntKind.u64.wrap (bits .xor .u64 u (IntKind.u64.wrap c)*1099511628211)) 4611686018427387903=oG u c:=aPX _
def aAi (op:BinOp) (k:IntKind) (x y:Int) (h:op=.and∨op=.or∨op=.xor):Dx op k x y=bits op k x y:=by
 rcases h with rfl|rfl|rfl<;>rfl
def Ll {α:Type} {b:Nat} {l m:List α} (j:b≤100) (h:(l++m).length≤1099511627776):Bq b l m=some (l++m):=by
 refine D5 ?_;rw[Dk]at h;have :(l.length+m.length)*b≤1099511627776*100:=vJ h j;omega
def ak5 (u:Nat):Dx .or .u8 (IntKind.u8.wrap (u:Int)) 128=((u % 128+128:Nat):Int):=by
 rw[aAi _ _ _ _ (.inr (.inl rfl)),show IntKind.u8.wrap (u:Int)=(u:Int) % 256 from by rw[iw],aos]
def anE (u:Nat):NZ .shr .u64 (u:Int) 7=some ((u/128:Nat):Int):=by
 unfold NZ;rw[CU A8];show some ((u:Int).fdiv (2^7))=_;rw[adB _ BK];congr 1
def aQ7 {u n:Nat} (h:u<128^(n+1+1)):u/128<128^(n+1):=by
 rw[Nat.div_lt_iff_lt_mul A8];rw[Nat.pow_succ]at h;exact h
def aiI :∀(n u:Nat),u<128^(n+1)→∀m b,n<m→(b++N8 u).length≤1099511627776→aP Ub m b (u:Int)=some (b++N8 u):=by
 intro n
 induction n with
 |zero=>
  intro u q m b J j;obtain⟨m,rfl⟩:∃z,m=z+1:=⟨m-1,A8⟩
  have h:u<128:=MV
  rw[aB h]at j ⊢;show Ub (aP Ub m) b (u:Int)=_;simp only[Ub,show decide ((u:Int)≥128)=false from by simp;omega,Ar];rw[show IntKind.u8.wrap (u:Int)=(u:Int)from by rw[iw];omega,Ll A8 j];rfl
 |succ n L=>
  intro u q m b J j;obtain⟨m,rfl⟩:∃z,m=z+1:=⟨m-1,A8⟩
  show Ub (aP Ub m) b (u:Int)=_;by_cases h:u<128
  ·rw[aB h]at j ⊢;simp only[Ub,show decide ((u:Int)≥128)=false from by simp;omega,Ar];rw[show IntKind.u8.wrap (u:Int)=(u:Int)from by rw[iw];omega,Ll A8 j];rfl
  rw[aLE h]at j ⊢;have e:(b++((u % 128+128:Nat):Int)::N8 (u/128))=(b++[((u % 128+128:Nat):Int)])++N8 (u/128):=Am
  have I:(b++[((u % 128+128:Nat):Int)]).length≤1099511627776:=by simp only[Dk,FC,Kr]at j ⊢;omega
  simp only[Ub,show decide ((u:Int)≥128)=true from by simp;omega,BA,ak5,Ll (show 1≤100 by omega) I,anE,AQ];rw[e];exact L (u/128) (aQ7 q) m _ A8 (by rw[←e];exact j)
def ahT :∀(n u:Nat),u<128^(n+1)→u<18446744073709551616→∀m b,n<m→(b++N8 u).length≤1099511627776→aP VG m (u:Int) b=some (b++N8 u):=by
 intro n
 induction n with
 |zero=>
  intro u q _ m b J j;obtain⟨m,rfl⟩:∃z,m=z+1:=⟨m-1,A8⟩
  have h:u<128:=MV
  rw[aB h]at j ⊢;show VG (aP VG m) (u:Int) b=_;simp only[VG,show decide ((u:Int)≥128)=false from by simp;omega,Ar];rw[show IntKind.u8.wrap (u:Int)=(u:Int)from by rw[iw];omega,Ll A8 j];rfl
 |succ n L=>
  intro u q M m b J j;obtain⟨m,rfl⟩:∃z,m=z+1:=⟨m-1,A8⟩
  show VG (aP VG m) (u:Int) b=_;by_cases h:u<128
  ·rw[aB h]at j ⊢;simp only[VG,show decide ((u:Int)≥128)=false from by simp;omega,Ar];rw[show IntKind.u8.wrap (u:Int)=(u:Int)from by rw[iw];omega,Ll A8 j];rfl
  rw[aLE h]at j ⊢;have e:(b++((u % 128+128:Nat):Int)::N8 (u/128))=(b++[((u % 128+128:Nat):Int)])++N8 (u/128):=Am
  have I:(b++[((u % 128+128:Nat):Int)]).length≤1099511627776:=by simp only[Dk,FC,Kr]at j ⊢;omega
  have O:Ya (u:Int) 128=some ((u % 128:Nat):Int):=by unfold Ya;rw[CU A8,aaT A8];congr 1
  have U:aNN .u64 (u:Int) 128=some ((u/128:Nat):Int):=by
   unfold aNN;rw[CU A8,Int.tdiv_eq_ediv_of_nonneg A8];congr 1;rw[ig];omega
  have Y:IntKind.u8.wrap (IntKind.u64.wrap (((u % 128:Nat):Int)+128))=((u % 128+128:Nat):Int):=by rw[ig,iw];omega
  simp only[VG,show decide ((u:Int)≥128)=true from by simp;omega,BA,O,Y,U,Ll (show 1≤100 by omega) I,AQ];rw[e];exact L (u/128) (aQ7 q) A8 m _ A8 (by rw[←e];exact j)
def aa8 (x:Int):NZ .shl .u64 x 1=some (IntKind.u64.wrap (x*2)):=rfl
def abU (x:Int):gI .u64 x=bits .xor .u64 IntKind.u64.max x:=rfl
def abp (n:Int):(Rk n).toNat<128^(9+1):=by
 have j:=jD n;have :(128:Nat)^(9+1)=1180591620717411303424:=BK
 rw[this];omega
def abu :9<Ag:=bg
def number_eq {b:List Int} {n:Int} (h:(b++enc n).length≤1099511627776):X6 b n=some (b++enc n):=by
 have q:=jD n
 have j:aOC b (Rk n)=some (b++enc n):=by
  have :=aiI 9 (Rk n).toNat (abp n) Ag b abu h
  rwa [Int.toNat_of_nonneg q.1]at this
 unfold X6;rw[aa8,AQ];unfold wW;unfold Rk at j;by_cases m:n<0
 ·rw[CJ m]at j;rw[show decide (n<0)=true by simpa using m,BA,abU];exact j
 rw[CU m]at j;rw[show decide (n<0)=false by simpa using m,Ar];exact j
def afg (n:Int):([]++enc n).length≤1099511627776:=by have :=Ns n;simp only[Hd];omega
def aPs (n:Int):y8 n=some (enc n):=by
 have q:=jD n
 have j:abq (Rk n) []=some (enc n):=by
  have :=ahT 9 (Rk n).toNat (abp n) A8 Ag [] abu (afg n)
  rwa [Int.toNat_of_nonneg q.1]at this
 unfold y8;rw[aa8,AQ];unfold aKI;unfold Rk at j;by_cases m:n<0
 ·rw[CJ m]at j;rw[show decide (n<0)=true by simpa using m,BA,abU];exact j
 rw[CU m]at j;rw[show decide (n<0)=false by simpa using m,Ar];exact j
def kG {b:List Int} {m:Nat} (h:b.length+m≤1099511627776):X9 b (m:Int)=some b:=by
 unfold X9;rw[Ob A8 A8];unfold IK;rw[CJ ⟨A8,A8,A8⟩];simp[gCopy]
def wS {a b:List Int} (h:(a++b).length≤1099511627776):a.length≤1099511627776:=by rw[Dk]at h;omega
def IY (s:ByteArray):List Int:=enc s.size++BO s
def text_eq {b:List Int} {s:ByteArray} (h:(b++IY s).length≤1099511627776):jS b s=some (b++IY s):=by
 unfold IY at h ⊢;rw[←Gq]at h ⊢;unfold jS;rw[number_eq (wS h),AQ,Ll A8 h];rfl
def pY {b:List Int} {n:Int} (h:b.length+10≤1099511627776):Ld b n=some (b++enc n):=by
 have :=Ns n;unfold Ld;rw[show(10:Int)=((10:Nat):Int)from rfl,kG A8,AQ,number_eq JZ];rfl
def Xm {b:List Int} {n:Int} (h:b.length+10≤1099511627776):Jg b n=some (b++enc n):=by
 have :=Ns n;unfold Jg;rw[Ll A8 aC4,AQ,aPs,AQ,Hd,Ll A8 JZ];rfl
def bC (s:ByteArray):(IY s).length≤s.size+10:=by
 have :=Ns s.size;unfold IY;rw[Dk,H8];omega
def ani {b:List Int} {s:ByteArray} (h:b.length+s.size+10≤1099511627776):Qm b s=some (b++IY s):=by
 have :=bC s;unfold Qm;rw[Ob A8 A8,show(s.size:Int)+10=((s.size+10:Nat):Int) by omega,kG A8,AQ,text_eq JZ];rfl
def abY {b:List Int} {s:ByteArray} (h:b.length+s.size+10≤1099511627776):QW b s=some (b++IY s):=by
 have :=bC s;unfold QW;rw[Xm A8,AQ,Ll A8 (by unfold IY at this;rw[Dk]at this;rw[Dk,Dk];omega)];simp[IY]
def am1 {b:List Int} {j:Bool} (h:b.length+10≤1099511627776):Xf b j=some (b++[bif j then 1 else 0]):=by
 unfold Xf;rw[show(1:Int)=((1:Nat):Int)from rfl,kG A8,AQ];cases j<;>simp only[BA,Ar]<;>rw[Ll A8 aGI]<;>rfl
def asc {b:List Int} {j:Bool} (h:b.length+10≤1099511627776):qJ b j=some (b++[bif j then 1 else 0]):=by
 unfold qJ;rw[Ll A8 aC4,AQ,Hd];cases j<;>simp only[BA,Ar]<;>rw[Ll A8 aGI]<;>rfl
def aMG {α:Type} {body:(List Int→Int→Option (List Int))→List Int→Int→Option (List Int)} (l:List α) (hl:l.length<Ag) (g:α→List Int)
 (z:∀k b (i:Nat) (h:i<l.length),(b++g l[i]).length≤1099511627776→body k b (i:Int)=k (b++g l[i]) (Ah ((i:Int)+1))) (I:∀k b,body k b (l.length:Int)=some b) (b:List Int) (j:(b++l.flatMap g).length≤1099511627776):
 aP body Ag b 0=some (b++l.flatMap g):=by
 have M:Ag=9223372036854775808:=rfl
 have key:∀n (i:Nat) b,i+n=l.length→(b++(l.drop i).flatMap g).length≤1099511627776→∀m,n<m→aP body m b (i:Int)=some (b++(l.drop i).flatMap g):=by
  intro n
  induction n with
  |zero=>
   intro i b hi j m J;obtain⟨m,rfl⟩:∃u,m=u+1:=⟨m-1,A8⟩
   have :i=l.length:=A8
   subst this;show body (aP body m) _ _=_;rw[I,Na];simp
  |succ n L=>
   intro i b hi j m J;obtain⟨m,rfl⟩:∃u,m=u+1:=⟨m-1,A8⟩
   have q:i<l.length:=A8
   rw[Jp q,Lj,←Gq]at j ⊢;show body (aP body m) _ _=_;rw[z _ _ i q (wS j),wrap_succ i A8];exact L (i+1) _ A8 j m A8
 exact key l.length 0 b A8 j Ag hl
def OJ (l:List Int):List Int:=enc l.length++l.flatMap enc
def OI (l:List ByteArray):List Int:=enc l.length++l.flatMap IY
def anq {b:List Int} {l:List Int} (h:(b++OJ l).length≤1099511627776) (hl:l.length≤1000):aAZ b l=some (b++OJ l):=by
 have m:Ag=9223372036854775808:=rfl;unfold OJ at h ⊢;rw[←Gq]at h ⊢;unfold aAZ;rw[number_eq (wS h),AQ];unfold aQ1;refine aMG l A8 enc (fun k b i hi j=>?_) (fun k b=>?_) _ h
 ·simp only[aKb,dec_lt hi,BA,Bf hi,number_eq j,AQ]
 simp only[aKb,CZ,Ar]
def asV {b:List Int} {l:List ByteArray} (h:(b++OI l).length≤1099511627776) (hl:l.length≤1000000000):xW b l=some (b++OI l):=by
 have m:Ag=9223372036854775808:=rfl;unfold OI at h ⊢;rw[←Gq]at h ⊢;unfold xW;rw[number_eq (wS h),AQ];unfold aO3;refine aMG l A8 IY (fun k b i hi j=>?_) (fun k b=>?_) _ h
 ·simp only[aKW,dec_lt hi,BA,Bf hi,text_eq j,AQ]
 simp only[aKW,CZ,Ar]
def yC {α:Type} {g:α→List Int} {m:Nat}:∀{l:List α},(∀x∈l,(g x).length≤m)→(l.flatMap g).length≤l.length*m
 | [],_=>Am
 |x::l,h=>by
  rw[Lj,Dk,FC,U0];have :=h x Ec;have :=yC (l:=l) (fun y j=>h y (Ez _ j));omega
def aJY (l:List Int):(OJ l).length≤l.length*10+10:=by
 have j:=Ns l.length;have q:=yC (g:=enc) (m:=10) (l:=l) (fun x _=>Ns x);unfold OJ;rw[Dk];omega
def aKB {l:List ByteArray} {m:Nat} (h:∀s∈l,s.size≤m):(OI l).length≤l.length*(m+10)+10:=by
 have j:=Ns l.length;have q:=yC (g:=IY) (m:=m+10) (l:=l) (fun s hs=>by have :=bC s;have :=h s hs;omega);unfold OI;rw[Dk];omega
def ahy {b:List Int} {l:List Int} (j:b.length+20000≤1099511627776) (hl:l.length≤1000):Vs b l=some (b++OJ l):=by
 have m:=aJY l;unfold Vs;rw[Ob (x:=2*(l.length:Int)) A8 A8,Ob A8 A8,show 2*(l.length:Int)+10=((2*l.length+10:Nat):Int) by omega,kG A8,AQ,anq JZ hl];rfl
def akt {b:List Int} {l:List Int} (m:b.length+20000≤1099511627776) (hl:l.length≤1000):jv b l=some (b++OJ l):=by
 have q:Ag=9223372036854775808:=rfl;have u:=aJY l;have h:(b++OJ l).length≤1099511627776:=JZ
 unfold OJ at h ⊢;rw[←Gq]at h ⊢;unfold jv;rw[Xm A8,AQ];unfold aOI;refine aMG l A8 enc (fun k b i hi j=>?_) (fun k b=>?_) _ h
 ·simp only[aLq,dec_lt hi,BA,Bf hi,aPs,Ll (show 1≤100 by omega) j,AQ]
 simp only[aLq,CZ,Ar]
def am2 {b:List Int} {l:List ByteArray} (j:b.length+3000000≤1099511627776) (hl:l.length≤1000) (hs:∀s∈l,s.size≤2000):iH b l=some (b++OI l):=by
 have m:=aKB hs;unfold iH;rw[Ob (x:=8*(l.length:Int)) A8 A8,Ob A8 A8,show 8*(l.length:Int)+10=((8*l.length+10:Nat):Int) by omega,kG A8,AQ,asV JZ A8];rfl
def al9 {b:List Int} {l:List ByteArray} (J:b.length+3000000≤1099511627776) (hl:l.length≤1000) (hs:∀s∈l,s.size≤2000):qW b l=some (b++OI l):=by
 have L:Ag=9223372036854775808:=rfl;have M:=aKB hs;have h:(b++OI l).length≤1099511627776:=JZ
 have key:∀n (i:Nat) b,i+n=l.length→b.length+(n*2020)≤1099511620000→∀m,n<m→aP (WY l) m b (i:Int)=some (b++(l.drop i).flatMap IY):=by
  intro n
  induction n with
  |zero=>
   intro i b hi u m z;obtain⟨m,rfl⟩:∃q,m=q+1:=⟨m-1,A8⟩
   have :i=l.length:=A8
   subst this;show WY l (aP (WY l) m) _ _=_;simp only[WY,CZ,Ar,Na];simp
  |succ n I=>
   intro i b hi u m z;obtain⟨m,rfl⟩:∃q,m=q+1:=⟨m-1,A8⟩
   have j:i<l.length:=A8
   have O:=hs l[i] (E8 j);have U:=bC l[i];rw[Jp j,Lj,←Gq];show WY l (aP (WY l) m) _ _=_;simp only[WY,dec_lt j,BA,Bf j,AQ];rw[abY A8,AQ,wrap_succ i A8];exact I (i+1) _ A8 JZ m A8
 unfold OI;rw[←Gq];unfold qW;rw[Xm A8,AQ];unfold aPI;have :=key l.length 0 (b++enc l.length) A8 (by have :=Ns l.length;rw[Dk];omega) Ag A8;exact this
structure PY (c:Bg):Prop where
 allow:c.Allow.length≤100
 deny:c.gB.length≤100
 users:c.Levels.Users.length≤100
 kinds:c.Levels.Kinds.length≤100
 text:c.Text.size≤2000
 via:c.Via.size≤2000
 allows:∀x∈c.Allow,x.size≤2000
 denies:∀x∈c.gB,x.size≤2000
 names:∀x∈c.Levels.Users,x.User.size≤2000
def GV.content {e:AL} (h:GV e):PY e.Content:=⟨h.allow,h.deny,h.users,h.kinds,h.text,h.via,h.allows,h.denies,h.names⟩
section
variable {b : List Int} {k : Nat}
def RJ (h:b.length≤k) (j:k≤1000000000) (n:Int):Ld b n=some (b++enc n)∧Jg b n=some (b++enc n)∧(b++enc n).length≤k+10:=by
 have :=Ns n;exact⟨pY A8,Xm A8,JZ⟩
def adh (h:b.length≤k) (m:k≤1000000000) (j:Bool):Xf b j=some (b++[bif j then 1 else 0])∧qJ b j=some (b++[bif j then 1 else 0])∧(b++[bif j then(1:Int)else 0]).length≤k+10:=
 ⟨am1 A8,asc A8,aGI⟩
def UN (h:b.length≤k) (j:k≤1000000000) {s:ByteArray} (m:Nat) (hs:s.size≤m) (q:m≤1000000000):Qm b s=some (b++IY s)∧QW b s=some (b++IY s)∧(b++IY s).length≤k+m+10:=by
 have :=bC s;exact⟨ani A8,abY A8,JZ⟩
def aOW (h:b.length≤k) (j:k≤1000000000) {l:List Int} (hl:l.length≤100):Vs b l=some (b++OJ l)∧jv b l=some (b++OJ l)∧(b++OJ l).length≤k+1010:=by
 have :=aJY l;exact⟨ahy A8 A8,akt A8 A8,JZ⟩
def aa0 (h:b.length≤k) (j:k≤1000000000) {l:List ByteArray} (hl:l.length≤100) (hs:∀s∈l,s.size≤2000):iH b l=some (b++OI l)∧qW b l=some (b++OI l)∧(b++OI l).length≤k+201010:=by
 have :=aKB hs;exact⟨am2 A8 A8 hs,al9 A8 A8 hs,JZ⟩
end
def QO (u:H7):List Int:=IY u.User++enc u.N
def QI (u:IJ):List Int:=enc u.Kind++enc u.N
def IX (l:Ba):List Int:=[l.User,l.Message,l.State,l.fH,l.jI,l.mW,l.eU]
def aks (b:List Int) (l:Ba):List Int:=b++enc l.Users.length++l.Users.flatMap QO++enc l.Kinds.length++l.Kinds.flatMap QI++(IX l).flatMap enc
def dB (c:Bg):List Int:=aks ([]++IY c.Text++enc c.N++enc c.Target++[bif c.Thread then 1 else 0]++IY c.Via++OI c.Allow++OI c.gB) c.Levels
def atJ {u:H7} (h:u.User.size≤2000):(QO u).length≤2020:=by
 have :=bC u.User;have :=Ns u.N;unfold QO;rw[Dk];omega
def aOw (u:IJ):(QI u).length≤20:=by
 have :=Ns u.Kind;have :=Ns u.N;unfold QI;rw[Dk];omega
def aJ {R α:Type} {body:(List Int→Int→Option R)→List Int→Int→Option R} (l:List α) (hl:l.length≤1000) (g:α→List Int) (m:Nat) (q:∀x∈l,(g x).length≤m) (j:List Int→Option R) (b:List Int)
 (u:∀k a (i:Nat) (h:i<l.length),a.length≤b.length+i*m→body k a (i:Int)=k (a++g l[i]) (Ah ((i:Int)+1)))
 (z:∀k a,a.length≤b.length+l.length*m→body k a (l.length:Int)=j a):aP body Ag b 0=j (b++l.flatMap g)∧(b++l.flatMap g).length≤b.length+l.length*m:=by
 constructor
 ·rw[Gi l A8 (fun a x=>a++g x) (fun i a=>a.length≤b.length+i*m) j A8 (fun k a i h I=>⟨?_,u k a i h I⟩) z,foldl_append g];have :=q l[i] (E8 h);rw[Dk,U0];omega
 have :=yC q;rw[Dk];omega
def as1 (c:Bg) (b:List Int) (I:b.length≤900000):(aGn c b 0=some (b++(IX c.Levels).flatMap enc)∧aKv (IX c.Levels) b 0=some (b++(IX c.Levels).flatMap enc))∧(b++(IX c.Levels).flatMap enc).length≤b.length+70:=by
 have q:∀i:Nat,(h:i<(IX c.Levels).length)→Af ([c.Levels.User,c.Levels.Message,c.Levels.State,c.Levels.fH,c.Levels.jI,c.Levels.mW,c.Levels.eU]:List Int) (i:Int)=some (IX c.Levels)[i]:=fun i h=>Bf h
 have m:=aJ (body:=aKf c) (IX c.Levels) (by simp[IX]) enc 10 (fun x _=>Ns x) some b (fun k a i h j=>by
  have u:i<7:=h;unfold aKf
  rw[Ht (show(i:Int)<7 by omega),BA,q i h,AQ,pY A8,AQ]) fun k a j=>rfl
 have z:=aJ (body:=aD6 (IX c.Levels)) (IX c.Levels) (by simp[IX]) enc 10 (fun x _=>Ns x) some b (fun k a i h j=>by
  have u:i<7:=h;unfold aD6
  rw[Bl h,Xm A8,AQ]) fun k a j=>by unfold aD6;rw[CZ];rfl
 exact⟨⟨m.1,z.1⟩,m.2⟩
def aj9 (c:Bg) (b:List Int) (J:b.length≤800000) (L:c.Levels.Kinds.length≤100):(aHw c b 0=some (b++c.Levels.Kinds.flatMap QI++(IX c.Levels).flatMap enc)∧aKp c b 0=some (b++c.Levels.Kinds.flatMap QI++(IX c.Levels).flatMap enc))∧(b++c.Levels.Kinds.flatMap QI++(IX c.Levels).flatMap enc).length≤b.length+2070:=by
 have q:=aJ (body:=aB4 c) c.Levels.Kinds A8 QI 20 (fun x _=>aOw x) (fun a=>aGn c a 0) b (fun k a i h j=>by
  obtain⟨m,_,z⟩:=RJ (b:=a) (k:=900000) A8 A8 c.Levels.Kinds[i].Kind;unfold aB4
  rw[Bl h,m,AQ,pY A8,AQ,Gq];rfl) fun k a j=>by unfold aB4;rw[CZ];rfl
 have I:=aJ (body:=zC c) c.Levels.Kinds A8 QI 20 (fun x _=>aOw x) (fun a=>aKv (IX c.Levels) a 0) b (fun k a i h j=>by
  obtain⟨_,m,z⟩:=RJ (b:=a) (k:=900000) A8 A8 c.Levels.Kinds[i].Kind;unfold zC
  rw[Bl h,m,AQ,Bf h,AQ,Xm A8,AQ,Gq];rfl) fun k a j=>by unfold zC abT;rw[CZ,Ar,AQ];rfl
 have hl:=q.2;have u:=as1 c (b++c.Levels.Kinds.flatMap QI) A8;exact⟨⟨q.1.trans u.1.1,I.1.trans u.1.2⟩,A8⟩
def ake (c:Bg) (b:List Int) (Y:b.length≤500000) (j:PY c):(aOB c b 0=some (b++c.Levels.Users.flatMap QO++enc c.Levels.Kinds.length++c.Levels.Kinds.flatMap QI++(IX c.Levels).flatMap enc)∧aRP c b 0=some (b++c.Levels.Users.flatMap QO++enc c.Levels.Kinds.length++c.Levels.Kinds.flatMap QI++(IX c.Levels).flatMap enc))∧(b++c.Levels.Users.flatMap QO++enc c.Levels.Kinds.length++c.Levels.Kinds.flatMap QI++(IX c.Levels).flatMap enc).length≤b.length+204080:=by
 have Z:=j.users;have z:∀x∈c.Levels.Users,(QO x).length≤2020:=fun x J=>atJ (j.names x J)
 have I:=aJ (body:=yS c) c.Levels.Users A8 QO 2020 z (fun a=>aHw c (a++enc c.Levels.Kinds.length) 0) b (fun k a i h m=>by
  have hs:=j.names _ (E8 h);obtain⟨q,_,L⟩:=UN (b:=a) (k:=900000) A8 A8 (s:=c.Levels.Users[i].User) 2000 hs A8;unfold yS
  rw[Bl h,q,AQ,pY A8,AQ,Gq];rfl) fun k a m=>by unfold yS;rw[CZ,Ar,pY A8,AQ]
 have M:=aJ (body:=wV c) c.Levels.Users A8 QO 2020 z (fun a=>aKp c (a++enc c.Levels.Kinds.length) 0) b (fun k a i h m=>by
  have hs:=j.names _ (E8 h);obtain⟨_,q,L⟩:=UN (b:=a) (k:=900000) A8 A8 (s:=c.Levels.Users[i].User) 2000 hs A8;unfold wV
  rw[Bl h,q,AQ,Bf h,AQ,Xm A8,AQ,Gq];rfl) fun k a m=>by unfold wV;rw[CZ,Ar,Xm A8,AQ]
 have hl:=I.2;have he:=Ns (c.Levels.Kinds.length:Int);have O:(b++c.Levels.Users.flatMap QO++enc c.Levels.Kinds.length).length=(b++c.Levels.Users.flatMap QO).length+(enc c.Levels.Kinds.length).length:=Dk ..;have u:=aj9 c (b++c.Levels.Users.flatMap QO++enc c.Levels.Kinds.length) A8 j.kinds;have U:=u.2;rw[O]at U;exact⟨⟨I.1.trans u.1.1,M.1.trans u.1.2⟩,A8⟩
def aak {c:Bg} (j:PY c):pX c=some (dB c)∧aD0 c=some (dB c)∧(dB c).length≤700000:=by
 obtain⟨m,q,u⟩:=UN (b:=[]) (k:=0) (Dc _) A8 2000 j.text A8;obtain⟨z,I,J⟩:=RJ u A8 c.N;obtain⟨L,M,O⟩:=RJ J A8 c.Target;obtain⟨U,Y,Z⟩:=adh O A8 c.Thread;obtain⟨a5,b5,h5⟩:=UN Z A8 2000 j.via A8;obtain⟨a6,b6,h6⟩:=aa0 h5 A8 j.allow j.allows;obtain⟨a7,b7,h7⟩:=aa0 h6 A8 j.deny j.denies;obtain⟨a8,b8,h8⟩:=RJ h7 A8 (c.Levels.Users.length:Int);obtain⟨⟨a9,b9⟩,h9⟩:=ake c _ (EZ h8 A8) j;refine⟨?_,?_,EZ h9 A8⟩
 ·unfold pX;rw[m,AQ,z,AQ,L,AQ,U,AQ,a5,AQ,a6,AQ,a7,AQ,a8,AQ];exact a9
 unfold aD0;rw[q,AQ,I,AQ,M,AQ,Y,AQ,b5,AQ,b6,AQ,b7,AQ,b8,AQ];exact b9
def yw (e:AL):List Int:=
 []++enc e.Id++IY e.Room++IY e.aN++enc e.Kind++[bif e.State then 1 else 0]++IY e.Key++enc e.Time++enc e.Depth++OJ e.bF++OJ e.bf++IY (QC (dB e.Content))++enc e.Hash++IY e.rP.Server++enc e.rP.Sum
def amY (l:List Int):(QC l).size=l.length:=by
 have key:∀(l:List Int) (r:ByteArray),(l.foldl (fun r n=>r.push (UInt8.ofNat n.toNat)) r).size=r.size+l.length:=by
  intro l
  induction l with
  |nil=>intro r;rfl
  |cons x l j=>intro r;rw[El,j,ByteArray.size_push,FC];omega
 unfold QC;rw[key];simp
def aCN {S α:Type} {body:(Int→S→Option S)→Int→S→Option S} (l:List α) (hl:l.length<1000) (f:S→α→Option S)
 (u:∀k (i:Nat) (h:i<l.length) s,body k (i:Int) s=(f s l[i]).bind fun x=>k (Ah ((i:Int)+1)) x) (z:∀k s,body k (l.length:Int) s=some s) (s:S):aP body Ag 0 s=l.foldlM f s:=by
 have L:Ag=9223372036854775808:=rfl
 have key:∀n (i:Nat) s,i+n=l.length→∀m,n<m→aP body m (i:Int) s=(l.drop i).foldlM f s:=by
  intro n
  induction n with
  |zero=>
   intro i s hi m I;obtain⟨m,rfl⟩:∃q,m=q+1:=⟨m-1,A8⟩
   have :i=l.length:=A8
   subst this;rw[Na];exact z _ _
  |succ n J=>
   intro i s hi m I;obtain⟨m,rfl⟩:∃q,m=q+1:=⟨m-1,A8⟩
   have j:i<l.length:=A8
   rw[Jp j,Td];show body (aP body m) _ _=(f s l[i]).bind _;rw[u _ i j,wrap_succ i A8];congr 1;funext x;exact J (i+1) x A8 m A8
 exact key l.length 0 s A8 Ag A8
def aR0 (w:Ei) (l:List Int) (hl:l.length<1000):Ry w l=l.foldlM iR w:=by
 unfold Ry adq;exact aCN l hl _ (fun k i h s=>by simp only[aHH,dec_lt h,BA,Bf h,AQ]) (fun k s=>by simp only[aHH,CZ,Ar]) w
def ads (w:Ei) (l:List ByteArray) (hl:l.length<1000):UF w l=l.foldlM eM w:=by
 unfold UF aPJ;exact aCN l hl _ (fun k i h s=>by simp only[aLl,dec_lt h,BA,Bf h,AQ]) (fun k s=>by simp only[aLl,CZ,Ar]) w
def ahQ (w:Ei) (l:List Bool) (hl:l.length<1000):vG w l=l.foldlM oh w:=by
 unfold vG aRC;exact aCN l hl _ (fun k i h s=>by simp only[aJu,dec_lt h,BA,Bf h,AQ]) (fun k s=>by simp only[aJu,CZ,Ar]) w
def akC (w:Ei) (l:List (List Int)) (hl:l.length<1000):jP w l=l.foldlM dN w:=by
 unfold jP abb;exact aCN l hl _ (fun k i h s=>by simp only[aJH,dec_lt h,BA,Bf h,AQ]) (fun k s=>by simp only[aJH,CZ,Ar]) w
def aIb {b c:List Int} {n:Int} (h:Ld b n=some c):iR ⟨b⟩ n=some ⟨c⟩:=by unfold iR;rw[h];rfl
def aIP {b c:List Int} {n:ByteArray} (h:Qm b n=some c):eM ⟨b⟩ n=some ⟨c⟩:=by unfold eM;rw[h];rfl
def afs {b c:List Int} {n:Bool} (h:Xf b n=some c):oh ⟨b⟩ n=some ⟨c⟩:=by unfold oh;rw[h];rfl
def aRd {b c:List Int} {n:List Int} (h:Vs b n=some c):dN ⟨b⟩ n=some ⟨c⟩:=by unfold dN;rw[h];rfl
def xX {b c:List Int} {n:Int} (h:Ld b n=some c):Ry ⟨b⟩ [n]=some ⟨c⟩:=by
 rw[aR0 _ _ Am,Td,aIb h];rfl
def ahJ {b c d:List Int} {n m:Int} (h:Ld b n=some c) (k:Ld c m=some d):Ry ⟨b⟩ [n,m]=some ⟨d⟩:=by
 rw[aR0 _ _ Am,Td,aIb h];show(iR ⟨c⟩ m).bind _=_;rw[aIb k];rfl
def aMl {b c:List Int} {n:ByteArray} (h:Qm b n=some c):UF ⟨b⟩ [n]=some ⟨c⟩:=by
 rw[ads _ _ Am,Td,aIP h];rfl
def ar6 {b c d:List Int} {n m:ByteArray} (h:Qm b n=some c) (k:Qm c m=some d):UF ⟨b⟩ [n,m]=some ⟨d⟩:=by
 rw[ads _ _ Am,Td,aIP h];show(eM ⟨c⟩ m).bind _=_;rw[aIP k];rfl
def anG {b c:List Int} {n:Bool} (h:Xf b n=some c):vG ⟨b⟩ [n]=some ⟨c⟩:=by
 rw[ahQ _ _ Am,Td,afs h];rfl
def aiQ {b c d:List Int} {n m:List Int} (h:Vs b n=some c) (k:Vs c m=some d):jP ⟨b⟩ [n,m]=some ⟨d⟩:=by
 rw[akC _ _ Am,Td,aRd h];show(dN ⟨c⟩ m).bind _=_;rw[aRd k];rfl
def arI {e:AL} (j:GV e):ql e=some (yw e)∧zQ e=some (yw e)∧(yw e).length≤1000000:=by
 obtain⟨ac,bc,hc⟩:=aak j.content;obtain⟨a1,b1,h1⟩:=RJ (b:=[]) (k:=0) (Dc _) A8 e.Id;obtain⟨a2,b2,h2⟩:=UN h1 A8 2000 j.room A8;obtain⟨a3,b3,h3⟩:=UN h2 A8 2000 j.sender A8;obtain⟨a4,b4,h4⟩:=RJ h3 A8 e.Kind;obtain⟨a5,b5,h5⟩:=adh h4 A8 e.State;obtain⟨a6,b6,h6⟩:=UN h5 A8 2000 j.key A8;obtain⟨a7,b7,h7⟩:=RJ h6 A8 e.Time;obtain⟨a8,b8,h8⟩:=RJ h7 A8 e.Depth;obtain⟨a9,b9,h9⟩:=aOW h8 A8 (EZ j.prev A8);obtain⟨m,q,u⟩:=aOW h9 A8 (EZ j.auth A8);obtain⟨z,I,J⟩:=UN u A8 (s:=QC (dB e.Content)) 700000 (by rw[amY];exact hc) A8;obtain⟨L,M,O⟩:=RJ J A8 e.Hash;obtain⟨U,Y,Z⟩:=UN O A8 2000 j.server A8;obtain⟨a14,b14,h14⟩:=RJ Z A8 e.rP.Sum;refine⟨?_,?_,EZ h14 A8⟩
 ·unfold ql
  rw[show Ry aAz [e.Id]=_ from xX a1,AQ,ar6 a2 a3,AQ,xX a4,AQ,anG a5,AQ,aMl a6,AQ,ahJ a7 a8,AQ,aiQ a9 m,AQ,
   ac,AQ,aMl z,AQ,xX L,AQ,aMl U,AQ,xX a14,AQ]
  rfl
 unfold zQ;rw[b1,AQ,b2,AQ,b3,AQ,b4,AQ,b5,AQ,b6,AQ,b7,AQ,b8,AQ,b9,AQ,q,AQ,bc,AQ,I,AQ,M,AQ,Y,AQ,b14,AQ];rfl
def yE (l:List Int):Int:=Ah (l.foldl oG ((IntKind.u64.wrap 860922984064492325).tmod 4611686018427387904))
def acT {l:List Int} (hl:l.length≤1000000):tK l=some (yE l):=by
 unfold tK aIQ;rw[AQ];unfold aJB aOG
 rw[aAi _ _ _ _ (.inl rfl),aPX,Gi l A8 oG (fun _ _=>True) (fun s=>some (Ah s)) trivial (fun k s i h _=>⟨trivial,by
  simp only[aM2,dec_lt h,BA,Bf h,AQ,aAi _ _ _ _ (.inl rfl),aAi _ _ _ _ (.inr (.inr rfl)),afq]⟩) fun k s _=>by
  simp only[aM2,CZ,Ar]]
 rfl
def aOf {l:List Int} (hl:l.length≤1000000):aB5 l=some (yE l):=by
 unfold aB5;rw[show aNq=some 860922984064492325 from rfl,AQ];unfold adA acB
 rw[show Ya (IntKind.u64.wrap 860922984064492325) 4611686018427387904=some ((IntKind.u64.wrap 860922984064492325).tmod 4611686018427387904)from rfl,AQ,Gi l A8 oG (fun _ _=>True) (fun s=>some (Ah s)) trivial (fun k s i h _=>⟨trivial,by
  have e:Ya (IntKind.u64.wrap ((Dx .xor .u64 s (IntKind.u64.wrap l[i]))*1099511628211)) 4611686018427387904=some (oG s l[i]):=rfl
  simp only[aGu,dec_lt h,BA,Bf h,AQ,e]⟩) fun k s _=>by
  simp only[aGu,CZ,Ar]]
 rfl
def Wv (k:Int) (c:Bg):Bg:=
 if k=1 then c else if k=2 then{ EW with N:=c.N,Via:=c.Via }else if k=3 then{ EW with Levels:=c.Levels }else if k=4 then{ EW with N:=c.N,Allow:=c.Allow }else
 if k=5 then{ EW with N:=c.N }else if k=6 then{ EW with Allow:=c.Allow,gB:=c.gB }else if k=14 then{ EW with Target:=c.Target }else EW
def aRF {R:Type} (a b:Int) (x y:R):(bif a==b then x else y)=if a=b then x else y:=by
 by_cases h:a=b
 ·subst h;simp
 have :(a==b)=false:=JU
 rw[this,CU h];rfl
def aPr {R:Type} (p:Prop) [Decidable p] (x y:R):(if p then some x else some y)=some (if p then x else y):=by split<;>rfl
def aNf (k:Int) (c:Bg):aAb k c=some (Wv k c):=by
 unfold aAb Wv;simp only[aRF,aPr]
def texts_eq {l:List ByteArray} (h:l.length≤100):Qv l=some l:=by
 unfold Qv;rw[Ll A8 aC4];rfl
def aOD {l:Ba} (m:l.Users.length≤100) (j:l.Kinds.length≤100):YW l=some l:=by
 unfold YW;rw[Ll A8 aC4,AQ,Ll A8 (by rw[Hd];exact EZ j A8)];rfl
def aAx (k:Int):Int:=if k=2 then 18 else if k=3 then 128 else if k=4 then 34 else if k=5 then 2 else if k=6 then 96 else if k=14 then 4 else 0
def alF (k:Int):bT k=some (aAx k):=by
 by_cases m:k=2
 ·subst m;rfl
 by_cases q:k=3
 ·subst q;rfl
 by_cases u:k=4
 ·subst u;rfl
 by_cases z:k=5
 ·subst z;rfl
 by_cases j:k=6
 ·subst j;rfl
 unfold bT iD aAx;simp only[aRF,m,q,u,z,j,JC,show(k==6)=false from by simpa using j,Ar,aPr]
def ae0 (k:Int) {c:Bg} (j:PY c):nM k c=some (Wv k c):=by
 by_cases q:k=1
 ·subst q;show(Qv c.Allow).bind (fun M=>(Qv c.gB).bind fun O=>(YW c.Levels).bind fun U=>some ({ { { c with Allow:=M }with gB:=O }with Levels:=U }))=_;rw[texts_eq j.allow,AQ,texts_eq j.deny,AQ,aOD j.users j.kinds];rfl
 unfold nM;rw[show(k==1)=false from by simpa using q,Ar,alF,AQ];by_cases u:k=2
 ·subst u;rfl
 by_cases z:k=3
 ·subst z;show(YW c.Levels).bind (fun x=>some { EW with Levels:=x })=_;rw[aOD j.users j.kinds];rfl
 by_cases I:k=4
 ·subst I;show(Qv c.Allow).bind (fun x=>some { EW with N:=c.N,Allow:=x })=_;rw[texts_eq j.allow];rfl
 by_cases J:k=5
 ·subst J;rfl
 by_cases L:k=6
 ·subst L;show(Qv c.Allow).bind (fun x=>(Qv c.gB).bind fun y=>some { EW with Allow:=x,gB:=y })=_;rw[texts_eq j.allow,AQ,texts_eq j.deny];rfl
 by_cases m:k=14
 ·subst m;rfl
 have Y:aAx k=0:=by unfold aAx;simp only[u,z,I,J,L,m,JC]
 have Z:Wv k c=EW:=by unfold Wv;simp only[q,u,z,I,J,L,m,JC]
 rw[Y,Z];rfl
def PY.strip {c:Bg} (h:PY c) (k:Int):PY (Wv k c):=by
 have j:(0:Nat)≤2000:=A8
 unfold Wv
 repeat' split
 all_goals first|exact h|exact⟨by simp[EW,Jq,h.allow],by simp[EW,Jq,h.deny],by simp[EW,Jq,h.users],by simp[EW,Jq,h.kinds],by first|exact h.text|exact j,by first|exact h.via|exact j,by first|exact h.allows|simp[EW],by first|exact h.denies|simp[EW],by first|exact h.names|simp[EW,Jq]⟩
def qC (e:AL):AL:={ e with Content:=Wv e.Kind e.Content }
def RV (e:AL):Prop:=GV { e with rP:=YZ }
def RV.content {e:AL} (h:RV e):PY e.Content:=GV.content (e:={ e with rP:=YZ }) h
def GV.x {e:AL} (h:GV e):RV e:=⟨h.prev,h.auth,h.allow,h.deny,h.users,h.kinds,h.room,h.sender,h.key,h.text,h.via,EK _,h.allows,h.denies,h.names⟩
def aOj {e:AL} (j:RV e):oM e=some (qC e)∧aL0 e=some (qC e):=by
 unfold oM aL0;rw[ae0 _ j.content,aNf];exact⟨rfl,rfl⟩
def jy (e:AL):Int:=yE (dB e.Content)
def yg (e:AL):AL:={ { qC e with Id:=0 }with rP:=YZ }
def aal (e:AL):Int:=yE (yw (yg e))
def RV.bare {e:AL} (h:RV e):GV (yg e):=by
 have j:=h.content.strip e.Kind;exact⟨h.prev,h.auth,j.allow,j.deny,j.users,j.kinds,h.room,h.sender,h.key,j.text,j.via,by show(0:Nat)≤2000;omega,j.allows,j.denies,j.names⟩
def aQ4 {e:AL} (j:RV e):kU e=some (jy e)∧aFh e=some (jy e):=by
 obtain⟨a,b,h⟩:=aak j.content;unfold kU aFh;rw[a,b,AQ,AQ,acT A8,aOf A8];exact⟨rfl,rfl⟩
def aSa {e:AL} (j:RV e):vH e=some (aal e)∧aHx e=some (aal e):=by
 obtain⟨a,b⟩:=aOj j;obtain⟨c,d,h⟩:=arI j.bare;unfold vH aHx;rw[a,b,AQ,AQ];show(ql (yg e)).bind _=_∧(zQ (yg e)).bind _=_;rw[c,d,AQ,AQ,acT A8,aOf A8];exact⟨rfl,rfl⟩
def Ph (s:ByteArray):Int:=bif G5 s 64 then 0 else 3
def U9 (s:ByteArray):Int:=bif G5 s 33 then 0 else 3
def XJ {s:ByteArray} (hs:s.size≤9223372036854775807):ZH s=some (Ph s)∧ZW s=some (Ph s):=by
 unfold ZH vI ZW Ph;rw[aGc hs (marks:=oD) (by rw[show BO oD=[64]from rfl];intro m j;simp only[EO,Ef,iM]at j;omega),aB7 hs BK,show((BO oD).any fun m=>G5 s m)=(G5 s 64||false)from rfl];cases G5 s 64<;>exact⟨rfl,rfl⟩
def kK {s:ByteArray} (hs:s.size≤9223372036854775807):mQ s=some (U9 s)∧lg s=some (U9 s):=by
 unfold mQ vI lg U9;rw[aGc hs (marks:=nO) (by rw[show BO nO=[33]from rfl];intro m j;simp only[EO,Ef,iM]at j;omega),aB7 hs BK,show((BO nO).any fun m=>G5 s m)=(G5 s 33||false)from rfl];cases G5 s 33<;>exact⟨rfl,rfl⟩
def alq {l:List Int} (h:VU l=true):(58:Int)∉l:=by
 intro j;unfold VU Q7 at h;simp only[CV,E5]at h;have :=h.2 58 j;exact absurd this BK
def aj2 (s:ByteArray) (hs:s.size≤2000):(splitB s (Iu s)).1.size≤2000∧(58:Int)∉BO (splitB s (Iu s)).1∧(splitB s (Iu s)).2.1.size≤2000:=by
 have m:BU.size≤2000:=BK
 cases h:Iu s with
 |false=>exact⟨m,by show(58:Int)∉BO BU;decide,m⟩
 |true=>
  have j:RY s=true:=by
   unfold Iu G5 at h;cases j:RY s with
   |true=>rfl
   |false=>rw[j]at h;simp at h
  refine⟨EZ (extract_size _ _ _) hs,alq ?_,EZ (extract_size _ _ _) hs⟩;unfold RY at j;simp only[CV]at j;exact j.1.2
def any_false {α:Type} (l:List α):(l.any fun _=>false)=false:=Am
def aFg {α:Type} {body:(Int→Option Bool)→Int→Option Bool} (l:List α) (hl:l.length≤1000) (rest:Option Bool) (j:∀k (i:Nat) (h:i<l.length),body k (i:Int)=k (Ah ((i:Int)+1))) (m:∀k,body k (l.length:Int)=rest):bn body Ag 0=rest:=by
 rw[GK l (aI5 A8) (fun _=>false) false rest (fun k i h=>by rw[j k i h];rfl) m,any_false];rfl
def ane {l:List ByteArray} (h:l.length≤1000):Xa l l=some true:=by
 unfold Xa aLe;rw[show((l.length:Int) != (l.length:Int))=false from by simp,Ar];exact aFg l h _ (fun k i h=>by simp only[tV,dec_lt h,BA,Bf h,AQ,Rn,Dv,Ar]) (fun k=>by simp only[tV,CZ,Ar])
structure JE (c:Bg):Prop where
 allow:c.Allow.length≤9223372036854775807
 deny:c.gB.length≤9223372036854775807
 users:c.Levels.Users.length≤9223372036854775807
 kinds:c.Levels.Kinds.length≤9223372036854775807
 text:c.Text.size≤9223372036854775807
 via:c.Via.size≤9223372036854775807
 allows:∀x∈c.Allow,x.size≤9223372036854775807
 denies:∀x∈c.gB,x.size≤9223372036854775807
 names:∀x∈c.Levels.Users,x.User.size≤9223372036854775807
structure Ui (e:AL):Prop where
 prev:e.bF.length≤9223372036854775807
 auth:e.bf.length≤9223372036854775807
 room:e.Room.size≤9223372036854775807
 sender:e.aN.size≤9223372036854775807
 key:e.Key.size≤9223372036854775807
 server:e.rP.Server.size≤9223372036854775807
 content:JE e.Content
def PY.wide {c:Bg} (h:PY c):JE c:=by
 obtain⟨z,I,J,L,M,O,m,q,u⟩:=h;exact⟨A8,A8,A8,A8,A8,A8,fun x j=>by have :=m x j;omega,fun x j=>by have :=q x j;omega,fun x j=>by have :=u x j;omega⟩
def GV.wide {e:AL} (h:GV e):Ui e:=by
 have j:=h.prev;have m:=h.auth;have q:=h.room;have u:=h.sender;have z:=h.key;have I:=h.server;exact⟨A8,A8,A8,A8,A8,A8,h.content.wide⟩
def vU (k:Int):tH k=some (decide (k≥1)&&decide (k≤14))∧uH k=some (decide (k≥1)&&decide (k≤14)):=by
 unfold tH uH;cases decide (k≥1)<;>cases decide (k≤14)<;>exact⟨rfl,rfl⟩
def RD (n:Int):Bool:=decide (n< -1000)||decide (n>1000)
def aAD (n:Int):dM n=some (RD n)∧Sj n=some (RD n):=by
 unfold dM Sj RD;cases decide (n< -1000)<;>cases decide (n>1000)<;>exact⟨rfl,rfl⟩
def Nu (c:Int):Bool:=decide (c<33)||decide (c>126)
def aDV (s:ByteArray):(s.toList==BU.toList)=((s.size:Int)==0):=by
 rw[HY];by_cases h:s=BU
 ·subst h;rfl
 have :¬s.size=0:=fun j=>h (bytes_inj (by
  have m:BO s=[]:=GN (by rw[H8];exact j)
  rw[m];rfl))
 rw[Hr h];symm;rw[ZK];omega
def aEM (s:ByteArray):Int:=if s.size=0 then 9 else if s.size>64 then 7 else bif (BO s).any Nu then 3 else 0
def aHL {s:ByteArray} (hs:s.size≤9223372036854775807):ng s=some (aEM s)∧rY s=some (aEM s):=by
 have q:aMn s 0=some (bif (BO s).any Nu then 3 else 0):=by
  unfold aMn;rw[GK (BO s) Xt Nu 3 (some 0) (fun k i h=>?_) (fun k=>?_),Iq]
  ·have h':i<s.size:=VL
   simp only[aNJ,dec_lt h',BA,TV h,AQ,Nu];cases decide ((BO s)[i]<33)<;>cases decide ((BO s)[i]>126)<;>rfl
  simp only[aNJ,H8,CZ,Ar]
 have u:aIq s 0=some (bif (BO s).any Nu then 3 else 0):=by
  unfold aIq;rw[GK (BO s) Xt Nu 3 (some 0) (fun k i h=>?_) (fun k=>?_),Iq]
  ·have h':i<s.size:=VL
   simp only[aFM,dec_lt h',BA,TV h,AQ,Nu];cases decide ((BO s)[i]<33)<;>cases decide ((BO s)[i]>126)<;>rfl
  simp only[aFM,H8,CZ,Ar]
 unfold ng rY aEM;rw[aDV,q,u];by_cases j:s.size=0
 ·simp[j]
 have :((s.size:Int)==0)=false:=by rw[ZK];omega
 rw[this,CU j];by_cases m:s.size>64
 ·have :decide ((s.size:Int)>64)=true:=DK
  rw[this,CJ m];exact⟨rfl,rfl⟩
 have :decide ((s.size:Int)>64)=false:=DK
 rw[this,CU m];exact⟨rfl,rfl⟩
def qA (s:ByteArray):Bool:=decide ((s.size:Int)≥1)&&decide ((s.size:Int)≤32)&& !(BO s).any Nu
def apH {s:ByteArray} (hs:s.size≤9223372036854775807):EvC s=some (qA s):=by
 unfold EvC aQm;rw[GK (BO s) Xt Nu false (some (decide ((s.size:Int)≥1)&&decide ((s.size:Int)≤32))) (fun k i h=>?_) (fun k=>?_)]
 ·unfold qA;cases(BO s).any Nu<;>cases decide ((s.size:Int)≥1)<;>cases decide ((s.size:Int)≤32)<;>rfl
 ·have h':i<s.size:=VL
  simp only[aFJ,dec_lt h',BA,TV h,AQ,Nu];cases decide ((BO s)[i]<33)<;>cases decide ((BO s)[i]>126)<;>rfl
 simp only[aFJ,H8,CZ,Ar];cases decide ((s.size:Int)≥1)<;>cases decide ((s.size:Int)≤32)<;>rfl
def U7 (k:Int) (s:ByteArray):Bool:=if k=2 then Ph s==0 else if k=9 then qA s else true
def aQP {k:Int} {s:ByteArray} (hs:s.size≤9223372036854775807):aMp k s=some (U7 k s):=by
 have q:aJL s 0=some (bif (BO s).any Nu then false else true):=by
  unfold aJL;rw[GK (BO s) Xt Nu false (some true) (fun k i h=>?_) (fun k=>?_),Iq]
  ·have h':i<s.size:=VL
   simp only[aL6,dec_lt h',BA,TV h,AQ,Nu];cases decide ((BO s)[i]<33)<;>cases decide ((BO s)[i]>126)<;>rfl
  simp only[aL6,H8,CZ,Ar]
 unfold aMp U7;rw[(XJ hs).2,q];by_cases j:k=2
 ·subst j;rfl
 rw[show(k==2)=false from by simpa using j,CU j,Ar];by_cases m:k=9
 ·subst m;unfold qA;have u:decide ((s.size:Int)≥1)= !decide ((s.size:Int)<1):=aJh
  have z:decide ((s.size:Int)≤32)= !decide ((s.size:Int)>32):=aFt
  rw[u,z];cases decide ((s.size:Int)<1)<;>cases decide ((s.size:Int)>32)<;>cases(BO s).any Nu<;>rfl
 rw[show(k != 9)=true from by simpa using m,CU m];rfl
def ag8 {e:AL} (j:Ui e):aA8 e=some (U9 e.Room==0&&Ph e.aN==0&&U7 e.Kind e.Key):=by
 have q:=j.room;have u:=j.sender;have z:=j.key;unfold aA8 U7;rw[(kK A8).1,(XJ (s:=e.aN) A8).1,(XJ (s:=e.Key) A8).1,apH A8];simp only[AQ,bne];cases U9 e.Room==0 with
 |false=>rfl
 |true=>
  cases Ph e.aN==0 with
  |false=>rfl
  |true=>
   by_cases k2:e.Kind=2
   ·rw[k2];rfl
   by_cases m:e.Kind=9
   ·rw[m];rfl
   rw[show(e.Kind==2)=false from by simpa using k2,show(e.Kind==9)=false from by simpa using m,CU k2,CU m];rfl
def Bj {R:Type} (x y:Option R):Prop:=∃r,x=some r∧y=some r
section
variable {A R : Type}
def Bj.ret (r:R):Bj (some r) (some r):=⟨r,rfl,rfl⟩
def Bj.bind {a b:Option A} {f g:A→Option R} (h:Bj a b) (k:∀x,Bj (f x) (g x)):Bj (a.bind f) (b.bind g):=by
 obtain⟨x,rfl,rfl⟩:=h;exact k x
def Bj.bif {c:Bool} {x y j m:Option R} (q:c=true→Bj x j) (u:c=false→Bj y m):Bj (bif c then x else y) (bif c then j else m):=by
 cases c with
 |true=>exact q rfl
 |false=>exact u rfl
def Bj.of {x y:Option R} {r:R} (j:x=some r) (m:y=some r):Bj x y:=⟨r,j,m⟩
def Bj.loop {f g:(Int→Option R)→Int→Option R} (n:Nat) (u:n≤9223372036854775807) (hs:∀k k' (i:Nat),i<n→Bj (k ((i+1:Nat):Int)) (k' ((i+1:Nat):Int))→Bj (f k (i:Int)) (g k' (i:Int))) (j:∀k k',Bj (f k (n:Int)) (g k' (n:Int))):Bj (bn f Ag 0) (bn g Ag 0):=by
 have z:Ag=9223372036854775808:=rfl
 have key:∀m (i:Nat),i+m=n→∀a,m<a→Bj (bn f a (i:Int)) (bn g a (i:Int)):=by
  intro m
  induction m with
  |zero=>
   intro i hi a ha;obtain⟨a,rfl⟩:∃a',a=a'+1:=⟨a-1,A8⟩
   have :i=n:=A8
   subst this;exact j _ _
  |succ m q=>
   intro i hi a ha;obtain⟨a,rfl⟩:∃a',a=a'+1:=⟨a-1,A8⟩
   exact hs _ _ i A8 (q (i+1) A8 a A8)
 exact key n 0 A8 Ag A8
end
def jZ {i:Nat} (h:i≤9223372036854775806):Ah ((i:Int)+1)=((i+1:Nat):Int):=wrap_succ i A8
def rZ {α:Type} {l:List α} {i:Nat} (h:i<l.length) (hl:l.length≤9223372036854775807) (j:decide ((i:Int)>0)=true):Af l (Ah ((i:Int)-1))=some (l[i-1]' A8):=by
 have j:0<i:=MK
 rw[Ob A8 A8,show(i:Int)-1=((i-1:Nat):Int) by omega];exact Bf A8
def aPh {l:List Int} (hl:l.length≤9223372036854775807):Bj (lG l) (aV l):=by
 unfold lG abS aV aFI;refine Bj.loop l.length hl (fun k k' i h j=>?_) (fun k k'=>?_)
 ·simp only[aFK,aAO,iE,dec_lt h,BA,Bf h,AQ,jZ (show i≤9223372036854775806 by omega)];cases decide (l[i]<0)with
  |true=>exact .ret _
  |false=>
   simp only[Ar];cases m:decide ((i:Int)>0)with
   |true=>
    simp only[BA,rZ h hl m,AQ,ge_iff_le];cases decide (l[i]≤l[i-1])with
    |true=>exact .ret _
    |false=>exact j
   |false=>exact j
 simp only[aFK,aAO,CZ,Ar];exact .ret _
def aRo {l:List ByteArray} (hl:l.length≤9223372036854775807) (hs:∀s∈l,s.size≤9223372036854775807):Bj (Vk l) (SK l):=by
 unfold Vk SK;refine Bj.bif (fun _=>.ret _) fun _=>?_;unfold aem aK5;refine Bj.loop l.length hl (fun k k' i h j=>?_) (fun k k'=>?_)
 ·obtain⟨m,q⟩:=aHL (s:=l[i]) (by have :=hs _ (E8 h);omega);simp only[aFA,uI,dec_lt h,BA,Bf h,AQ,m,q,jZ (show i≤9223372036854775806 by omega)];exact Bj.bif (fun _=>.ret _) fun _=>j
 simp only[aFA,uI,CZ,Ar];exact .ret _
def apW {c:Bg} (j:JE c):Bj (Uh 4 c) (eu c):=by
 have hl:=j.allow;unfold Uh eu;rw[show((4:Int)==6)=false from rfl,Ar];refine Bj.bind (Bj.bif (fun _=>.ret _) fun _=>.ret _) fun x=>Bj.bif (fun _=>.ret _) fun _=>Bj.bif (fun _=>.ret _) fun _=>?_;unfold aaS adT;refine Bj.loop c.Allow.length A8 (fun k k' i h m=>?_) (fun k k'=>?_)
 ·obtain⟨q,u⟩:=kK (s:=c.Allow[i]) (by have :=j.allows _ (E8 h);omega);simp only[aI4,aCM,aAA,dec_lt h,BA,Bf h,AQ,q,u,jZ (show i≤9223372036854775806 by omega)];refine Bj.bif (fun _=>.ret _) fun _=>?_;cases z:decide ((i:Int)>0)with
  |true=>
   simp only[BA,rZ h (show c.Allow.length≤9223372036854775807 by omega) z,AQ];exact Bj.bif (fun _=>.ret _) fun _=>m
  |false=>exact m
 simp only[aI4,aCM,CZ,Ar];exact .ret _
def ao7 {l:List H7} (hl:l.length≤9223372036854775807) (hs:∀u∈l,u.User.size≤9223372036854775807):Bj (aAv l) (ZL l):=by
 unfold aAv ZL;refine Bj.bif (fun _=>.ret _) fun _=>?_;unfold adU aIF;refine Bj.loop l.length hl (fun k k' i h j=>?_) (fun k k'=>?_)
 ·obtain⟨m,q⟩:=XJ (s:=l[i].User) (by have :=hs _ (E8 h);omega);obtain⟨z,I⟩:=aAD l[i].N;simp only[aHD,o7,aDO,jh,dec_lt h,BA,Bf h,AQ,m,q,z,I,jZ (show i≤9223372036854775806 by omega)];refine Bj.bif (fun _=>.ret _) fun _=>?_;cases J:decide ((i:Int)>0)with
  |true=>
   simp only[BA,rZ h hl J,AQ];exact Bj.bif (fun _=>.ret _) fun _=>Bj.bif (fun _=>.ret _) fun _=>j
  |false=>
   simp only[Ar];exact Bj.bif (fun _=>.ret _) fun _=>j
 simp only[aHD,o7,CZ,Ar];exact .ret _
def ahI {l:List IJ} (hl:l.length≤9223372036854775807):Bj (aA3 l) (YC l):=by
 unfold aA3 YC;refine Bj.bif (fun _=>.ret _) fun _=>?_;unfold aQ2 aKS;refine Bj.loop l.length hl (fun k k' i h j=>?_) (fun k k'=>?_)
 ·obtain⟨m,q⟩:=vU l[i].Kind;obtain⟨u,z⟩:=aAD l[i].N;simp only[aGM,aBm,aD5,aM7,dec_lt h,BA,Bf h,AQ,m,q,u,z,jZ (show i≤9223372036854775806 by omega)];refine Bj.bif (fun _=>.ret _) fun _=>?_;cases I:decide ((i:Int)>0)with
  |true=>
   simp only[BA,rZ h hl I,AQ];exact Bj.bif (fun _=>.ret _) fun _=>Bj.bif (fun _=>.ret _) fun _=>j
  |false=>
   simp only[Ar];exact Bj.bif (fun _=>.ret _) fun _=>j
 simp only[aGM,aBm,CZ,Ar];exact .ret _
def aoG {l:Ba} (z:l.Users.length≤9223372036854775807) (I:l.Kinds.length≤9223372036854775807) (j:∀u∈l.Users,u.User.size≤9223372036854775807):Bj (Y9 l) (Y4 l):=by
 have m:aFE l 0=some (bif (IX l).any RD then 2 else 0):=by
  unfold aFE;rw[GK (IX l) (by have :Ag=9223372036854775808:=rfl;simp[IX,this]) RD 2 (some 0) (fun k i h=>?_) (fun k=>rfl),Iq];have J:i<7:=h;have q:Af ([l.User,l.Message,l.State,l.fH,l.jI,l.mW,l.eU]:List Int) (i:Int)=some ((IX l)[i]'(h)):=Bf h;simp only[abG,show decide ((i:Int)<7)=true from by simp;omega,BA,q,AQ,(aAD _).1]
 unfold Y9 Y4;refine Bj.bind (ao7 A8 j) fun x=>Bj.bif (fun _=>.ret _) fun _=>Bj.bind (ahI A8) fun y=>Bj.bif (fun _=>.ret _) fun _=>?_;rw[m];simp only[(aAD _).2,AQ,IX,Y7,List.any_nil];cases RD l.User<;>cases RD l.Message<;>cases RD l.State<;>cases RD l.fH<;>cases RD l.jI<;>cases RD l.mW<;>cases RD l.eU<;>exact .ret _
def SC {α:Type} {l:List α} (h:((l.length:Int)==0)=true):l=[]:=GN aFT
def MC (l:Ba):Bool:=((l.Users.length:Int)==0)&&((l.Kinds.length:Int)==0)&&(l.User==0)&&(l.Message==0)&&(l.State==0)&&(l.fH==0)&&(l.jI==0)&&(l.mW==0)&&(l.eU==0)
def bare_eq (l:Ba):aBW l=some (MC l):=by
 unfold aBW MC;simp only[Iq,AQ,Ri]
def acO (l:Ba):dS l Jq=some (MC l):=by
 unfold dS MC;show(bif ((l.Users.length:Int) != 0)then some true else some ((l.Kinds.length:Int) != 0)).bind _=_;simp only[bne];cases q:((l.Users.length:Int)==0)with
 |false=>rfl
 |true=>
  cases u:((l.Kinds.length:Int)==0)with
  |false=>rfl
  |true=>
   have j:=SC q;have m:=SC u
   have z:iT l Jq 0=some ((l.User==0)&&(l.Message==0)&&(l.State==0)&&(l.fH==0)&&(l.jI==0)&&(l.mW==0)&&(l.eU==0)):=by
    unfold iT;refine aFg l.Kinds (by rw[m];simp) _ (fun k i h=>by rw[m]at h;simp at h) (fun k=>?_);simp only[aET,CZ,Ar,Iq,AQ,Ri];rfl
   have I:xZ l Jq 0=some ((l.User==0)&&(l.Message==0)&&(l.State==0)&&(l.fH==0)&&(l.jI==0)&&(l.mW==0)&&(l.eU==0)):=by
    unfold xZ;refine aFg l.Users (by rw[j];simp) _ (fun k i h=>by rw[j]at h;simp at h) (fun k=>?_);simp only[Rep,CZ,Ar];exact z
   simp only[Dv,Ar,AQ,I,FT]
def atK (l:Ba):aMb l=some (MC l):=by
 unfold aMb;rw[acO];rfl
def ahG (l:List ByteArray):Xa l []=some ((l.length:Int)==0):=by
 cases h:((l.length:Int)==0)with
 |true=>rw[SC h];exact ane (l:=[]) Am
 |false=>
  unfold Xa;show(bif ((l.length:Int) != 0)then some false else _)=_;simp only[bne,h,I4,BA]
def Zy (a0 j m q u z I J:Bool):Bool:=a0&&j&&m&&q&&u&&z&&I&&J
def aeV (c:Bg):Yo c EW=some (Zy (c.Text.toList==BU.toList) (c.N==0) (c.Target==0) (!c.Thread) (c.Via.toList==BU.toList) ((c.Allow.length:Int)==0) ((c.gB.length:Int)==0) (MC c.Levels)):=by
 unfold Yo Zy;show(bif c.Text.toList==BU.toList then some (c.N==0)else some false).bind _=_;simp only[show EW.Allow=[]from rfl,show EW.gB=[]from rfl,show EW.Levels=Jq from rfl,show EW.Target=0 from rfl,show EW.Thread=false from rfl,show EW.Via=BU from rfl,ahG,acO,Iq,AQ,Ri];congr 1;cases c.Thread<;>simp
def aCe (a0 j m q u z I J:Bool):Int:=
 let v:=bif !a0 then Dx .or .i64 0 1 else 0
 let v:=bif !j then Dx .or .i64 v 2 else v
 let v:=bif !m then Dx .or .i64 v 4 else v
 let v:=bif !q then Dx .or .i64 v 8 else v
 let v:=bif !u then Dx .or .i64 v 16 else v
 let v:=bif !z then Dx .or .i64 v 32 else v
 let v:=bif !I then Dx .or .i64 v 64 else v
 bif !J then Dx .or .i64 v 128 else v
def pos_eq {α:Type} (l:List α):decide ((l.length:Int)>0)= !((l.length:Int)==0):=by
 cases h:((l.length:Int)==0)with
 |true=>have :=eq_of_beq h;rw[Dv,XW];omega
 |false=>have :=ne_of_beq_false h;rw[I4,Fb];omega
def alj (c:Bg):kL c=some (aCe (c.Text.toList==BU.toList) (c.N==0) (c.Target==0) (!c.Thread) (c.Via.toList==BU.toList) ((c.Allow.length:Int)==0) ((c.gB.length:Int)==0) (MC c.Levels)):=by
 unfold kL aAn aC8 vX aAY aCv yV aCr aCk aCe;rw[bare_eq,pos_eq,pos_eq];simp only[AQ,bne,pW];generalize(c.Text.toList==BU.toList)=j;generalize(c.N==0)=m;generalize(c.Target==0)=q;generalize c.Thread=u;generalize(c.Via.toList==BU.toList)=z;generalize((c.Allow.length:Int)==0)=I;generalize((c.gB.length:Int)==0)=J;generalize MC c.Levels=L;cases j<;>cases m<;>cases q<;>cases u<;>cases z<;>cases I<;>cases J<;>cases L<;>rfl
def aoP :∀a0 j m q u z I J:Bool,(aCe a0 j m q u z I J==0)=Zy a0 j m q u z I J:=L6
def Jw (j m q u z I J L a0 M O U Y Z a6 a7:Bool):Bool:=(a0||j)&&(M||m)&&(O||q)&&(U||u)&&(Y||z)&&(Z||I)&&(a6||J)&&(a7||L)
def aQC {K:Int} {c:Bg} {j m q u z I J L:Bool} (M:BZ K J8=some j) (O:BZ K JR=some m) (U:BZ K Iy=some q) (Y:BZ K Kt=some u) (Z:BZ K Ky=some z) (h5:BZ K KY=some I) (h6:BZ K LC=some J) (h7:BZ K LP=some L):gW K c=some (Jw j m q u z I J L (c.Text.toList==BU.toList) (c.N==0) (c.Target==0) (!c.Thread) (c.Via.toList==BU.toList) ((c.Allow.length:Int)==0) ((c.gB.length:Int)==0) (MC c.Levels)):=by
 unfold gW Jw;simp only[M,O,U,Y,Z,h5,h6,h7,atK,Iq,AQ,Zd,Ri]
def G7 (x r:Option Int):Option Int:=x.bind fun v=>bif v != 0 then some v else r
def Dn {x r:Option Int} (h:x=some 0):G7 x r=r:=by rw[h];rfl
def LV {x y r s:Option Int} (h:Bj x y) (k:Bj r s):Bj (G7 x r) (G7 y s):=Bj.bind h fun _=>Bj.bif (fun _=>.ret _) fun _=>k
def aEO (x:Option Int):G7 x (some 0)=x:=by
 cases x with
 |none=>rfl
 |some v=>
  show(bif v != 0 then some v else some 0)=some v;by_cases h:v=0
  ·subst h;rfl
  rw[show(v != 0)=true from by simpa using h];rfl
def aD7 {A:Type} (x:Option A):(x.bind fun v=>some v)=x:=by cases x<;>rfl
def MB (K:Int) (c:Bg):Option Int:=G7 (YJ K c) (G7 (MX K c.N) (G7 (X5 K c) (G7 (YR c) (bif K==4 then eu c else G7 (SK c.Allow) (G7 (SK c.gB) (Y4 c.Levels))))))
def frame {K M kp:Int} {br:Bool} {c:Bg} {m q u z I J L O:Bool} (hU:ah K=some M) (hk:(decide (K≥1)&&decide (K≤14))=true) (U:bT K=some kp) (hb:aKP K=some br) (h0:BZ K J8=some m) (h1:BZ K JR=some q) (h2:BZ K Iy=some u) (h3:BZ K Kt=some z) (h4:BZ K Ky=some I) (h5:BZ K KY=some J) (h6:BZ K LC=some L) (h7:BZ K LP=some O)
 (hM:∀a0 a1 a2 a3 a4 a5 a6 a7:Bool,(Dx .andNot .i64 (aCe a0 a1 a2 a3 a4 a5 a6 a7) M != 0)= !Jw m q u z I J L O a0 a1 a2 a3 a4 a5 a6 a7) (Y:(br=true→kp=0)) (hA:kp=0→br=false→KI M K 0 c=some 0)
 (j:Jw m q u z I J L O (c.Text.toList==BU.toList) (c.N==0) (c.Target==0) (!c.Thread) (c.Via.toList==BU.toList) ((c.Allow.length:Int)==0) ((c.gB.length:Int)==0) (MC c.Levels)=true→Bj (KI M K 0 c) (MB K c)):Bj (Ji K c) (Ig K c):=by
 have ht:Ig K c=(uH K).bind fun x1=>(bif (!x1)then some true else(gW K c).bind fun x4=>some (!x4)).bind fun x2=>(bif x2 then some 1 else(aKP K).bind fun x6=>(bif x6 then(Yo c EW).bind fun x9=>some x9 else some false).bind fun x7=>(bif x7 then some 0 else MB K c)):=by
  unfold Ig MB G7;simp only[aD7]
 rw[ht];unfold Ji;obtain⟨k1,k2⟩:=vU K;rw[hk]at k1 k2;rw[hU,k1,k2,alj,U,hb,aQC h0 h1 h2 h3 h4 h5 h6 h7,aeV];simp only[AQ,Dv,Ar,hM,aoP];cases ho:Jw m q u z I J L O (c.Text.toList==BU.toList) (c.N==0) (c.Target==0) (!c.Thread) (c.Via.toList==BU.toList) ((c.Allow.length:Int)==0) ((c.gB.length:Int)==0) (MC c.Levels)with
 |false=>exact .ret _
 |true=>
  simp only[Dv,Ar];have j:=j ho;cases ha:Zy (c.Text.toList==BU.toList) (c.N==0) (c.Target==0) (!c.Thread) (c.Via.toList==BU.toList) ((c.Allow.length:Int)==0) ((c.gB.length:Int)==0) (MC c.Levels)with
  |false=>
   simp only[Ar,AQ];cases br<;>exact j
  |true=>
   simp only[BA,AQ];cases Z:kp==0 with
   |false=>
    cases br with
    |false=>exact j
    |true=>rw[Y rfl]at Z;cases Z
   |true=>
    cases br with
    |true=>exact .ret _
    |false=>
     have e:=hA (eq_of_beq Z) rfl;rw[e]at j;exact j
def QL (M b:Int) (x r:Option Int):Option Int:=bif Dx .and .i64 M b==0 then r else G7 x r
def Yn {S B R:Type} (body:(S→B→Option R)→S→B→Option R) (n:Nat) (a:S) (b:B):aP body (n+1) a b=body (aP body n) a b:=rfl
def ar4 (M K:Int) (c:Bg):KI M K 0 c=QL M 1 (PD K c) (QL M 2 (NS K c) (QL M 4 (Qg K c) (QL M 8 (YU K c) (QL M 16 (Y5 K c) (QL M 32 (Uh K c)
 (bif Dx .and .i64 M 64 != 0 then Vk c.gB else bif Dx .and .i64 M 128 != 0 then Y9 c.Levels else some 0)))))):=by
 have j:Ag=9223372036854775801+1+1+1+1+1+1+1:=rfl;have m:∀k,Xn M K k 0 c=QL M 1 (PD K c) (k 1 c):=fun k=>rfl;have q:∀k,Xn M K k 1 c=QL M 2 (NS K c) (k 2 c):=fun k=>rfl;have u:∀k,Xn M K k 2 c=QL M 4 (Qg K c) (k 3 c):=fun k=>rfl;have z:∀k,Xn M K k 3 c=QL M 8 (YU K c) (k 4 c):=fun k=>rfl;have I:∀k,Xn M K k 4 c=QL M 16 (Y5 K c) (k 5 c):=fun k=>rfl;have J:∀k,Xn M K k 5 c=QL M 32 (Uh K c) (k 6 c):=fun k=>rfl;have L:∀k,Xn M K k 6 c=(bif Dx .and .i64 M 64 != 0 then(Vk c.gB).bind fun x=>some x else bif Dx .and .i64 M 128 != 0 then(Y9 c.Levels).bind fun x=>some x else some 0):=fun k=>rfl;unfold KI;rw[j,Yn,m,Yn,q,Yn,u,Yn,z,Yn,I,Yn,J,Yn,L,aD7,aD7]
section
variable {c : Bg} {K : Int}
def text0 (h:(c.Text.toList==BU.toList)=true) (j:K≠12):YJ K c=some 0:=by
 have m:(c.Text.size:Int)=0:=by rw[aDV]at h;exact eq_of_beq h
 unfold YJ;rw[h,m,show(K==12)=false from by simpa using j];cases K==9<;>rfl
def TR (h:BZ K Iy=some false) (j:(!c.Thread)=true):X5 K c=some 0:=by
 unfold X5;rw[h,show c.Thread=false from by simpa using j];rfl
def Oz (h:(c.Via.toList==BU.toList)=true):YR c=some 0:=by unfold YR;rw[h];rfl
def Io {l:List ByteArray} (h:((l.length:Int)==0)=true):SK l=some 0:=by
 rw[SC h];unfold SK aK5;show bn (uI []) Ag 0=some 0;rw[GK ([]:List ByteArray) BK (fun _=>false) 0 (some 0) (fun k i h=>Gv) (fun k=>rfl)];rfl
def Qu {l:Ba} (h:MC l=true):Y4 l=some 0:=by
 unfold MC at h;simp only[CV]at h;obtain⟨⟨⟨⟨⟨⟨⟨⟨j,m⟩,q⟩,u⟩,z⟩,I⟩,J⟩,L⟩,M⟩:=h
 have O:ZL []=some 0:=by
  unfold ZL aIF;show bn (o7 []) Ag 0=some 0;rw[GK ([]:List ByteArray) BK (fun _=>false) 0 (some 0) (fun k i h=>Gv) (fun k=>rfl)];rfl
 have U:YC []=some 0:=by
  unfold YC aKS;show bn (aBm []) Ag 0=some 0;rw[GK ([]:List ByteArray) BK (fun _=>false) 0 (some 0) (fun k i h=>Gv) (fun k=>rfl)];rfl
 unfold Y4;rw[SC j,SC m,O,U,eq_of_beq q,eq_of_beq u,eq_of_beq z,eq_of_beq I,eq_of_beq J,eq_of_beq L,eq_of_beq M];rfl
def Ym (m:JE c):Bj (PD K c) (YJ K c):=by
 have I:=m.text;obtain⟨q,u⟩:=aHL (s:=c.Text) A8;unfold PD aDW YJ;rw[q,u];have e:=aDV c.Text;by_cases j:K=9
 ·subst j;cases h:(c.Text.toList==BU.toList)with
  |false=>exact .ret _
  |true=>
   have z:(c.Text.size:Int)=0:=by rw[e]at h;exact eq_of_beq h
   rw[z];exact .ret _
 rw[show(K==9)=false from by simpa using j];cases K==12<;>cases(c.Text.toList==BU.toList)<;>cases decide ((c.Text.size:Int)>32)<;>cases decide ((c.Text.size:Int)>400)<;>exact .ret _
def al8 (j:JE c):Bj (Y5 K c) (YR c):=by
 have u:=j.via;obtain⟨m,q⟩:=XJ (s:=c.Via) A8;unfold Y5 YR;rw[m,q];exact Bj.bif (fun _=>.ret _) fun _=>Bj.bif (fun _=>.ret _) fun _=>.ret _
def aJA (h:BZ K Iy=some true) (j:(!c.Thread)=true):Bj (Qg K c) (X5 K c):=by
 unfold Qg X5;rw[h,show c.Thread=false from by simpa using j];cases decide (c.Target<0)<;>cases c.Target==0<;>cases K != 11<;>exact .ret _
def afl (h:BZ K Iy=some true):Bj (G7 (Qg K c) (YU K c)) (X5 K c):=by
 unfold Qg YU X5 G7;rw[h];cases decide (c.Target<0)<;>cases c.Target==0<;>cases K != 11<;>cases c.Thread<;>exact .ret _
def ahh (j:JE c):Bj (Uh 6 c) (SK c.Allow):=by
 have m:=j.allow;have :=aRo (l:=c.Allow) A8 j.allows;show Bj ((Vk c.Allow).bind fun x=>some x) _;rw[aD7];exact this
end
def rJ (a b:Int):decide (a≥b)= !decide (a<b):=by by_cases h:a<b<;>simp[h]<;>omega
def pz (a b:Int):decide (a≤b)= !decide (a>b):=by by_cases h:a>b<;>simp[h]<;>omega
def anV {c:Bg} (hc:JE c):Bj (Ji 1 c) (Ig 1 c):=by
 have q:BZ 1 J8=some false:=AA
 have u:BZ 1 JR=some false:=AA
 have m:BZ 1 Iy=some false:=AA
 have z:BZ 1 Kt=some false:=AA
 have I:BZ 1 Ky=some false:=AA
 have J:BZ 1 KY=some false:=AA
 have L:BZ 1 LC=some false:=AA
 have O:BZ 1 LP=some false:=AA
 refine frame (M:=0) (kp:=0) (br:=false) rfl rfl rfl rfl q u m z I J L O L6 (fun h=>Fr) (fun h h'=>rfl) fun j=>?_;unfold Jw at j;simp only[Nb,KR,N7,FT,CV]at j;obtain⟨⟨⟨⟨⟨⟨⟨U,e1⟩,e2⟩,Y⟩,Z⟩,e5⟩,e6⟩,e7⟩:=j;have hL:KI 0 1 0 c=(some 0):=Oe
 rw[hL];unfold MB;rw[Dn (text0 U BK),Dn (show MX 1 c.N=some 0 from rfl),Dn (TR m Y),Dn (Oz Z),show((1:Int)==4)=false from rfl,Ar,Dn (Io e5),Dn (Io e6),Qu e7];exact .ret _
def ahW (c:Bg):Bj (NS 2 c) (MX 2 c.N):=by
 show Bj ((bif decide (c.N<0)then some true else some (decide (c.N>4))).bind fun j=>(bif j then some 2 else some 0)) ((bif decide (c.N≥0)then some (decide (c.N≤4))else some false).bind fun m=>(bif (!m)then some 2 else some 0));rw[rJ,pz];cases decide (c.N<0)<;>cases decide (c.N>4)<;>exact .ret _
def apS {c:Bg} (m:JE c):Bj (Ji 2 c) (Ig 2 c):=by
 have u:BZ 2 J8=some true:=AA
 have z:BZ 2 JR=some true:=AA
 have q:BZ 2 Iy=some false:=AA
 have I:BZ 2 Kt=some false:=AA
 have J:BZ 2 Ky=some true:=AA
 have L:BZ 2 KY=some false:=AA
 have O:BZ 2 LC=some false:=AA
 have U:BZ 2 LP=some false:=AA
 refine frame (M:=19) (kp:=18) (br:=false) rfl rfl rfl rfl u z q I J L O U L6 (fun h=>Fr) (fun h h'=>Fr) fun j=>?_;unfold Jw at j;simp only[Nb,KR,N7,FT,CV]at j;obtain⟨⟨⟨⟨e2,Y⟩,Z⟩,e6⟩,e7⟩:=j;have hL:KI 19 2 0 c=(G7 (PD 2 c) (G7 (NS 2 c) (G7 (Y5 2 c) (some 0)))):=Oe
 rw[hL];unfold MB;rw[Dn (TR q Y),show((2:Int)==4)=false from rfl,Ar,Dn (Io Z),Dn (Io e6),Qu e7];exact LV (Ym m) (LV (ahW c) (LV (al8 m) (.ret _)))
def aia {c:Bg} (j:JE c):Bj (Ji 3 c) (Ig 3 c):=by
 have u:BZ 3 J8=some false:=AA
 have z:BZ 3 JR=some false:=AA
 have q:BZ 3 Iy=some false:=AA
 have I:BZ 3 Kt=some false:=AA
 have J:BZ 3 Ky=some false:=AA
 have L:BZ 3 KY=some false:=AA
 have O:BZ 3 LC=some false:=AA
 have U:BZ 3 LP=some true:=AA
 refine frame (M:=128) (kp:=128) (br:=false) rfl rfl rfl rfl u z q I J L O U L6 (fun h=>Fr) (fun h h'=>Fr) fun m=>?_;unfold Jw at m;simp only[Nb,KR,N7,FT,CV]at m;obtain⟨⟨⟨⟨⟨⟨Y,e1⟩,e2⟩,Z⟩,e4⟩,e5⟩,e6⟩:=m;have hL:KI 128 3 0 c=(Y9 c.Levels):=Oe
 rw[hL];unfold MB;rw[Dn (text0 Y BK),Dn (show MX 3 c.N=some 0 from rfl),Dn (TR q Z),Dn (Oz e4),show((3:Int)==4)=false from rfl,Ar,Dn (Io e5),Dn (Io e6)];exact aoG j.users j.kinds j.names
def akE (c:Bg):Bj (NS 4 c) (MX 4 c.N):=by
 show Bj ((bif decide (c.N<0)then some true else some (decide (c.N>3))).bind fun j=>(bif j then some 2 else some 0)) ((bif decide (c.N≥0)then some (decide (c.N≤3))else some false).bind fun m=>(bif (!m)then some 2 else some 0));rw[rJ,pz];cases decide (c.N<0)<;>cases decide (c.N>3)<;>exact .ret _
def asb {c:Bg} (q:JE c):Bj (Ji 4 c) (Ig 4 c):=by
 have u:BZ 4 J8=some false:=AA
 have z:BZ 4 JR=some true:=AA
 have m:BZ 4 Iy=some false:=AA
 have I:BZ 4 Kt=some false:=AA
 have J:BZ 4 Ky=some false:=AA
 have L:BZ 4 KY=some true:=AA
 have O:BZ 4 LC=some false:=AA
 have U:BZ 4 LP=some false:=AA
 refine frame (M:=34) (kp:=34) (br:=false) rfl rfl rfl rfl u z m I J L O U L6 (fun h=>Fr) (fun h h'=>Fr) fun j=>?_;unfold Jw at j;simp only[Nb,KR,N7,FT,CV]at j;obtain⟨⟨⟨⟨⟨Y,e2⟩,Z⟩,e4⟩,e6⟩,e7⟩:=j;have hL:KI 34 4 0 c=(G7 (NS 4 c) (G7 (Uh 4 c) (some 0))):=Oe
 rw[hL];unfold MB;rw[Dn (text0 Y BK),Dn (TR m Z),Dn (Oz e4),show((4:Int)==4)=true from rfl,BA];rw[aEO];exact LV (akE c) (apW q)
def agN (c:Bg):Bj (NS 5 c) (MX 5 c.N):=by
 show Bj ((bif decide (c.N<0)then some true else some (decide (c.N>3))).bind fun j=>(bif j then some 2 else some 0)) ((bif decide (c.N≥0)then some (decide (c.N≤3))else some false).bind fun m=>(bif (!m)then some 2 else some 0));rw[rJ,pz];cases decide (c.N<0)<;>cases decide (c.N>3)<;>exact .ret _
def as7 {c:Bg} (hc:JE c):Bj (Ji 5 c) (Ig 5 c):=by
 have q:BZ 5 J8=some false:=AA
 have u:BZ 5 JR=some true:=AA
 have m:BZ 5 Iy=some false:=AA
 have z:BZ 5 Kt=some false:=AA
 have I:BZ 5 Ky=some false:=AA
 have J:BZ 5 KY=some false:=AA
 have L:BZ 5 LC=some false:=AA
 have O:BZ 5 LP=some false:=AA
 refine frame (M:=2) (kp:=2) (br:=false) rfl rfl rfl rfl q u m z I J L O L6 (fun h=>Fr) (fun h h'=>Fr) fun j=>?_;unfold Jw at j;simp only[Nb,KR,N7,FT,CV]at j;obtain⟨⟨⟨⟨⟨⟨U,e2⟩,Y⟩,Z⟩,e5⟩,e6⟩,e7⟩:=j;have hL:KI 2 5 0 c=(G7 (NS 5 c) (some 0)):=Oe
 rw[hL];unfold MB;rw[Dn (text0 U BK),Dn (TR m Y),Dn (Oz Z),show((5:Int)==4)=false from rfl,Ar,Dn (Io e5),Dn (Io e6),Qu e7];exact LV (agN c) (.ret _)
def aqE {c:Bg} (j:JE c):Bj (Ji 6 c) (Ig 6 c):=by
 have z:BZ 6 J8=some false:=AA
 have q:BZ 6 JR=some false:=AA
 have u:BZ 6 Iy=some false:=AA
 have I:BZ 6 Kt=some false:=AA
 have J:BZ 6 Ky=some false:=AA
 have L:BZ 6 KY=some true:=AA
 have O:BZ 6 LC=some true:=AA
 have U:BZ 6 LP=some false:=AA
 refine frame (M:=96) (kp:=96) (br:=false) rfl rfl rfl rfl z q u I J L O U L6 (fun h=>Fr) (fun h h'=>Fr) fun m=>?_;unfold Jw at m;simp only[Nb,KR,N7,FT,CV]at m;obtain⟨⟨⟨⟨⟨Y,e1⟩,e2⟩,Z⟩,e4⟩,e7⟩:=m;have hL:KI 96 6 0 c=(G7 (Uh 6 c) (Vk c.gB)):=Oe
 rw[hL];unfold MB;rw[Dn (text0 Y BK),Dn (show MX 6 c.N=some 0 from rfl),Dn (TR u Z),Dn (Oz e4),show((6:Int)==4)=false from rfl,Ar,Qu e7];have q:=j.deny;rw[aEO];exact LV (ahh j) (aRo A8 j.denies)
def agC {c:Bg} (q:JE c):Bj (Ji 7 c) (Ig 7 c):=by
 have u:BZ 7 J8=some true:=AA
 have z:BZ 7 JR=some false:=AA
 have m:BZ 7 Iy=some false:=AA
 have I:BZ 7 Kt=some false:=AA
 have J:BZ 7 Ky=some false:=AA
 have L:BZ 7 KY=some false:=AA
 have O:BZ 7 LC=some false:=AA
 have U:BZ 7 LP=some false:=AA
 refine frame (M:=1) (kp:=0) (br:=true) rfl rfl rfl rfl u z m I J L O U L6 (fun h=>rfl) (fun h h'=>ZV) fun j=>?_;unfold Jw at j;simp only[Nb,KR,N7,FT,CV]at j;obtain⟨⟨⟨⟨⟨⟨e1,e2⟩,Y⟩,Z⟩,e5⟩,e6⟩,e7⟩:=j;have hL:KI 1 7 0 c=(G7 (PD 7 c) (some 0)):=Oe
 rw[hL];unfold MB;rw[Dn (show MX 7 c.N=some 0 from rfl),Dn (TR m Y),Dn (Oz Z),show((7:Int)==4)=false from rfl,Ar,Dn (Io e5),Dn (Io e6),Qu e7];exact LV (Ym q) (.ret _)
def ahS (c:Bg):Bj (NS 8 c) (MX 8 c.N):=by
 show Bj ((bif decide (c.N<0)then some true else some (decide (c.N>1000000000))).bind fun j=>(bif j then some 2 else some 0)) ((bif decide (c.N≥0)then some (decide (c.N≤1000000000))else some false).bind fun m=>(bif (!m)then some 2 else some 0));rw[rJ,pz];cases decide (c.N<0)<;>cases decide (c.N>1000000000)<;>exact .ret _
def asE {c:Bg} (hc:JE c):Bj (Ji 8 c) (Ig 8 c):=by
 have q:BZ 8 J8=some false:=AA
 have u:BZ 8 JR=some true:=AA
 have m:BZ 8 Iy=some false:=AA
 have z:BZ 8 Kt=some false:=AA
 have I:BZ 8 Ky=some false:=AA
 have J:BZ 8 KY=some false:=AA
 have L:BZ 8 LC=some false:=AA
 have O:BZ 8 LP=some false:=AA
 refine frame (M:=2) (kp:=0) (br:=true) rfl rfl rfl rfl q u m z I J L O L6 (fun h=>rfl) (fun h h'=>ZV) fun j=>?_;unfold Jw at j;simp only[Nb,KR,N7,FT,CV]at j;obtain⟨⟨⟨⟨⟨⟨U,e2⟩,Y⟩,Z⟩,e5⟩,e6⟩,e7⟩:=j;have hL:KI 2 8 0 c=(G7 (NS 8 c) (some 0)):=Oe
 rw[hL];unfold MB;rw[Dn (text0 U BK),Dn (TR m Y),Dn (Oz Z),show((8:Int)==4)=false from rfl,Ar,Dn (Io e5),Dn (Io e6),Qu e7];exact LV (ahS c) (.ret _)
def aiC (c:Bg):Bj (NS 9 c) (MX 9 c.N):=by
 show Bj ((bif (c.N==1)then some true else some (c.N==2)).bind fun j=>(bif j then some true else some (c.N==6)).bind fun m=>(bif m then some 0 else some 2)) ((bif (c.N==1)then some true else some (c.N==2)).bind fun q=>(bif q then some true else some (c.N==6)).bind fun u=>(bif (!u)then some 2 else some 0));cases c.N==1<;>cases c.N==2<;>cases c.N==6<;>exact .ret _
def afv {c:Bg} (q:JE c):Bj (Ji 9 c) (Ig 9 c):=by
 have u:BZ 9 J8=some true:=AA
 have z:BZ 9 JR=some true:=AA
 have m:BZ 9 Iy=some false:=AA
 have I:BZ 9 Kt=some false:=AA
 have J:BZ 9 Ky=some false:=AA
 have L:BZ 9 KY=some false:=AA
 have O:BZ 9 LC=some false:=AA
 have U:BZ 9 LP=some false:=AA
 refine frame (M:=3) (kp:=0) (br:=true) rfl rfl rfl rfl u z m I J L O U L6 (fun h=>rfl) (fun h h'=>ZV) fun j=>?_;unfold Jw at j;simp only[Nb,KR,N7,FT,CV]at j;obtain⟨⟨⟨⟨⟨e2,Y⟩,Z⟩,e5⟩,e6⟩,e7⟩:=j;have hL:KI 3 9 0 c=(G7 (PD 9 c) (G7 (NS 9 c) (some 0))):=Oe
 rw[hL];unfold MB;rw[Dn (TR m Y),Dn (Oz Z),show((9:Int)==4)=false from rfl,Ar,Dn (Io e5),Dn (Io e6),Qu e7];exact LV (Ym q) (LV (aiC c) (.ret _))
def amD (c:Bg):Bj (NS 10 c) (MX 10 c.N):=by
 show Bj ((bif decide (c.N<1)then some true else some (decide (c.N>10000))).bind fun j=>(bif j then some 2 else some 0)) ((bif decide (c.N≥1)then some (decide (c.N≤10000))else some false).bind fun m=>(bif (!m)then some 2 else some 0));rw[rJ,pz];cases decide (c.N<1)<;>cases decide (c.N>10000)<;>exact .ret _
def aoL {c:Bg} (hc:JE c):Bj (Ji 10 c) (Ig 10 c):=by
 have q:BZ 10 J8=some false:=AA
 have u:BZ 10 JR=some true:=AA
 have m:BZ 10 Iy=some false:=AA
 have z:BZ 10 Kt=some false:=AA
 have I:BZ 10 Ky=some false:=AA
 have J:BZ 10 KY=some false:=AA
 have L:BZ 10 LC=some false:=AA
 have O:BZ 10 LP=some false:=AA
 refine frame (M:=2) (kp:=0) (br:=true) rfl rfl rfl rfl q u m z I J L O L6 (fun h=>rfl) (fun h h'=>ZV) fun j=>?_;unfold Jw at j;simp only[Nb,KR,N7,FT,CV]at j;obtain⟨⟨⟨⟨⟨⟨U,e2⟩,Y⟩,Z⟩,e5⟩,e6⟩,e7⟩:=j;have hL:KI 2 10 0 c=(G7 (NS 10 c) (some 0)):=Oe
 rw[hL];unfold MB;rw[Dn (text0 U BK),Dn (TR m Y),Dn (Oz Z),show((10:Int)==4)=false from rfl,Ar,Dn (Io e5),Dn (Io e6),Qu e7];exact LV (amD c) (.ret _)
def apw {c:Bg} (q:JE c):Bj (Ji 11 c) (Ig 11 c):=by
 have u:BZ 11 J8=some true:=AA
 have z:BZ 11 JR=some false:=AA
 have m:BZ 11 Iy=some true:=AA
 have I:BZ 11 Kt=some true:=AA
 have J:BZ 11 Ky=some false:=AA
 have L:BZ 11 KY=some false:=AA
 have O:BZ 11 LC=some false:=AA
 have U:BZ 11 LP=some false:=AA
 refine frame (M:=13) (kp:=0) (br:=true) rfl rfl rfl rfl u z m I J L O U L6 (fun h=>rfl) (fun h h'=>ZV) fun j=>?_;unfold Jw at j;simp only[Nb,KR,N7,FT,CV]at j;obtain⟨⟨⟨⟨e1,Y⟩,Z⟩,e6⟩,e7⟩:=j;have hL:KI 13 11 0 c=(G7 (PD 11 c) (G7 (Qg 11 c) (G7 (YU 11 c) (some 0)))):=Oe
 rw[hL];unfold MB;rw[Dn (show MX 11 c.N=some 0 from rfl),Dn (Oz Y),show((11:Int)==4)=false from rfl,Ar,Dn (Io Z),Dn (Io e6),Qu e7];rw[aEO,aEO];exact LV (Ym q) (afl m)
def ara {c:Bg} (q:JE c):Bj (Ji 12 c) (Ig 12 c):=by
 have u:BZ 12 J8=some true:=AA
 have z:BZ 12 JR=some false:=AA
 have m:BZ 12 Iy=some true:=AA
 have I:BZ 12 Kt=some false:=AA
 have J:BZ 12 Ky=some false:=AA
 have L:BZ 12 KY=some false:=AA
 have O:BZ 12 LC=some false:=AA
 have U:BZ 12 LP=some false:=AA
 refine frame (M:=5) (kp:=0) (br:=true) rfl rfl rfl rfl u z m I J L O U L6 (fun h=>rfl) (fun h h'=>ZV) fun j=>?_;unfold Jw at j;simp only[Nb,KR,N7,FT,CV]at j;obtain⟨⟨⟨⟨⟨e1,Y⟩,Z⟩,e5⟩,e6⟩,e7⟩:=j;have hL:KI 5 12 0 c=(G7 (PD 12 c) (G7 (Qg 12 c) (some 0))):=Oe
 rw[hL];unfold MB;rw[Dn (show MX 12 c.N=some 0 from rfl),Dn (Oz Z),show((12:Int)==4)=false from rfl,Ar,Dn (Io e5),Dn (Io e6),Qu e7];exact LV (Ym q) (LV (aJA m Y) (.ret _))
def afY {c:Bg} (q:JE c):Bj (Ji 13 c) (Ig 13 c):=by
 have u:BZ 13 J8=some true:=AA
 have z:BZ 13 JR=some false:=AA
 have m:BZ 13 Iy=some true:=AA
 have I:BZ 13 Kt=some false:=AA
 have J:BZ 13 Ky=some false:=AA
 have L:BZ 13 KY=some false:=AA
 have O:BZ 13 LC=some false:=AA
 have U:BZ 13 LP=some false:=AA
 refine frame (M:=5) (kp:=0) (br:=true) rfl rfl rfl rfl u z m I J L O U L6 (fun h=>rfl) (fun h h'=>ZV) fun j=>?_;unfold Jw at j;simp only[Nb,KR,N7,FT,CV]at j;obtain⟨⟨⟨⟨⟨e1,Y⟩,Z⟩,e5⟩,e6⟩,e7⟩:=j;have hL:KI 5 13 0 c=(G7 (PD 13 c) (G7 (Qg 13 c) (some 0))):=Oe
 rw[hL];unfold MB;rw[Dn (show MX 13 c.N=some 0 from rfl),Dn (Oz Z),show((13:Int)==4)=false from rfl,Ar,Dn (Io e5),Dn (Io e6),Qu e7];exact LV (Ym q) (LV (aJA m Y) (.ret _))
def arX {c:Bg} (q:JE c):Bj (Ji 14 c) (Ig 14 c):=by
 have u:BZ 14 J8=some true:=AA
 have z:BZ 14 JR=some false:=AA
 have m:BZ 14 Iy=some true:=AA
 have I:BZ 14 Kt=some false:=AA
 have J:BZ 14 Ky=some false:=AA
 have L:BZ 14 KY=some false:=AA
 have O:BZ 14 LC=some false:=AA
 have U:BZ 14 LP=some false:=AA
 refine frame (M:=5) (kp:=4) (br:=false) rfl rfl rfl rfl u z m I J L O U L6 (fun h=>Fr) (fun h h'=>Fr) fun j=>?_;unfold Jw at j;simp only[Nb,KR,N7,FT,CV]at j;obtain⟨⟨⟨⟨⟨e1,Y⟩,Z⟩,e5⟩,e6⟩,e7⟩:=j;have hL:KI 5 14 0 c=(G7 (PD 14 c) (G7 (Qg 14 c) (some 0))):=Oe
 rw[hL];unfold MB;rw[Dn (show MX 14 c.N=some 0 from rfl),Dn (Oz Z),show((14:Int)==4)=false from rfl,Ar,Dn (Io e5),Dn (Io e6),Qu e7];exact LV (Ym q) (LV (aJA m Y) (.ret _))
def aiw (k:Int) {c:Bg} (j:JE c):Bj (Ji k c) (Ig k c):=by
 cases m:decide (k≥1)&&decide (k≤14)with
 |false=>
  obtain⟨q,k2⟩:=vU k;rw[m]at q k2
  have f:∀n:Int,1≤n→n≤14→(k==n)=false:=fun n u z=>by
   rw[ZK];rintro rfl;rw[Ht (show k≥1 from u),Ht z]at m;cases m
  have I:ah k=some 0:=by
   unfold ah qM nT;rw[f 2 BK BK,f 3 BK BK,f 4 BK BK,f 5 BK BK,f 8 BK BK,f 10 BK BK,f 6 BK BK,f 7 BK BK,f 9 BK BK,f 11 BK BK,f 12 BK BK,f 13 BK BK,f 14 BK BK];rfl
  unfold Ji Ig;rw[I,q,k2];exact .ret _
 |true=>
  simp only[CV,Fb]at m;have :k=1∨k=2∨k=3∨k=4∨k=5∨k=6∨k=7∨k=8∨k=9∨k=10∨k=11∨k=12∨k=13∨k=14:=A8
  rcases this with rfl|rfl|rfl|rfl|rfl|rfl|rfl|rfl|rfl|rfl|rfl|rfl|rfl|rfl
  ·exact anV j
  ·exact apS j
  ·exact aia j
  ·exact asb j
  ·exact as7 j
  ·exact aqE j
  ·exact agC j
  ·exact asE j
  ·exact afv j
  ·exact aoL j
  ·exact apw j
  ·exact ara j
  ·exact afY j
  exact arX j
def MQ {α:Type} (p:α→α→Bool) (a b:List α):Bool:=((a.length:Int)==(b.length:Int))&& !((a.zip b).any fun x=> !p x.1 x.2)
def Zt {α R:Type} {body:(Int→Option R)→Int→Option R} (p:α→α→Bool) (a b:List α) (ha:a.length≤1000) (j:a.length=b.length) (bad:R) (rest:Option R)
 (m:∀k (i:Nat) (h:i<a.length) (h':i<b.length),body k (i:Int)=bif !p a[i] b[i]then some bad else k (Ah ((i:Int)+1))) (q:∀k,body k (a.length:Int)=rest):bn body Ag 0=bif (a.zip b).any fun x=> !p x.1 x.2 then some bad else rest:=by
 have hl:(a.zip b).length=a.length:=DK
 refine GK (a.zip b) (by rw[hl];exact aI5 A8) (fun x=> !p x.1 x.2) bad rest (fun k i h=>?_) (fun k=>by rw[hl];exact q k);have u:i<a.length:=A8
 have z:i<b.length:=A8
 rw[m k i u z,aFP]
def len_eq {α:Type} {a b:List α} (h:((a.length:Int)==(b.length:Int))=true):a.length=b.length:=aFT
def Vm (x y:ByteArray):Bool:=x.toList==y.toList
def VO (x y:H7):Bool:=x.User.toList==y.User.toList&&x.N==y.N
def Tm (x y:IJ):Bool:=x.Kind==y.Kind&&x.N==y.N
def yY {a b:List ByteArray} (ha:a.length≤1000):oO a b=some (MQ Vm a b)∧Xa a b=some (MQ Vm a b):=by
 unfold oO Xa MQ;simp only[bne];cases h:((a.length:Int)==(b.length:Int))with
 |false=>exact⟨rfl,rfl⟩
 |true=>
  have j:=len_eq h;simp only[Dv,Ar,FT];unfold aRx aLe
  rw[Zt Vm a b ha j false (some true) (fun k i h h'=>by simp only[aIf,dec_lt h,BA,Bf h,Bf h',AQ];rfl) (fun k=>by simp only[aIf,CZ,Ar]),
   Zt Vm a b ha j false (some true) (fun k i h h'=>by simp only[tV,dec_lt h,BA,Bf h,Bf h',AQ];rfl) (fun k=>by simp only[tV,CZ,Ar])]
  cases(a.zip b).any fun x=> !Vm x.1 x.2<;>exact⟨rfl,rfl⟩
def agR {a b:List H7} (ha:a.length≤1000):xH a b=some (MQ VO a b):=by
 unfold xH MQ;simp only[bne];cases h:((a.length:Int)==(b.length:Int))with
 |false=>rfl
 |true=>
  have j:=len_eq h;simp only[Dv,Ar,FT];unfold aNY;rw[Zt VO a b ha j false (some true) (fun k i h h'=>by simp only[aKT,dec_lt h,BA,Bf h,Bf h',AQ,aBu,VO,N7]) (fun k=>by simp only[aKT,CZ,Ar])];cases(a.zip b).any fun x=> !VO x.1 x.2<;>rfl
def aiX {a b:List IJ} (ha:a.length≤1000):wz a b=some (MQ Tm a b):=by
 unfold wz MQ;simp only[bne];cases h:((a.length:Int)==(b.length:Int))with
 |false=>rfl
 |true=>
  have j:=len_eq h;simp only[Dv,Ar,FT];unfold aQN;rw[Zt Tm a b ha j false (some true) (fun k i h h'=>by simp only[aGm,dec_lt h,BA,Bf h,Bf h',AQ,wO,Tm,N7]) (fun k=>by simp only[aGm,CZ,Ar])];cases(a.zip b).any fun x=> !Tm x.1 x.2<;>rfl
def aED (a b:Ba):Bool:=(a.User==b.User)&&(a.Message==b.Message)&&(a.State==b.State)&&(a.fH==b.fH)&&(a.jI==b.jI)&&(a.mW==b.mW)&&(a.eU==b.eU)
def zA (a b:Ba):Bool:=MQ VO a.Users b.Users&&(MQ Tm a.Kinds b.Kinds&&aED a b)
def akj {a b:Ba} (j:a.Users.length≤1000) (m:a.Kinds.length≤1000):dS a b=some (zA a b):=by
 unfold dS zA MQ;simp only[bne];cases q:((a.Users.length:Int)==(b.Users.length:Int))with
 |false=>rfl
 |true=>
  cases u:((a.Kinds.length:Int)==(b.Kinds.length:Int))with
  |false=>simp
  |true=>
   have z:=len_eq q;have ek:=len_eq u
   have I:iT a b 0=bif (a.Kinds.zip b.Kinds).any fun x=> !Tm x.1 x.2 then some false else some (aED a b):=by
    unfold iT;refine Zt Tm a.Kinds b.Kinds m ek false (some (aED a b)) (fun k i h h'=>?_) (fun k=>?_)
    ·simp only[aET,dec_lt h,BA,Bf h,Bf h',AQ,aII,Tm,bne];cases a.Kinds[i].Kind==b.Kinds[i].Kind<;>cases a.Kinds[i].N==b.Kinds[i].N<;>rfl
    simp only[aET,CZ,Ar,Iq,AQ,Ri];rfl
   simp only[Dv,Ar,AQ,FT];unfold xZ
   rw[Zt VO a.Users b.Users j z false (iT a b 0) (fun k i h h'=>by
    simp only[Rep,dec_lt h,BA,Bf h,Bf h',AQ,aI0,VO,bne]
    cases a.Users[i].User.toList==b.Users[i].User.toList<;>cases a.Users[i].N==b.Users[i].N<;>rfl) (fun k=>by simp only[Rep,CZ,Ar]),I]
   cases(a.Users.zip b.Users).any fun x=> !VO x.1 x.2<;>cases(a.Kinds.zip b.Kinds).any fun x=> !Tm x.1 x.2<;>rfl
def aEB (a b:Bg):Bool:=(a.Text.toList==b.Text.toList)&&(a.N==b.N)&&(a.Target==b.Target)&&(a.Thread==b.Thread)&&(a.Via.toList==b.Via.toList)&&MQ Vm a.Allow b.Allow&&MQ Vm a.gB b.gB&&zA a.Levels b.Levels
def alx {a:Bg} (b:Bg) (ha:PY a):Yo a b=some (aEB a b):=by
 have j:=ha.allow;have m:=ha.deny;have q:=ha.users;have u:=ha.kinds;unfold Yo aEB;rw[(yY (a:=a.Allow) A8).2,(yY (a:=a.gB) A8).2,akj (a:=a.Levels) A8 A8];simp only[Iq,AQ,Ri]
def amm {a:Bg} (b:Bg) (ha:PY a):aEA a b=some (aEB a b):=by
 have L:=ha.allow;have M:=ha.deny;have O:=ha.users;have U:=ha.kinds;unfold aEA aEB zA aED;rw[(yY (a:=a.Allow) A8).1,(yY (a:=a.gB) A8).1,agR (a:=a.Levels.Users) A8,aiX (a:=a.Levels.Kinds) A8];simp only[Iq,AQ,Ri,Zd,bne];generalize(a.Text.toList==b.Text.toList)=j;generalize(a.N==b.N)=m;generalize(a.Target==b.Target)=q;generalize(a.Thread==b.Thread)=u;generalize(a.Via.toList==b.Via.toList)=z;generalize MQ Vm a.Allow b.Allow=I;generalize MQ Vm a.gB b.gB=J;generalize MQ VO a.Levels.Users b.Levels.Users=Y;generalize MQ Tm a.Levels.Kinds b.Levels.Kinds=Z;cases j<;>cases m<;>cases q<;>cases u<;>cases z<;>cases I<;>cases J<;>first|rfl|(simp only[Dv,Bool.or_self,Ar,FT,Bool.and_self,Bool.and_assoc])
def as4 {e:AL} (j:Ui e) (v:Bool):Bj (X8 e v) ((SI e v).bind fun m=>(bif (m != 0)then some m else(Ig e.Kind e.Content).bind fun I=>some I)):=by
 have h1:=j.room;have h2:=j.sender;have h3:=j.key;have h4:=j.prev;have h5:=j.auth;unfold X8 SI;rw[ag8 j,(kK (s:=e.Room) A8).2,(XJ (s:=e.aN) A8).2,aQP A8];cases v with
 |true=>exact .ret _
 |false=>
  simp only[Ar,AQ,bne,Iq,Zd];generalize(U9 e.Room==0)=a;generalize(Ph e.aN==0)=b;generalize U7 e.Kind e.Key=J;cases a with
  |false=>exact .ret _
  |true=>
   cases b with
   |false=>exact .ret _
   |true=>
    cases J with
    |false=>exact .ret _
    |true=>
     simp only[Dv,Bool.or_self,Bool.and_self,Ar,aCt];refine Bj.bif (fun _=>.ret _) fun _=>Bj.bif (fun _=>.ret _) fun hlen=>?_;simp only[aI,XW]at hlen;obtain⟨L,M,O⟩:=aPh (l:=e.bF) A8;obtain⟨U,Y,Z⟩:=aPh (l:=e.bf) A8;rw[M,Y,O,Z];simp only[AQ,Iq,Zd,aCt];cases L with
     |false=>exact .ret _
     |true=>
     cases U with
     |false=>exact .ret _
     |true=>
     simp only[Dv,Ar]
     have hs:decide ((Ah ((e.bF.length:Int)+(e.bf.length:Int)))>0)=(decide ((e.bF.length:Int)>0)||decide ((e.bf.length:Int)>0)):=by
      rw[Ob A8 A8];by_cases u:(e.bF.length:Int)>0
      ·rw[Ht u,Ht A8];rfl
      by_cases z:(e.bf.length:Int)>0
      ·rw[Ht z,Ht A8,Nb]
      rw[Hr u,Hr z,Hr A8];rfl
     rw[hs];generalize(bif ((e.bF.length:Int)==0)then !e.Kind==1 else false)=p;generalize(bif (e.Kind==1)then(decide ((e.bF.length:Int)>0)||decide ((e.bf.length:Int)>0))else false)=q;cases p with
     |true=>exact .ret _
     |false=>
      cases q with
      |true=>exact .ret _
      |false=>exact Bj.bind (aiw e.Kind j.content) fun x=>.ret _
def ajy {e:AL} (m:Ui e):Bj (aBj e) (jR e):=by
 have j:=as4 m;unfold aBj jR aHF;rw[show YN e.Kind=TU e.Kind from rfl];simp only[aCt,bne,Iq,AQ];refine Bj.bif (fun _=>j _) fun _=>Bj.bif (fun _=>j _) fun _=>?_;have hs:∃b,TU e.Kind=some b:=by unfold TU;cases decide (e.Kind≥1)<;>cases decide (e.Kind≤10)<;>exact⟨_,rfl⟩
 obtain⟨b,q⟩:=hs;rw[q];simp only[AQ,aCt];refine Bj.bif (fun _=>j _) fun _=>Bj.bif (fun _=>?_) fun _=>j _;cases e.Kind==2 with
 |true=>exact j _
 |false=>exact j _
def aP9 {e:AL} (j:RV e):dw e=some (jy e==e.Hash)∧aMJ e=some (jy e==e.Hash):=by
 unfold dw aMJ;rw[(aQ4 j).1,(aQ4 j).2];exact⟨rfl,rfl⟩
def aoS {e:AL} (j:RV e) (v:Bool):Bj (YO e v) (ug e v):=by
 have I:e.aN.size≤2000:=j.sender;unfold YO ug;obtain⟨m,q⟩:=aSa j;obtain⟨u,z⟩:=iJ (s:=e.aN) A8;rw[m,q,u,z];refine Bj.bif (fun _=>.ret _) fun _=>?_;simp only[AQ];refine Bj.bif (fun _=>.ret _) fun _=>?_;unfold aJC vZ;show Bj (bif !((e.rP.Server.toList==(splitB e.aN (Iu e.aN)).2.1.toList)&&((e.rP.Sum==e.Id)&&true))then some 12 else some 0) _;simp only[bne];cases(e.rP.Server.toList==(splitB e.aN (Iu e.aN)).2.1.toList)<;>cases(e.rP.Sum==e.Id)<;>exact .ret _
def Ib {a:Int} {c:Bool} {X:Option Int} (h:(bif c then some a else X)=some 0) (ha:a≠0):c=false∧X=some 0:=by
 cases c with
 |true=>exact absurd (CG h) ha
 |false=>exact⟨rfl,h⟩
def Rw {a:Int} {x:Option Int} (h:(bif a != 0 then some a else x)=some 0):a=0∧x=some 0:=by
 by_cases ha:a=0
 ·subst ha;exact⟨rfl,h⟩
 rw[show(a != 0)=true from by simpa using ha]at h;exact absurd (CG h) ha
def firsts {α R:Type} {body:(Int→Option R)→Int→Option R} {ok:R} (l:List α) (hl:l.length≤9223372036854775807) (P:Nat→Prop)
 (I:∀k (i:Nat),i<l.length→body k (i:Int)=some ok→P i∧k ((i+1:Nat):Int)=some ok) (u:Nat) (h:bn body Ag (u:Int)=some ok):∀i,u≤i→i<l.length→P i:=by
 have key:∀n (i:Nat) m,i+n=l.length→n<m→bn body m (i:Int)=some ok→∀j,i≤j→j<l.length→P j:=by
  intro n
  induction n with
  |zero=>intro i m hi _ _ j q z;omega
  |succ n J=>
   intro i m hi O L j q z;obtain⟨m,rfl⟩:∃M,m=M+1:=⟨m-1,A8⟩
   obtain⟨a,b⟩:=I (bn body m) i A8 L;rcases aN6 q with rfl|q
   ·exact a
   exact J (i+1) m A8 A8 b j q z
 intro i q z;have U:Ag=9223372036854775808:=rfl;exact key (l.length-u) u Ag A8 A8 h i q z
def su {α:Type} {l:List α} {Q:α→Prop} (h:∀i,0≤i→i<l.length→∀x,l[i]? =some x→Q x):∀x∈l,Q x:=fun x j=>by
 obtain⟨i,hi,rfl⟩:=Hf j;exact h i (EK _) hi _ (Ce hi)
def arY (s:ByteArray) (a b:Nat) (j:b≤s.size):(s.extract a b).size=b-a:=by rw[aGb];omega
def aau {l:List Int} {p:Int→Bool} (h:Q7 l p=true):l.length≤32:=(aeF h).2
def jK {s:ByteArray} {m:Int} (h:G5 s m=true):s.size≤100:=by
 unfold G5 RY at h;simp only[CV,Fb]at h;have u:=h.2.1.1;have j:=aau h.2.1.2
 have q:(BO (Qa s)).length≤32:=by
  have :=h.2.2;unfold XB at this;simp only[CV]at this;exact aau this.1.1
 rw[H8]at j q;unfold U2 at j;unfold Qa at q;rw[arY _ _ _ A8]at j q;omega
def aOo {s:ByteArray} (hs:s.size≤9223372036854775807) (h:ZW s=some 0):s.size≤100∧G5 s 64=true:=by
 rw[(XJ hs).2]at h;have h:=CG h;unfold Ph at h;cases j:G5 s 64 with
 |true=>exact⟨jK j,rfl⟩
 |false=>rw[j]at h;cases h
def amH {s:ByteArray} (hs:s.size≤9223372036854775807) (h:lg s=some 0):s.size≤100∧G5 s 33=true:=by
 rw[(kK hs).2]at h;have h:=CG h;unfold U9 at h;cases j:G5 s 33 with
 |true=>exact⟨jK j,rfl⟩
 |false=>rw[j]at h;cases h
def afH {s:ByteArray} (hs:s.size≤9223372036854775807) (h:rY s=some 0):s.size≤100:=by
 rw[(aHL hs).2]at h;have h:=CG h;unfold aEM at h;split at h
 ·omega
 split at h
 ·cases h
 omega
def adG {l:List ByteArray} (hl:l.length≤9223372036854775807) (hs:∀s∈l,s.size≤9223372036854775807) (h:SK l=some 0):l.length≤100∧∀s∈l,s.size≤100:=by
 unfold SK at h;obtain⟨q,h⟩:=Ib h BK;refine⟨by have :=Ir q;omega,su (firsts l hl (fun i=>∀x,l[i]? =some x→x.size≤100) (fun k i hi j=>?_) 0 h)⟩;unfold uI at j;rw[Bl hi]at j;obtain⟨x,u,j⟩:=DI j;obtain⟨e,j⟩:=Rw j;subst e;rw[wrap_succ i A8]at j;exact⟨fun y m=>by rw[Ce hi]at m;obtain rfl:=CG m;exact afH (hs _ (E8 hi)) u,j⟩
def aoI {c:Bg} (hl:c.Allow.length≤9223372036854775807) (hs:∀s∈c.Allow,s.size≤9223372036854775807) (h:eu c=some 0):c.Allow.length≤100∧∀s∈c.Allow,s.size≤100:=by
 unfold eu at h;obtain⟨x,_,h⟩:=DI h;obtain⟨_,h⟩:=Ib h BK;obtain⟨I,h⟩:=Ib h BK;refine⟨by have :=Ir I;omega,su (firsts c.Allow hl (fun i=>∀x,c.Allow[i]? =some x→x.size≤100) (fun k i hi j=>?_) 0 h)⟩;unfold aCM aAA at j;rw[Bl hi]at j;obtain⟨x,J,j⟩:=DI j;obtain⟨e,j⟩:=Ib j BK;have m:x=0:=QK
 subst m;refine⟨fun y q=>by rw[Ce hi]at q;obtain rfl:=CG q;exact(amH (hs _ (E8 hi)) J).1,?_⟩;cases u:decide ((i:Int)>0)with
 |true=>
  rw[u,BA]at j;obtain⟨y,_,j⟩:=DI j;obtain⟨z,_,j⟩:=DI j;obtain⟨_,j⟩:=Ib j BK
  rwa [wrap_succ i A8]at j
 |false=>
  rw[u,Ar,Ar]at j
  rwa [wrap_succ i A8]at j
def an6 {l:List H7} (hl:l.length≤9223372036854775807) (hs:∀u∈l,u.User.size≤9223372036854775807) (h:ZL l=some 0):l.length≤100∧∀u∈l,u.User.size≤100:=by
 unfold ZL at h;obtain⟨O,h⟩:=Ib h BK;refine⟨by have :=Ir O;omega,su (firsts l hl (fun i=>∀x,l[i]? =some x→x.User.size≤100) (fun k i hi m=>?_) 0 h)⟩
 have I:∀v,jh l (i:Int) k v=some 0→k ((i+1:Nat):Int)=some 0:=fun v j=>by
  unfold jh at j;obtain⟨_,j⟩:=Ib j BK;obtain⟨y,_,j⟩:=DI j;obtain⟨z,_,j⟩:=DI j;obtain⟨_,j⟩:=Ib j BK
  rwa [wrap_succ i A8]at j
 unfold o7 at m;rw[Bl hi]at m;obtain⟨x,J,U⟩:=DI m;obtain⟨e,hd⟩:=Ib U BK;have q:x=0:=QK
 rw[q]at J;refine⟨fun y L=>by rw[Ce hi]at L;obtain rfl:=CG L;exact(aOo (hs _ (E8 hi)) J).1,?_⟩;cases M:decide ((i:Int)>0)with
 |true=>
  rw[M,BA]at hd;obtain⟨y,_,Y⟩:=DI hd;obtain⟨z,_,Z⟩:=DI Y;exact I _ Z
 |false=>
  rw[M,Ar]at hd;exact I _ hd
def aoO {l:List IJ} (h:YC l=some 0):l.length≤100:=by
 unfold YC at h;obtain⟨j,_⟩:=Ib h BK;have :=Ir j;omega
def empty_of {s:ByteArray} (h:(s.toList==BU.toList)=true):s.size≤100:=by rw[aDV]at h;have :=eq_of_beq h;omega
def aNg {l:Ba} (h:MC l=true):l.Users=[]∧l.Kinds=[]:=by
 unfold MC at h;simp only[CV]at h;exact⟨SC h.1.1.1.1.1.1.1.1,SC h.1.1.1.1.1.1.1.2⟩
def aqr {k:Int} {c:Bg} (J:JE c) (h:Ig k c=some 0):PY c:=by
 unfold Ig at h;rw[(vU k).2,AQ]at h;obtain⟨x2,M,h⟩:=DI h;obtain⟨e2,h⟩:=Ib h BK;subst e2
 have I:gW k c=some true:=by
  cases hk:(decide (k≥1)&&decide (k≤14))with
  |false=>rw[hk]at M;cases M
  |true=>
   rw[hk]at M;obtain⟨y,O,L⟩:=DI (show(gW k c).bind (fun x4=>some (!x4))=some false from M);have L:=CG L;cases y with
   |true=>exact O
   |false=>cases L
 obtain⟨x6,_,h⟩:=DI h;obtain⟨x7,U,h⟩:=DI h;cases x7 with
 |true=>
  have L:Zy (c.Text.toList==BU.toList) (c.N==0) (c.Target==0) (!c.Thread) (c.Via.toList==BU.toList) ((c.Allow.length:Int)==0) ((c.gB.length:Int)==0) (MC c.Levels)=true:=by
   cases x6 with
   |false=>cases U
   |true=>rw[aeV]at U;exact CG U
  unfold Zy at L;simp only[CV]at L;obtain⟨⟨⟨⟨⟨⟨⟨t1,_⟩,_⟩,_⟩,t5⟩,t6⟩,t7⟩,t8⟩:=L;have p:=aNg t8;have q1:=empty_of t1;have q2:=empty_of t5;have a1:=SC t6;have a2:=SC t7;refine⟨?_,?_,?_,?_,A8,A8,?_,?_,?_⟩<;>first|rw[a1]|rw[a2]|rw[p.1]|rw[p.2]
  all_goals first|exact EK _|exact fun x hx=>absurd hx Ef
 |false=>
  rw[Ar]at h;obtain⟨x11,j,h⟩:=DI h;obtain⟨e,h⟩:=Rw h;subst e;obtain⟨KG,_,h⟩:=DI h;obtain⟨_,h⟩:=Rw h;obtain⟨x15,_,h⟩:=DI h;obtain⟨_,h⟩:=Rw h;obtain⟨x17,q,h⟩:=DI h;obtain⟨e,h⟩:=Rw h;subst e
  have ht:c.Text.size≤2000:=by
   unfold YJ at j;cases h9:k==9 with
   |true=>
    rw[h9,BA]at j;cases Y:(c.Text.toList==BU.toList)with
    |true=>have :=empty_of Y;omega
    |false=>
     rw[Y,Ar]at j;obtain⟨y,O,j⟩:=DI j;obtain rfl:=CG j;have :=afH J.text O;omega
   |false=>
    rw[h9,Ar]at j;obtain⟨y,_,j⟩:=DI j;obtain⟨_,j⟩:=Ib j BK;obtain⟨z,L,j⟩:=DI j;obtain⟨e,_⟩:=Ib j BK;subst e;cases hd:decide ((c.Text.size:Int)>400)with
    |true=>rw[hd]at L;cases L
    |false=>have :=Ir hd;omega
  have hv:c.Via.size≤2000:=by
   unfold YR at q;cases Y:(c.Via.toList==BU.toList)with
   |true=>have :=empty_of Y;omega
   |false=>
    rw[Y,Ar]at q;obtain⟨_,q⟩:=Ib q BK;obtain⟨y,O,q⟩:=DI q;obtain rfl:=CG q;have :=(aOo J.via O).1;omega
  have aCo:∀{l:List ByteArray},(∀s∈l,s.size≤100)→∀s∈l,s.size≤2000:=fun h s hs=>EZ (h s hs) A8;cases h4:k==4 with
  |true=>
   have e4:=eq_of_beq h4;subst e4;rw[Rn,BA]at h;obtain⟨y,O,h⟩:=DI h;obtain rfl:=CG h;obtain⟨r1,r2⟩:=aoI J.allow J.allows O;rw[aQC (K:=4) (c:=c) (show _=some false by kernel_rfl) (show _=some true by kernel_rfl) (show _=some false by kernel_rfl) (show _=some false by kernel_rfl) (show _=some false by kernel_rfl) (show _=some true by kernel_rfl) (show _=some false by kernel_rfl) (show _=some false by kernel_rfl)]at I;have Z:=CG I;unfold Jw at Z;simp only[CV,KR]at Z;have d:=SC Z.1.2;have p:=aNg Z.2;refine⟨r1,?_,?_,?_,ht,hv,aCo r2,?_,?_⟩<;>first|rw[d]|rw[p.1]|rw[p.2]
   all_goals first|exact EK _|exact fun x hx=>absurd hx Ef
  |false=>
   rw[h4,Ar]at h;obtain⟨y1,hy1,h⟩:=DI h;obtain⟨e,h⟩:=Rw h;subst e;obtain⟨y2,hy2,h⟩:=DI h;obtain⟨e,h⟩:=Rw h;subst e;obtain⟨y3,m,h⟩:=DI h;obtain rfl:=CG h;unfold Y4 at m;obtain⟨z1,hz1,m⟩:=DI m;obtain⟨e,m⟩:=Rw m;subst e;obtain⟨z2,hz2,m⟩:=DI m;obtain⟨e,m⟩:=Rw m;subst e;obtain⟨a1,a2⟩:=adG J.allow J.allows hy1;obtain⟨d1,d2⟩:=adG J.deny J.denies hy2;obtain⟨u1,u2⟩:=an6 J.users J.names hz1;exact⟨a1,d1,u1,aoO hz2,ht,hv,aCo a2,aCo d2,fun u hu=>EZ (u2 u hu) A8⟩
structure lT (e:AL):Prop where
 kind:1≤e.Kind∧e.Kind≤14
 state:e.State=GX e.Kind
 keyed:e.Key=BU∨e.Kind=2∨e.Kind=9
 room:G5 e.Room 33=true
 sender:G5 e.aN 64=true
 key:U7 e.Kind e.Key=true
 time:0≤e.Time∧e.Time≤1000000000
 depth:1≤e.Depth∧e.Depth≤100000
 prev:e.bF.length≤10∧Inc e.bF∧∀x∈e.bF,0≤x
 auth:e.bf.length≤8∧Inc e.bf∧∀x∈e.bf,0≤x
 short:e.bF=[]→e.Kind=1
 form:e.Kind=1→e.bF=[]∧e.bf=[]
 content:Ig e.Kind e.Content=some 0
 small:RV e
def aRT {l:List Int} (hl:l.length≤9223372036854775807) (h:aV l=some true):Inc l∧∀x∈l,0≤x:=by
 unfold aV aFI at h
 have q:=firsts l hl (fun i=>∀x,l[i]? =some x→0≤x∧∀y,0<i→l[i-1]? =some y→y<x) (fun k i hi m=>by
  have I:∀v,iE k (i:Int) v=some true→v=false∧k ((i+1:Nat):Int)=some true:=fun v J=>by
   unfold iE at J;cases v with
   |true=>cases J
   |false=>rw[Ar,wrap_succ i A8]at J;exact⟨rfl,J⟩
  unfold aAO at m;rw[Bl hi]at m;cases M:decide (l[i]<0)with
  |true=>rw[M,BA]at m;cases(I _ m).1
  |false=>
   have h0:=Ir M;rw[M,Ar]at m;cases L:decide ((i:Int)>0)with
   |false=>
    have hp0:=Ir L;rw[L,Ar]at m;refine⟨fun x u=>?_,(I _ m).2⟩;rw[Ce hi]at u;obtain rfl:=CG u;exact⟨A8,fun y h0 O=>A8⟩
   |true=>
    rw[L,BA,Bf hi,AQ,rZ hi hl L,AQ]at m;obtain⟨U,Y⟩:=I _ m;refine⟨fun x u=>?_,Y⟩;rw[Ce hi]at u;obtain rfl:=CG u;refine⟨A8,fun y h0 O=>?_⟩;rw[Ce A8]at O;obtain rfl:=CG O
    have :=Ir U;omega) 0 h
 have z:∀i,(hi:i+1<l.length)→l[i]<l[i+1]:=fun i hi=>(q (i+1) A8 hi _ (Ce hi)).2 _ A8 (Ce A8);refine⟨?_,fun x u=>?_⟩
 ·rw[Inc,KH];intro i j hi I Z
  induction j with
  |zero=>omega
  |succ j ih=>
   have U:=z j I;rcases aN6 (Nat.le_of_lt_succ Z)with rfl|Y
   ·exact U
   have :=ih A8 Y;omega
 obtain⟨i,hi,rfl⟩:=Hf u;exact(q i (EK _) hi _ (Ce hi)).1
def oC {c:Bool} {X:Option Bool} {f:Bool→Option Int} {v:Int} (j:f true≠some v) (h:((bif c then some true else X).bind f)=some v):c=false∧X.bind f=some v:=by
 cases c with
 |true=>exact absurd h j
 |false=>exact⟨rfl,h⟩
def aoQ {e:AL} (M:Ui e) (h:jR e=some 0):lT e:=by
 unfold jR at h;obtain⟨x1,j,h⟩:=DI h;obtain⟨e1,h⟩:=Rw h;subst e1;obtain⟨x3,h3,h⟩:=DI h;obtain rfl:=CG h;have J:=aqr M.content h3
 have O:∀v,SI e v=some 0→v=false:=fun v hv=>by
  cases v with
  |true=>cases hv
  |false=>rfl
 have hj2:SI e false=some 0∧(1≤e.Kind∧e.Kind≤14)∧e.State=GX e.Kind∧(e.Key=BU∨e.Kind=2∨e.Kind=9):=by
  unfold aHF at j;cases Z:decide (e.Kind<1)with
  |true=>rw[Z,BA]at j;cases O _ j
  |false=>
   cases c2:decide (e.Kind>14)with
   |true=>rw[Z,c2,Ar,BA]at j;cases O _ j
   |false=>
    rw[Z,c2,Ar,Ar,wM,AQ]at j;have k1:=Ir Z;have k2:=Ir c2;cases c3:(e.State==GX e.Kind)with
    |false=>rw[c3,I4,BA]at j;cases O _ j
    |true=>
     rw[c3,Dv,Ar]at j;refine⟨?_,⟨A8,A8⟩,eq_of_beq c3,?_⟩
     all_goals cases c4:(e.Key.toList==BU.toList)with
     |true=>rw[c4,Dv,Ar]at j;first|exact j|exact .inl (toList_inj (eq_of_beq c4))
     |false=>
      rw[c4,I4,BA]at j;cases c5:(e.Kind != 2)with
      |false=>rw[c5,Ar]at j;first|exact j|exact .inr (.inl (by simpa using c5))
      |true=>
       rw[c5,BA]at j;have :=O _ j;rw[this]at j
       first|exact j|exact .inr (.inr aJw)
 clear j O;obtain⟨j,hk,hst,U⟩:=hj2;unfold SI at j;rw[Ar,(kK (s:=e.Room) M.room).2,(XJ (s:=e.aN) M.sender).2,aQP M.key]at j;simp only[AQ]at j
 have u:G5 e.Room 33=true:=by
  cases L:G5 e.Room 33 with
  |true=>rfl
  |false=>unfold U9 at j;rw[L]at j;cases j
 have r0:U9 e.Room=0:=by unfold U9;rw[u];rfl
 rw[r0,VT,Ar,AQ]at j
 have z:G5 e.aN 64=true:=by
  cases L:G5 e.aN 64 with
  |true=>rfl
  |false=>unfold Ph at j;rw[L]at j;cases j
 have u0:Ph e.aN=0:=by unfold Ph;rw[z];rfl
 rw[u0,VT,Ar,AQ]at j
 have m:U7 e.Kind e.Key=true:=by
  cases L:U7 e.Kind e.Key with
  |true=>rfl
  |false=>rw[L]at j;cases j
 rw[m,Dv,Ar]at j;obtain⟨t1,j⟩:=oC jW j;rw[AQ]at j;obtain⟨t2,j⟩:=oC jW j;rw[AQ]at j;obtain⟨t3,j⟩:=oC jW j;rw[AQ]at j;obtain⟨t4,j⟩:=Ib j BK;obtain⟨t5,j⟩:=oC jW j;rw[AQ]at j;obtain⟨t6,j⟩:=Ib j BK;obtain⟨x21,h21,j⟩:=DI j;obtain⟨t7,j⟩:=oC jW j;rw[Option.bind_assoc]at j;obtain⟨x24,h24,j⟩:=DI j;rw[AQ]at j;obtain⟨t8,j⟩:=Ib j BK;obtain⟨x26,Y,j⟩:=DI j;obtain⟨t9,j⟩:=Ib j BK;obtain⟨x29,I,j⟩:=DI j;obtain⟨t10,_⟩:=Ib j BK;have e21:x21=true:=by simpa using t7
 have e24:x24=true:=by simpa using t8
 subst e21 e24 t9 t10;have p1:=Ir t5;have p2:=Ir t6;have r1:=aRT M.prev h21;have r2:=aRT M.auth h24;have d1:=Ir t1;have d2:=Ir t2;have d3:=Ir t3;have d4:=Ir t4
 have hkz:e.Key.size≤2000:=by
  rcases U with h|h|h
  ·rw[h];exact EK _
  ·unfold U7 at m;rw[CJ h]at m;have :Ph e.Key=0:=Xp
   unfold Ph at this;cases L:G5 e.Key 64 with
   |true=>have :=jK L;omega
   |false=>rw[L]at this;cases this
  unfold U7 at m;rw[CU A8,CJ h]at m;unfold qA at m;simp only[CV,Fb]at m;have :=m.1.2;omega
 have z1:=jK u;have z2:=jK z;refine⟨hk,hst,U,u,z,m,⟨A8,A8⟩,⟨A8,A8⟩,⟨A8,r1⟩,⟨A8,r2⟩,fun hp=>?_,fun hk1=>?_,h3,⟨?_,?_,J.allow,J.deny,J.users,J.kinds,?_,?_,hkz,J.text,J.via,EK _,J.allows,J.denies,J.names⟩⟩
 ·rw[hp]at Y;have :=CG Y;simpa using this
 ·rw[hk1]at I;have I:((bif decide ((e.bF.length:Int)>0)then some true else some (decide ((e.bf.length:Int)>0))).bind fun x31=>some x31)=some false:=I;cases q:decide ((e.bF.length:Int)>0)with
  |true=>rw[q]at I;cases I
  |false=>
   rw[q]at I;have q2:=CG I;have :=Ir q;have :=Ir q2;exact⟨GN A8,GN A8⟩
 ·show e.bF.length≤40;omega
 ·show e.bf.length≤40;omega
 ·show e.Room.size≤2000;omega
 show e.aN.size≤2000;omega
def aa5 {e:AL} (J:Ui e):∃c,yD e=some c∧aI7 e=some c∧(c=0→lT e∧GV e):=by
 obtain⟨x,z,m⟩:=ajy J;unfold yD aI7;rw[z,m,AQ,AQ];cases u:x != 0 with
 |true=>exact⟨x,rfl,rfl,fun h=>by subst h;cases u⟩
 |false=>
  obtain rfl:x=0:=LJ
  have L:=aoQ J m;have hs:=L.small;have I:e.aN.size≤2000:=hs.sender;rw[Ar,Ar,(aP9 hs).1,(aP9 hs).2,ae0 _ hs.content,aNf];simp only[AQ];rw[amm _ hs.content,alx _ hs.content];simp only[AQ]
  have key:∀v,∃c,YO e v=some c∧ug e v=some c∧(c=0→lT e∧GV e):=fun v=>by
   obtain⟨c,j,O⟩:=aoS hs v;refine⟨c,j,O,fun U=>⟨L,?_⟩⟩;subst U;unfold YO at j;obtain⟨_,j⟩:=Ib j BK;rw[(aSa hs).1,AQ]at j;obtain⟨_,j⟩:=Ib j BK;rw[(iJ (s:=e.aN) A8).1,AQ]at j;obtain⟨M,_⟩:=Ib (show(bif !((e.rP.Server.toList==(splitB e.aN (Iu e.aN)).2.1.toList)&&((e.rP.Sum==e.Id)&&true))then some 12 else some 0)=some (0:Int)from j) BK
   have Y:e.rP.Server=(splitB e.aN (Iu e.aN)).2.1:=by
    cases q:(e.rP.Server.toList==(splitB e.aN (Iu e.aN)).2.1.toList)with
    |true=>exact toList_inj (eq_of_beq q)
    |false=>rw[q]at M;cases M
   have Z:=(aj2 e.aN I).2.2;exact⟨hs.prev,hs.auth,hs.allow,hs.deny,hs.users,hs.kinds,hs.room,hs.sender,hs.key,hs.text,hs.via,by rw[Y];exact Z,hs.allows,hs.denies,hs.names⟩
  cases(!(jy e==e.Hash))with
  |true=>rw[BA,BA];exact key _
  |false=>rw[Ar,Ar];exact key _
def aJd {f g:(Int→Option Int)→Int→Option Int} (N lo:Nat) (hs:∀k k' (i:Nat),lo≤i→i<N→Bj (k ((i+1:Nat):Int)) (k' ((i+1:Nat):Int))→Bj (f k (i:Int)) (g k' (i:Int))) (z:∀k k',Bj (f k (N:Int)) (g k' (N:Int))):
 ∀n (i:Nat),lo≤i→i+n=N→∀m j,n<m→n<j→Bj (bn f m (i:Int)) (bn g j (i:Int)):=by
 intro n
 induction n with
 |zero=>
  intro i u hi m j I J;obtain⟨m,rfl⟩:∃q,m=q+1:=⟨m-1,A8⟩
  obtain⟨j,rfl⟩:∃q,j=q+1:=⟨j-1,A8⟩
  have :i=N:=A8
  subst this;exact z _ _
 |succ n L=>
  intro i u hi m j I J;obtain⟨m,rfl⟩:∃q,m=q+1:=⟨m-1,A8⟩
  obtain⟨j,rfl⟩:∃q,j=q+1:=⟨j-1,A8⟩
  exact hs _ _ i u A8 (L (i+1) A8 A8 m j A8 A8)
def lasts {R:Type} {body:(Int→Option R)→Int→Option R} {ok:R} (N:Nat) (U:N≤9223372036854775807) (P:Nat→Prop)
 (L:∀k (i:Nat),i<N→body k (i:Int)=some ok→P i∧k ((i+1:Nat):Int)=some ok) (q:Nat) (Y:q≤N) (h:bn body Ag (q:Int)=some ok):(∀i,q≤i→i<N→P i)∧∃k,body k (N:Int)=some ok:=by
 have key:∀n (i:Nat) m,i+n=N→n<m→bn body m (i:Int)=some ok→(∀j,i≤j→j<N→P j)∧∃k,body k (N:Int)=some ok:=by
  intro n
  induction n with
  |zero=>
   intro i m hi M z;obtain⟨m,rfl⟩:∃I,m=I+1:=⟨m-1,A8⟩
   have :i=N:=A8
   subst this;exact⟨fun j u J=>A8,_,z⟩
  |succ n O=>
   intro i m hi M z;obtain⟨m,rfl⟩:∃I,m=I+1:=⟨m-1,A8⟩
   obtain⟨a,b⟩:=L (bn body m) i A8 z;obtain⟨c,d⟩:=O (i+1) m A8 A8 b;refine⟨fun j u J=>?_,d⟩;rcases aN6 u with rfl|u
   ·exact a
   exact c j u J
 have Z:Ag=9223372036854775808:=rfl;exact key (N-q) q Ag A8 A8 h
def aOg {α:Type} {l:List α} {i:Nat} (h:i+1<l.length) (hl:l.length≤1000000):Af l (Ah (((i+1:Nat):Int)-1))=some l[i]:=by
 rw[show Ah (((i+1:Nat):Int)-1)=(i:Int) by rw[Z8];omega,Bf A8]
def arF {l:List AL} (J:∀e∈l,Ui e) (hl:l.length≤1000):Bj (Oa l) (XV l):=by
 by_cases z:l=[]
 ·subst z;exact⟨0,AA,AA⟩
 have m:0<l.length:=tX.2 z;have L:Ag=9223372036854775807+1:=rfl
 have M:Bj (wX l 1) (aKk l 1):=by
  unfold wX aKk;refine aJd l.length 1 (fun k k' i u hi q=>?_) (fun k k'=>?_) (l.length-1) 1 (Dc _) A8 Ag Ag A8 A8
  ·obtain⟨i,rfl⟩:∃j,i=j+1:=⟨i-1,A8⟩
   unfold aBC aLJ;rw[Bl hi,dec_lt hi,BA,aOg hi A8,AQ,AQ,Bf hi,AQ,wrap_succ (i+1) A8];show Bj (bif decide (l[i+1].Id≤l[i].Id)then some 8 else k _) (bif decide (l[i].Id≥l[i+1].Id)then some 8 else k' _);exact Bj.bif (fun _=>.ret _) fun _=>q
  unfold aBC aLJ;rw[CZ];exact .ret _
 have I:Af l 0=some l[0]:=Bf (i:=0) m
 have O:Bj (uS l 0) (aFl l 1):=by
  have U:∀k,XF l k 0=k 1:=fun k=>by
   unfold XF;rw[show decide ((0:Int)<(l.length:Int))=true by simpa using m,BA,I,AQ,AQ,Rn];rfl
  have Y:uS l 0=bn (XF l) 9223372036854775807 1:=by
   unfold uS;rw[L];exact U _
  rw[Y];unfold aFl;refine aJd l.length 1 (fun k k' i u hi q=>?_) (fun k k'=>?_) (l.length-1) 1 (Dc _) A8 _ Ag A8 A8
  ·unfold XF aHN;rw[Bl hi,Bl hi,I,AQ,AQ,wrap_succ i A8];exact Bj.bif (fun _=>.ret _) fun _=>q
  unfold XF aHN;rw[CZ];exact M
 unfold Oa XV;rw[Hr (show ¬(l.length:Int)>2000 by omega),Ar,Ar];unfold aFL aQS;refine aJd l.length 0 (fun k k' i _ hi q=>?_) (fun k k'=>?_) l.length 0 (Dc _) A8 Ag Ag A8 A8
 ·unfold oZ aFF;obtain⟨c,Z,c2,_⟩:=aa5 (J _ (E8 hi));rw[Bl hi,Bl hi,Z,c2,AQ,AQ,wrap_succ i A8];exact Bj.bif (fun _=>.ret _) fun _=>q
 unfold oZ aFF;rw[CZ];exact O
structure XP (l:List AL):Prop where
 ev:∀e∈l,lT e∧GV e
 room:∀x∈l,∀y∈l,x.Room=y.Room
 inc:Inc (l.map (·.Id))
def amR {f:Nat→Int}:∀(n i j:Nat),(∀k,i≤k→k<j→f k<f (k+1))→i+n=j→0<n→f i<f j:=by
 intro n
 induction n with
 |zero=>intro i j _ _ h;omega
 |succ n u=>
  intro i j h m _;rcases Xv n with q|q
  ·subst q;rw[←m];exact h i (Dc _) A8
  have a:=h i (Dc _) A8;have b:=u (i+1) j (fun k I z=>h k A8 z) A8 q;omega
def atF {l:List AL} (hw:∀e∈l,Ui e) (hl:l.length≤1000) (h:Oa l=some 0):XP l:=by
 unfold Oa at h;rw[Hr (show ¬(l.length:Int)>2000 by omega),Ar]at h;unfold aFL at h
 obtain⟨p1,k1,h⟩:=lasts l.length A8 (fun i=>∀x,l[i]? =some x→lT x∧GV x) (fun k i hi m=>by
  unfold oZ at m;obtain⟨c,c1,_,c3⟩:=aa5 (hw _ (E8 hi));rw[Bl hi,c1,AQ,wrap_succ i A8]at m;obtain⟨e,m⟩:=Rw m
  exact⟨fun x u=>by rw[Ce hi]at u;obtain rfl:=CG u;exact c3 e,m⟩) 0 (EK _) h
 unfold oZ at h;rw[CZ,Ar]at h;unfold uS at h
 obtain⟨p2,k2,h⟩:=lasts l.length A8 (fun i=>∀x y,l[i]? =some x→l[0]? =some y→x.Room=y.Room) (fun k i hi m=>by
  unfold XF at m;have g0:Af l 0=some l[0]:=Bf (i:=0) A8;rw[Bl hi,g0,AQ,wrap_succ i A8]at m;obtain⟨e,m⟩:=Ib m BK;refine⟨fun x y u I=>?_,m⟩;rw[Ce hi]at u;rw[Ce A8]at I;obtain rfl:=CG u;obtain rfl:=CG I
  exact toList_inj QK) 0 (EK _) h
 unfold XF at h;rw[CZ,Ar]at h;refine⟨su p1,fun x u y I=>?_,?_⟩
 ·have key:∀x∈l,∀y,l[0]? =some y→x.Room=y.Room:=su fun i hi L x u y I=>p2 i hi L x y u I;have h0:0<l.length:=List.length_pos_of_mem u;have U:l[0]? =some l[0]:=Ce h0;rw[key x u _ U,key y I _ U]
 by_cases Y:l=[]
 ·subst Y;exact .nil
 have J:0<l.length:=tX.2 Y;unfold wX at h
 obtain⟨p3,_⟩:=lasts l.length A8 (fun i=>∀j x y,i=j+1→l[i]? =some x→l[j]? =some y→y.Id<x.Id) (fun k i hi m=>by
  unfold aBC at m;rw[Bl hi]at m;obtain⟨z,Z,m⟩:=DI m;obtain⟨e,m⟩:=Ib m BK;rw[wrap_succ i A8]at m;refine⟨fun j x y M u I=>?_,m⟩;subst M;rw[aOg hi A8]at Z;rw[Ce hi]at u;rw[Ce A8]at I;obtain rfl:=CG u;obtain rfl:=CG I;obtain rfl:=CG Z
  have :=Ir e;omega) 1 J h
 rw[Inc,aLm,KH];intro i j hi M hij
 have :=amR (f:=fun q=>(l.getD q Ej).Id) (j-i) i j (fun k h1 h2=>by
  have O:k+1<l.length:=A8
  have :=p3 (k+1) A8 O k l[k+1] l[k] rfl (Ce O) (Ce A8)
  simpa[List.getD,Ce O,Ce (show k<l.length by omega)]using this) A8 A8
 simpa[List.getD,Ce hi,Ce M]using this
def XP.ok {l:List AL} (h:XP l) (hl:l.length≤100):RN l:=⟨hl,fun e j=>(h.ev e j).2,UZ h.inc,fun e j=>(h.ev e j).1.depth⟩
def aib {l:List AL} (j:∀e∈l,Ui e) (hl:l.length≤100):∃c,Oa l=some c∧XV l=some c∧(c=0→XP l):=by
 obtain⟨c,m,q⟩:=arF j A8;exact⟨c,m,q,fun h=>atF j A8 (by rw[m,h])⟩
structure atQ (l k:List AL):Prop where
 len:k.length=l.length
 at_:∀i (h:i<l.length) (h':i<k.length),k[i]=l[i]∨k[i]=qC l[i]
structure atS (l k:List AL):Prop where
 ref:XV k=some 0
 prog:Oa k=some 0
 facts:XP k
 deep:Rh k=0
 ids:k.map (·.Id)=l.map (·.Id)
 agr:G9 l k (l.map (·.Id))
def Jr (x:Cx):IZ:=⟨x.id,x.before,x.after,x.err⟩
def WT (t:List Cx) (x:Int):IZ×Bool:=match F7 t x with
 |some y=>(Jr y,true)
 |none=>(iG,false)
def ahz (t:List Cx) (x:Int):(WT t x).1.After=L9 t x:=by unfold WT L9;cases F7 t x<;>rfl
def ak1 (t:List Cx) (x:Int):(WT t x).1.Err=errOf t x:=by unfold WT errOf;cases F7 t x<;>rfl
def aO0 (t:List Cx) (x:Int) (O:t.length≤1000000):aMq (t.map Jr) x=some (WT t x):=by
 unfold aMq aes;have J:(t.map Jr).length=t.length:=C9 ..;refine dQ.eq (Xh (body:=aLM (t.map Jr) x) (Q:=(· =WT t x)) (fun n a _=>∃i:Nat,a=i∧i+n=t.length∧∀j,(m:j<i)→(hl:j<t.length)→¬(t[j].id==x)=true) ?_ Ag t.length 0 _ (fuel_lt A8) ⟨0,rfl,A8,fun j m=>A8⟩);rintro n a b k ⟨i,rfl,U,u⟩ L;unfold aLM;by_cases hi:i<t.length
 ·have q:i<(t.map Jr).length:=A8
  rw[Bl q,Bf q,AQ,Po];show dQ (bif t[i].id==x then some (Jr t[i],true)else k _ b) _;cases I:t[i].id==x with
  |true=>
   have z:F7 t x=some t[i]:=by
    unfold F7;rw[List.find?_eq_some_iff_getElem];exact⟨I,i,hi,rfl,fun j m=>by have :=u j m A8;simpa using this⟩
   exact .ret (by unfold WT;rw[z])
  |false=>
   refine L (n-1) _ _ A8 ⟨i+1,wrap_succ i A8,A8,fun j m hl=>?_⟩;by_cases e:j=i
   ·subst e;rw[I];simp
   exact u j A8 hl
 have :i=t.length:=A8
 subst this;rw[←J,CZ]
 have z:F7 t x=none:=by
  unfold F7;rw[vY];intro y M;obtain⟨j,m,rfl⟩:=Hf M;exact u j m m
 exact .ret (by unfold WT;rw[z])
def aQu (t:List IZ) (x:Int):aMg t x=aMq t x:=rfl
def aqP (l:List AL) (t:List Cx) (e:AL) (s:List Ai) (hl:l.length≤100) (hs:D9 l) (u:GV e) (L:s.length≤100) (Y:t.length≤1000):aAB l (t.map Jr) e s=some (Ju l t e s):=by
 have Z:=u.auth;have h2:=Zu l s
 have z:∀v,aD2 e (t.map Jr) l s v=some (bif v != 0 then v else bif e.bf.any (fun x=>errOf t x != 0)then 16 else Ls e (FK l s)):=fun v=>by
  unfold aD2 aRw
  refine dQ.eq (KX e.bf.length (fuel_lt A8) (fun i a=>a=bif v != 0 then v else bif (e.bf.take i).any (fun x=>errOf t x != 0)then 16 else 0) (by cases m:v != 0 with
   |true=>rfl
   |false=>exact Xp) (fun i a k hi ha I=>?_) fun a k ha=>?_)
  ·unfold aIg aGp;rw[Bl hi,aQu,aO0 _ _ A8,AQ,ak1,wrap_succ i A8];have M:(bif a==0 then some (errOf t e.bf[i] != 0)else some false)=some (a==0&&errOf t e.bf[i] != 0):=by cases a==0<;>rfl
   rw[M,AQ]
   have j:∀b:Int,b=(bif a==0&&errOf t e.bf[i] != 0 then 16 else a)→b=bif v != 0 then v else bif (e.bf.take (i+1)).any (fun x=>errOf t x != 0)then 16 else 0:=fun b O=>by
    rw[aFD hi,O,ha];cases m:v != 0 with
    |true=>
     have :(v==0)=false:=Xp
     simp only[BA,this,Bool.false_and,Ar]
    |false=>
     simp only[Ar];cases(e.bf.take i).any (fun x=>errOf t x != 0)<;>cases errOf t e.bf[i] != 0<;>rfl
   cases J:(a==0&&errOf t e.bf[i] != 0)with
   |true=>exact I _ (j 16 (by rw[J];rfl))
   |false=>exact I _ (j a (by rw[J];rfl))
  unfold aIg;rw[CZ,Ar,ha,GY,aru l s hl A8,AQ,aJ9 e (FK l s) A8 (aEL hs _) u];cases m:v != 0 with
  |true=>simp only[BA,m];exact .ret rfl
  |false=>
   cases e.bf.any (fun x=>errOf t x != 0)with
   |true=>exact .ret rfl
   |false=>exact .ret rfl
 unfold aAB Ju WR;rw[arC l e hl u,AQ,acW l e A8 A8,AQ,aJ9 e _ (EZ (xU l e) A8) (hs.from e) u,AQ,z,z];have q:(Oo l e != 0)= !(Oo l e==0):=rfl;rw[q];cases U:Oo l e==0 with
 |true=>rfl
 |false=>rw[I4,BA,BA,q,U];rfl
def aFH (l:List AL):∀(ids:List Int) (t:List Cx),(ids.foldl (fun t id=>t++[Js l t (ev l id)]) t).length=t.length+ids.length
 | [],t=>rfl
 |x::ids,t=>by rw[El,aFH l ids,Dk,FC];simp;omega
def ahs {l:List AL} (h:RN l):aJz l=some ((Jt l).map Jr):=by
 have hl:=h.len;have hs:=h.small;have L:=aJm l;unfold aJz;rw[aou l A8,AQ];unfold Jt;generalize OX l=ids at L;unfold aO2;refine dQ.eq (KX ids.length (fuel_lt A8) (fun i a=>a=(La l (ids.take i)).map Jr) rfl (fun i a k hi ha hk=>?_) fun a k ha=>?_)
 ·have M:JK l (La l (ids.take i)):=yX hl hs _ _ fun y O=>absurd O Ef
  have U:(La l (ids.take i)).length≤100:=by
   have :=aFH l (ids.take i) [];unfold La;rw[this,FI,Kr];omega
  have m:=aaf l hi;have he:=zs hs ids[i];have Y:=he.prev;generalize La l (ids.take i)=t at ha M U m;subst ha;unfold aHl;rw[Bl hi,Le l _ A8,AQ];have z:(GH l ids[i]).1=ev l ids[i]:=rfl;unfold aaz;refine UQ (body:=aLg (GH l ids[i]) l k (i:Int)) (Q:=_) (fun n a b c=>∃j:Nat,b=j∧j+n=(ev l ids[i]).bF.length∧c=t.map Jr∧a=((ev l ids[i]).bF.take j).map (L9 t)) ?_ Ag (ev l ids[i]).bF.length [] 0 (t.map Jr) (fuel_lt A8) ⟨0,rfl,A8,rfl,rfl⟩;rintro n a b c k2 ⟨j,rfl,hn,rfl,ha⟩ Z;unfold aLg;rw[z];by_cases hj:j<(ev l ids[i]).bF.length
  ·have hal:a.length≤j:=aEc
   rw[Bl hj,aQu,aO0 _ _ A8,AQ,ahz,D5 FW,AQ,wrap_succ j A8];exact Z (n-1) _ _ _ A8 ⟨j+1,rfl,A8,rfl,by rw[map_take hj,ha]⟩
  have :j=(ev l ids[i]).bF.length:=A8
  subst this;rw[GY]at ha;subst ha;rw[CZ,Ar];have hp:=M.stB hl hs Y;have I:=hp.length
  have hJ:dQ (aAj l (GH l ids[i]) k (i:Int) (t.map Jr) ⟨(ev l ids[i]).Id,stB l t (ev l ids[i]),[],0⟩) (fun x=>x=(La l ids).map Jr):=by
   unfold aAj;rw[z];show dQ ((aAB l (t.map Jr) (ev l ids[i]) (stB l t (ev l ids[i]))).bind _) _;rw[aqP l t (ev l ids[i]) _ hl hs he A8 A8,AQ];have q:Js l t (ev l ids[i])=WO (ev l ids[i]) (stB l t (ev l ids[i])) (Ju l t (ev l ids[i]) (stB l t (ev l ids[i]))):=rfl;rw[q]at m;generalize Ju l t (ev l ids[i]) (stB l t (ev l ids[i]))=r at m;generalize stB l t (ev l ids[i])=s at m I
   have J:∀y:Cx,y=WO (ev l ids[i]) s r→dQ (aAX k (i:Int) (t.map Jr) (Jr y)) (fun x=>x=(La l ids).map Jr):=fun y O=>by
    unfold aAX;rw[D5 (by simp only[MS,C9];omega),AQ,wrap_succ i A8];exact hk _ (by rw[m,O,Ip];rfl)
   show dQ ((bif r==0 then(TU (ev l ids[i]).Kind).bind fun u=>some u else some false).bind _) _;rw[wM,show(bif r==0 then(some (GX (ev l ids[i]).Kind)).bind fun u=>some u else some false)=some (r==0&&GX (ev l ids[i]).Kind) by cases r==0<;>rfl,AQ];cases hc:(r==0&&GX (ev l ids[i]).Kind)with
   |true=>
    rw[BA];show dQ ((fQ s (ev l ids[i]).Kind (ev l ids[i]).Key (ev l ids[i]).Id).bind _) _;rw[aKG _ _ _ _ A8,AQ];exact J ⟨(ev l ids[i]).Id,s,Ew s (ev l ids[i]).Kind (ev l ids[i]).Key (ev l ids[i]).Id,r⟩ (by unfold WO;rw[hc];rfl)
   |false=>
    rw[Ar];exact J ⟨(ev l ids[i]).Id,s,s,r⟩ (by unfold WO;rw[hc];rfl)
  by_cases hz:(ev l ids[i]).bF=[]
  ·have hst:stB l t (ev l ids[i])=[]:=by unfold stB;rw[hz];rfl
   rw[hst]at hJ;rw[hz];exact hJ
  have hpos:0<(ev l ids[i]).bF.length:=tX.2 hz;rw[Ht Xi,BA,alk (M.okay hl hs _ A8),AQ];exact hJ
 unfold aHl;rw[CZ];exact .ret nC
def aiF {l:List AL} {c:Int} (q:XV l=some c) (h:c=0→RN l):aJW l=some ((F8 l c).map Jr)∧JK l (F8 l c)∧(F8 l c).length≤l.length:=by
 unfold aJW aP1 F8;rw[q,AQ];cases u:c==0 with
 |false=>exact⟨rfl,fun y m=>absurd m Ef,EK _⟩
 |true=>
  have j:=h (eq_of_beq u);have hlen:(Jt l).length=l.length:=by rw[←aJm l];have :=aFH l (OX l) [];simpa[Jt,La]using this
  rw[BA,aps l j.len j.small j.dep,AQ,AQ,AQ,FT];cases hd:Rh l==0 with
  |false=>exact⟨rfl,fun y m=>absurd m Ef,EK _⟩
  |true=>
   rw[Dv,Ar,ahs j,AQ,BA];exact⟨rfl,am4 j,ZB hlen⟩
def Hq (t:List Cx) (x:Int):List Ai×Int:=match F7 t x with
 |some y=>(y.before,bif y.err != 0 then 2 else 4)
 |none=>([],0)
section
variable {l : List AL} {c : Int}
def asD (q:Oa l=some c) (h:c=0→RN l) (id:Int):Us l id=some (Hq (F8 l c) id):=by
 unfold Us;refine dQ.eq ((run_eq l q h).bind fun o u=>?_);rcases u with⟨j,rfl⟩|⟨j,_,T,rfl,m⟩
 ·rw[j];exact .ret rfl
 rw[j];simp only[jC];unfold aIG aEt Hq;rw[m.r,m.b];cases F7 (Jt l) id with
 |none=>exact .ret rfl
 |some y=>
  show dQ ((bif y.err != 0 then some 2 else some 4).bind fun z=>some (y.before,z)) (fun r=>r=(y.before,bif y.err != 0 then 2 else 4));cases y.err != 0<;>exact .ret rfl
def aot (q:Oa l=some c) (h:c=0→RN l):uy l=some (PN l (F8 l c)):=by
 unfold uy;refine dQ.eq ((run_eq l q h).bind fun o j=>?_);rcases j with⟨m,rfl⟩|⟨m,j,T,rfl,u⟩
 ·rw[m,apJ];exact .ret rfl
 rw[m];show dQ ((uq T.1 T.2.1 T.2.2 l).bind _) _;rw[anU u j.len];exact .ret rfl
end
def arn {l:List AL} {t:List Cx} (h:JK l t) {x:Int} {y:Cx} (j:F7 t x=some y):IB l y.before∧IB l y.after:=h y (Qh j)
def Ov (l:List AL) (s:List Ai) (j:AL):Int:=
 bif !(j.Kind==14)then 1 else bif !cZ l j.Content.Target then 5 else bif !(Gy (FK l s) j.aN==3)then 18 else
 bif !decide (j.aN=(ev l j.Content.Target).aN)&&decide (DY (EH (FK l s)) j.aN<(EH (FK l s)).eU)then 20 else 0
def VW (l:List AL) (t:List Cx) (e:AL):Bool:=I8 t e.Id&&(e.Kind==14&&Ov l (Hq t e.Id).1 e==0)
def Nv (l:List AL) (t:List Cx):List AL:=l.filter (VW l t)
def bM (l:List AL) (t:List Cx):List AL:=(Wu l).filter (VW l t)
def Yt (l:List AL):List Int:=l.map (·.Content.Target)
def H6 (l:List AL) (t:List Cx):List Int:=EX (Yt (Nv l t))
def aDP (g:List Int) (e:AL):AL:=bif CY g e.Id then qC e else e
def U8 (l:List AL) (t:List Cx) (id:Int):Option AL:=(bM l t).find? fun e=>e.Content.Target==id
def aPO {l:List AL} {t:List Cx} {x:Int}:x∈H6 l t↔∃e∈l,VW l t e=true∧e.Content.Target=x:=by
 unfold H6 Yt Nv;rw[Jh,FH];exact⟨fun⟨e,j,h⟩=>⟨e,(ET.1 j).1,(ET.1 j).2,h⟩,fun⟨e,m,q,u⟩=>⟨e,ET.2 ⟨m,q⟩,u⟩⟩
def aLb (l:List AL) (t:List Cx):(Nv l t).length≤l.length:=JD ..
def aNr (l:List AL) (e:AL):VW l [] e=false:=by unfold VW I8 F7;rfl
def aaN (l:List AL):Nv l []=[]:=Yz.2 fun e _=>by rw[aNr];decide
def agf (l:List AL):bM l []=[]:=Yz.2 fun e _=>by rw[aNr];decide
def ajz (l:List AL):H6 l []=[]:=by unfold H6;rw[aaN];rfl
def Ol (id:Int) (b:Option AL) (e:AL):Option AL:=bif e.Content.Target==id&&(match b with |none=>true|some y=>Gp e y)then some e else b
def ado (id:Int) (b:Option AL) (e:AL):(Ol id b e=some e∧e.Content.Target=id∧∀y,b=some y→Gp e y=true)∨(Ol id b e=b∧(e.Content.Target=id→∃y,b=some y∧Gp e y=false)):=by
 unfold Ol;cases j:e.Content.Target==id with
 |false=>exact .inr ⟨rfl,fun h=>by rw[h,Rn]at j;cases j⟩
 |true=>
  have j:=eq_of_beq j;cases b with
  |none=>exact .inl ⟨rfl,j,fun y h=>Fr⟩
  |some y=>
   simp only[FT];cases hl:Gp e y with
   |true=>exact .inl ⟨rfl,j,fun z h=>by rw[←CG h];exact hl⟩
   |false=>exact .inr ⟨rfl,fun _=>⟨y,rfl,hl⟩⟩
def asx {a b c:AL} (j:Gp b a=false) (m:Gp c b=false):Gp c a=false:=by rw[mX]at *;omega
def aJv {a b:AL} (h:Gp a b=true):Gp b a=false:=by
 rw[mX];unfold Gp at h;rw[YB,CV,Fb,Fb,PZ]at h;omega
def Least (id:Int) (xs:List AL) (b:Option AL):Prop:=(∀y,b=some y→y∈xs∧y.Content.Target=id)∧∀e∈xs,e.Content.Target=id→∃y,b=some y∧Gp e y=false
def aQ0 (id:Int):∀(xs j:List AL) (b:Option AL),Least id j b→Least id (j++xs) (xs.foldl (Ol id) b)
 | [],j,b,h=>by rw[PG];exact h
 |x::xs,j,b,h=>by
  rw[El,show j++x::xs=(j++[x])++xs by simp];refine aQ0 id xs (j++[x]) _ ⟨fun y m=>?_,fun e q z=>?_⟩
  ·rcases ado id b x with⟨u,I,_⟩|⟨u,_⟩
   ·rw[u]at m;obtain rfl:=CG m;exact⟨Fz.2 (.inr (GZ.2 rfl)),I⟩
   rw[u]at m;exact⟨Fz.2 (.inl (h.1 y m).1),(h.1 y m).2⟩
  rcases ado id b x with⟨u,_,J⟩|⟨u,I⟩
  ·refine⟨x,u,?_⟩;rcases Fz.1 q with q|q
   ·obtain⟨y,m,hl⟩:=h.2 e q z;exact asx (aJv (J y m)) hl
   rw[GZ.1 q];cases hl:Gp x x with
   |false=>rfl
   |true=>have :=aJv hl;rw[hl]at this;cases this
  rcases Fz.1 q with q|q
  ·obtain⟨y,m,hl⟩:=h.2 e q z;exact⟨y,by rw[u];exact m,hl⟩
  rw[GZ.1 q]at z ⊢;obtain⟨y,m,hl⟩:=I z;exact⟨y,by rw[u];exact m,hl⟩
def aQ6 (id:Int):∀(xs:List AL),xs.Pairwise (fun a b=>Gp b a=false)→Least id xs (xs.find? fun e=>e.Content.Target==id)
 | [],_=>⟨fun y h=>Fr,fun e h=>absurd h Ef⟩
 |x::xs,I=>by
  obtain⟨J,L⟩:=O7.1 I;obtain⟨z,M⟩:=aQ6 id xs L;rw[Qz];cases u:x.Content.Target==id with
  |true=>
   refine⟨fun y q=>?_,fun e j m=>⟨x,rfl,?_⟩⟩
   ·obtain rfl:=CG q;exact⟨Ec ..,eq_of_beq u⟩
   rcases EO.1 j with rfl|j
   ·cases hl:Gp e e with
    |false=>rfl
    |true=>have :=aJv hl;rw[hl]at this;cases this
   exact J e j
  |false=>
   refine⟨fun y q=>⟨Ez _ (z y q).1,(z y q).2⟩,fun e j m=>?_⟩;rcases EO.1 j with rfl|j
   ·rw[m,Rn]at u;cases u
   exact M e j m
def asP {id:Int} {xs ys:List AL} {a b:Option AL} (j:∀e,e∈xs↔e∈ys) (q:∀x∈xs,∀y∈xs,x.Id=y.Id→x=y) (ha:Least id xs a) (u:Least id ys b):a=b:=by
 cases a with
 |none=>
  cases b with
  |none=>rfl
  |some y=>
   obtain⟨m,I⟩:=u.1 y rfl;obtain⟨z,J,_⟩:=ha.2 y ((j y).2 m) I;cases J
 |some x=>
  obtain⟨m,I⟩:=ha.1 x rfl;obtain⟨y,U,L⟩:=u.2 x ((j x).1 m) I;subst U;obtain⟨O,Y⟩:=u.1 y rfl;obtain⟨z,J,M⟩:=ha.2 y ((j y).2 O) Y;obtain rfl:=CG J;rw[mX]at L M;rw[q x m y ((j y).2 O) A8]
def amG {l:List AL} (j:(l.map (·.Id)).Nodup) (t:List Cx) (id:Int):(Nv l t).foldl (Ol id) none=U8 l t id:=by
 have m:=aQ0 id (Nv l t) [] none ⟨fun y h=>Fr,fun e h=>absurd h Ef⟩;rw[Hd]at m;refine asP (ys:=bM l t) (fun e=>?_) (fun x q y u e=>?_) m (aQ6 id _ ((ahf l).sublist Qx))
 ·unfold Nv bM;rw[ET,ET,(pK l).mem_iff]
 rw[←aDN j (ET.1 q).1,←aDN j (ET.1 u).1,e]
def aoa {l:List AL} {t:List Cx} {id:Int} {e:AL} (h:U8 l t id=some e):e∈l∧VW l t e=true∧e.Content.Target=id:=by
 unfold U8 bM at h;have j:=Qh h;obtain⟨m,q⟩:=ET.1 j;exact⟨(pK l).mem_iff.1 m,q,by have :=aH h;simpa using this⟩
def anh {l:List AL} {t:List Cx} {id:Int}:(U8 l t id).isSome=true↔id∈H6 l t:=by
 rw[aPO];unfold U8 bM;rw[List.find?_isSome];constructor
 ·rintro⟨e,j,h⟩;obtain⟨m,q⟩:=ET.1 j;exact⟨e,(pK l).mem_iff.1 m,q,JU⟩
 rintro⟨e,j,m,q⟩;exact⟨e,ET.2 ⟨(pK l).mem_iff.2 j,m⟩,MV⟩
def ac6 {l:List AL} {t:List Cx} {e:AL} (h:VW l t e=true):I8 t e.Id=true∧e.Kind=14∧Ov l (Hq t e.Id).1 e=0:=by
 unfold VW at h;simp only[CV,PZ]at h;exact⟨h.1,h.2.1,h.2.2⟩
def aag {l:List AL} {s:List Ai} {e:AL} (h:Ov l s e=0):cZ l e.Content.Target=true∧Gy (FK l s) e.aN=3∧(e.aN≠(ev l e.Content.Target).aN→¬DY (EH (FK l s)) e.aN<(EH (FK l s)).eU):=by
 unfold Ov at h;cases u: !(e.Kind==14)with
 |true=>rw[u]at h;cases h
 |false=>
  rw[u,Ar]at h;cases z:cZ l e.Content.Target with
  |false=>rw[z]at h;cases h
  |true=>
   rw[z,Dv,Ar]at h;cases j: !(Gy (FK l s) e.aN==3)with
   |true=>rw[j]at h;cases h
   |false=>
    rw[j,Ar]at h;refine⟨rfl,MK,fun m q=>?_⟩;rw[Hr m,Ht q]at h;cases h
def anP {l:List AL} {t:List Cx} {x:Int} (h:x∈H6 l t):cZ l x=true:=by
 obtain⟨e,_,j,rfl⟩:=aPO.1 h;exact(aag (ac6 j).2.2).1
structure atT (l k:List AL):Prop where
 prog:Oa k=some 0
 facts:XP k
 deep:Rh k=0
 agr:G9 k l (k.map (·.Id))
def aiY {α:Type} {v:List α} {i:Nat} {x:α} (h:v[i]? =some x):v.set i x=v:=by
 apply Yl;intro j;rw[aJE];split
 ·rename_i e;subst e;split
  ·rw[h]
  rename_i q;rw[Gu A8]
 rfl
def aiR {R α:Type} (q:Nat→Int→List α→Option R) (l:List α) (f:α→α) (j:List α→Option R) (hl:l.length≤1099511627776)
 (M:∀m (i:Nat) v (h:i<l.length),v.length=l.length→v[i]? =some l[i]→q (m+1) (i:Int) v=q m (Ah ((i:Int)+1)) (v.set i (f l[i])))
 (O:∀m v,v.length=l.length→q (m+1) (l.length:Int) v=j v):q Ag 0 l=j (l.map f):=by
 have key:∀n (i:Nat) (v:List α),i+n=l.length→v=(l.take i).map f++l.drop i→∀m,n<m→q m (i:Int) v=j (l.map f):=by
  intro n
  induction n with
  |zero=>
   intro i v hi z m U;obtain⟨m,rfl⟩:∃k,m=k+1:=⟨m-1,A8⟩
   have I:i=l.length:=A8
   subst I;have e:v=l.map f:=by rw[z];simp
   rw[O m v (by rw[e];simp),e]
  |succ n Y=>
   intro i v hi z m U;obtain⟨m,rfl⟩:∃k,m=k+1:=⟨m-1,A8⟩
   have h:i<l.length:=A8
   have J:((l.take i).map f).length=i:=DK
   have L:v=(l.take i).map f++l[i]::l.drop (i+1):=by rw[z,Jp h]
   have hlen:v.length=l.length:=by rw[z];simp;omega
   have u:v[i]? =some l[i]:=by rw[L,J3 A8,J];simp
   rw[M m i v h hlen u,wrap_succ i A8];refine Y (i+1) _ A8 ?_ m A8;rw[L,List.set_append_right _ _ A8,J,Nat.sub_self,List.set_cons_zero,Oj h,Ip,Gq];rfl
 exact key l.length 0 l A8 Am Ag (fuel_lt hl)
end Go.Proofs.YtkkdimcnpacjhaaGreat
end
section
namespace Go.Proofs.YtkkdimcnpacjhaaGreat
open Go.RowKit
set_option maxRecDepth 20000
set_option maxHeartbeats 1000000
def aRG :aCu=some true:=AA
def aqB (l:List AL) (s:List Ai) (u:ByteArray):Gy (FK l s) u=match s.find? (fun x=>(DT l x.Id).any (Hz u))with |some x=>(ev l x.Id).Content.N|none=>0:=by
 unfold Gy FK ofIds;rw[List.find?_filterMap,List.find?_map];have e:((fun a=>(DT l a).any (Hz u))∘fun x:Ai=>x.Id)=fun x=>(DT l x.Id).any (Hz u):=rfl;rw[e];cases m:s.find? fun x=>(DT l x.Id).any (Hz u)with
 |none=>rfl
 |some x=>
  have h:=aH m;simp only[Ho,AQ];cases j:DT l x.Id with
  |none=>rw[j]at h;cases h
  |some y=>unfold ev;rw[KT j]
def aqe (l:List AL) (x:Ai) (u:ByteArray) (k:Int→Option Int) (v:Int) (hl:l.length≤1000):aKx l x u k v 0=bif (DT l x.Id).any (Hz u)then some (ev l x.Id).Content.N else bK k v:=by
 unfold aKx;rw[Ie l (fuel_lt A8) (fun e=>e.Id==x.Id) (fun i=>match l[i]? with |some e=>(bif Hz u e then some e.Content.N else bK k v)|none=>none) (bK k v)]
 ·by_cases h:l.findIdx (fun e=>e.Id==x.Id)<l.length
  ·have j:DT l x.Id=some l[l.findIdx (fun e=>e.Id==x.Id)]:=by unfold DT;rw[Ih,Ce h]
   rw[CJ h,Ce h];unfold ev;rw[KT j,j];rfl
  have j:DT l x.Id=none:=by unfold DT;rw[Ih,Gu A8]
  rw[CU h,j];rfl
 ·intro k i h;unfold aL7;rw[Bl h,Bf h,Ce h];simp only[AQ];rw[kQ,AQ];unfold bne;cases l[i].Id==x.Id<;>rfl
 intro k;unfold aL7;rw[CZ];rfl
def ace (l:List AL) (s:List Ai) (u:ByteArray) (hl:l.length≤1000) (hs:s.length≤1000):Y1 l s u=some (Gy (FK l s) u):=by
 rw[aqB];unfold Y1 acE;rw[Ie s (fuel_lt A8) (fun x=>(DT l x.Id).any (Hz u)) (fun i=>some (match s[i]? with |some x=>(ev l x.Id).Content.N|none=>0)) (some 0)]
 ·rw[Ih];by_cases h:s.findIdx (fun x=>(DT l x.Id).any (Hz u))<s.length
  ·rw[CJ h]
  rw[CU h,Gu A8]
 ·intro k i h;unfold aGl;rw[Bl h,aqe _ _ _ _ _ hl,Ce h];rfl
 intro k;unfold aGl;rw[CZ];rfl
section
variable {l : List AL} {s : List Ai} (hl : l.length ≤ 100) (hsm : D9 l) (hs : s.length ≤ 100)
include hl hsm hs
def akB {j:AL} {st:Int} (q:Us l j.Id=some (s,st)):Vz l j=some (Ov l s j):=by
 have z:=Zu l s;have m:D9 (FK l s):=aEL hsm _;have I:=(zh m).users;unfold Vz Ov;show(bif !(j.Kind==14)then _ else _)=_;cases j.Kind==14 with
 |false=>rfl
 |true=>
  have u:(GH l j.Content.Target).2=cZ l j.Content.Target:=Nq ..;rw[Dv,Ar,Ar,L8 l _ A8,AQ,u];cases cZ l j.Content.Target with
  |false=>rfl
  |true=>
   rw[Dv,Ar,Ar,q,AQ];show(Y1 l s j.aN).bind _=_;rw[ace l s _ A8 A8,AQ];show(bif !(Gy (FK l s) j.aN==3)then _ else _)=_;cases Gy (FK l s) j.aN==3 with
   |false=>rfl
   |true=>
    rw[Dv,Ar,Ar];show(ZR l s).bind _=_;rw[aKq l s hl A8,AQ,oU _ A8 m,AQ,HY];show(bif !decide (j.aN=(ev l j.Content.Target).aN)then _ else _)=_;cases decide (j.aN=(ev l j.Content.Target).aN)with
    |true=>rfl
    |false=>
     rw[I4,BA];show(Nj (EH (FK l s)) j.aN).bind _=_;rw[VP _ _ A8,AQ];unfold aBs;show(bif decide (DY (EH (FK l s)) j.aN<(EH (FK l s)).eU)then _ else _)=_;cases decide (DY (EH (FK l s)) j.aN<(EH (FK l s)).eU)<;>rfl
end
structure RQ (l:List AL) (t:List Cx):Prop where
 len:l.length≤100
 small:D9 l
 at_:∀id,Us l id=some (Hq t id)
 acc:uy l=some (PN l t)
 tbl:aJW l=some (t.map Jr)
 tok:JK l t
 aDJ:t.length≤l.length
 nd:t≠[]→(l.map (·.Id)).Nodup
def alI {l:List AL} {c:Int} (hs:D9 l) (hl:l.length≤100) (u:Oa l=some c) (z:XV l=some c) (I:c=0→XP l):RQ l (F8 l c):=by
 have j:c=0→RN l:=fun m=>(I m).ok hl;obtain⟨J,L,M⟩:=aiF z j;refine⟨hl,hs,asD u j,aot u j,J,L,M,fun q=>?_⟩;unfold F8 at q;by_cases m:c=0
 ·exact(j m).nodup
 rw[ZK.2 m]at q;exact absurd rfl q
def aqV {l:List AL} (hs:D9 l) (hl:l.length≤100):∃c,RQ l (F8 l c)∧Oa l=some c∧XV l=some c∧(c=0→XP l):=by
 obtain⟨c,j,m,q⟩:=aib (fun e u=>(hs e u).wide) hl;exact⟨c,alI hs hl j m q,j,m,q⟩
def atN {l:List AL} {t:List Cx} (h:JK l t) (x:Int):IB l (Hq t x).1:=by
 unfold Hq;cases j:F7 t x with
 |none=>exact .nil l
 |some y=>exact(arn h j).1
def LY (e:AL):NC:=⟨e.Depth,e.Id,e.Content.Target⟩
def ar5 (a b:AL):YS (LY a) (LY b)=some (Gp a b):=by
 unfold YS Gp LY;cases decide (a.Depth<b.Depth)<;>cases(a.Depth==b.Depth)<;>rfl
def wR (id:Int) (b:Option AL) (e:AL):Bool:=e.Content.Target==id&&(match b with |none=>true|some y=>Gp e y)
def aNL (b:Option AL):Int×Bool:=match b with
 |some e=>(e.Id,true)
 |none=>(0,false)
section
variable {l : List AL} {t : List Cx} (h : RQ l t)
include h
def RQ.at_len (x:Int):(Hq t x).1.length≤100:=by have :=(atN h.tok x).length;have :=h.len;omega
def RQ.may (j:AL):Vz l j=some (Ov l (Hq t j.Id).1 j):=akB h.len h.small (h.at_len _) (st:=(Hq t j.Id).2) (h.at_ _)
def RQ.known {e:AL} (j:e∈l) (m:I8 t e.Id=true):GH l e.Id=(e,true):=by
 have u:=h.nd (fun z=>by rw[z]at m;cases m);have I:cZ l e.Id=true:=XM.2 (FH.2 ⟨e,j,rfl⟩);have q:=(Jb I).1;rw[aDN u j]at q;exact KT q
def RQ.effective:jO l=some ((Nv l t).map LY):=by
 have hlen:=h.len;unfold jO;rw[h.acc,AQ];unfold PN adP;have M:(l.filter fun e=>I8 t e.Id).length≤l.length:=JD ..
 have hE:Nv l t=(l.filter fun e=>I8 t e.Id).filter fun e=>e.Kind==14&&Ov l (Hq t e.Id).1 e==0:=by
  unfold Nv;rw[List.filter_filter];congr 1;funext e;unfold VW;rw[Bool.and_comm]
 have u:∀x∈l.filter (fun e=>I8 t e.Id),GH l x.Id=(x,true):=fun x z=>h.known (ET.1 z).1 (ET.1 z).2;rw[hE];generalize(l.filter fun e=>I8 t e.Id)=X at M u;have m:(X.map (·.Id)).length=X.length:=C9 ..;refine dQ.eq (KX (X.map (·.Id)).length (fuel_lt A8) (fun i a=>a=((X.take i).filter fun e=>e.Kind==14&&Ov l (Hq t e.Id).1 e==0).map LY) rfl (fun i a k hi ha I=>?_) fun a k ha=>?_)
 ·have j:i<X.length:=A8
  have O:a.length≤1000:=by
   rw[ha,C9];have :=JD (fun e=>e.Kind==14&&Ov l (Hq t e.Id).1 e==0) (X.take i);rw[FI]at this;omega
  unfold aEo;rw[Bl hi,Po,L8 l _ A8,u _ (E8 j),AQ];simp only[BA,AQ];rw[h.may];have U:(bif X[i].Kind==14 then(some (Ov l (Hq t X[i].Id).1 X[i])).bind fun q=>some (q==0)else some false)=some (X[i].Kind==14&&Ov l (Hq t X[i].Id).1 X[i]==0):=by cases X[i].Kind==14<;>rfl
  rw[U,AQ];have J:=aFq (p:=fun e=>e.Kind==14&&Ov l (Hq t e.Id).1 e==0) j;cases L:X[i].Kind==14&&Ov l (Hq t X[i].Id).1 X[i]==0 with
  |true=>
   rw[BA,D5 FW,AQ];unfold kZ;rw[wrap_succ i A8];exact I _ (by rw[J,L,ha,Ip];rfl)
  |false=>
   rw[Ar];unfold kZ;rw[wrap_succ i A8];exact I _ (by rw[J,L,ha,Ip];simp)
 rw[m,GY]at ha;unfold aEo;rw[CZ,Ar,ha];exact .ret rfl
def RQ.gone:Z5 l=some (H6 l t):=by
 have hlen:=h.len;have j:=aLb l t;unfold Z5;rw[h.effective,AQ];unfold H6 Yt aeh;generalize Nv l t=E at j;have m:(E.map LY).length=E.length:=C9 ..;refine dQ.eq (KX (E.map LY).length (fuel_lt A8) (fun i a=>a=(E.take i).map (·.Content.Target)) rfl (fun i a k hi ha z=>?_) fun a k ha=>?_)
 ·have q:i<E.length:=A8
  have u:a.length≤1000:=aEc
  unfold aH5;rw[Bl hi,Po,D5 FW,AQ,wrap_succ i A8];exact z _ (by rw[map_take q,ha];rfl)
 rw[m,GY]at ha;have u:a.length≤1000:=by rw[ha,C9];omega
 unfold aH5;rw[CZ,Ar,←ha];have I:(Pj a).length≤1099511627776:=by rw[(UE a).length_eq];omega
 unfold MJ Si;rw[CJ A8,AQ,CJ I,aD8,aA9];exact .ret rfl
def RQ.by_ (id:Int):bV l id=some (aNL (U8 l t id)):=by
 have hlen:=h.len;have J:=aLb l t;unfold bV;rw[h.effective,AQ]
 have hb:(Nv l t).foldl (Ol id) none=U8 l t id:=by
  by_cases Y:t=[]
  ·subst Y;unfold U8;rw[aaN,agf];rfl
  exact amG (h.nd Y) t id
 rw[←hb];unfold aay;generalize Nv l t=E at J;have L:(E.map LY).length=E.length:=C9 ..;have hz:∀b:Option AL,(some ((((b.map LY).getD YP).Id,b.isSome)):Option (Int×Bool))=some (aNL b):=fun b=>by cases b<;>rfl
 refine dQ.eq (UQ (body:=aGD (E.map LY) id) (Q:=(· =aNL (E.foldl (Ol id) none))) (fun m M Z O=>∃i:Nat,Z=i∧i+m=E.length∧M=((E.take i).foldl (Ol id) none).isSome∧O=(((E.take i).foldl (Ol id) none).map LY).getD YP) ?_ Ag E.length false 0 YP (fuel_lt A8) ⟨0,rfl,A8,rfl,rfl⟩);rintro m M Z O k ⟨i,rfl,hm,z,I⟩ hk;unfold aGD;by_cases hi:i<E.length
 ·have U:i<(E.map LY).length:=A8
  rw[Bl U,Po];have j:(E.take (i+1)).foldl (Ol id) none=bif wR id ((E.take i).foldl (Ol id) none) E[i]then some E[i]else(E.take i).foldl (Ol id) none:=aMR (f:=Ol id) (b:=none) hi
  generalize(E.take i).foldl (Ol id) none=b at z I j
  have e1:(bif (LY E[i]).Target==id then(bif (!M)then some true else((fun a0 a1=>YS a0 a1) (LY E[i]) O).bind fun q=>some q).bind fun u=>some u else some false)=some (wR id b E[i]):=by
   unfold wR;show(bif E[i].Content.Target==id then _ else _)=_;cases E[i].Content.Target==id with
   |false=>rfl
   |true=>
    cases b with
    |none=>rw[z];rfl
    |some y=>
     rw[z,I];show((YS (LY E[i]) (LY y)).bind fun q=>some q).bind (fun u=>some u)=_;rw[ar5];rfl
  rw[e1,AQ];unfold xE;cases hq:wR id b E[i]with
  |true=>
   rw[hq]at j;rw[BA];exact hk (m-1) _ _ _ A8 ⟨i+1,wrap_succ i A8,A8,(BH Option.isSome j).symm,(BH (fun b=>(Option.map LY b).getD YP) j).symm⟩
  |false=>
   rw[hq]at j;rw[Ar];exact hk (m-1) _ _ _ A8 ⟨i+1,wrap_succ i A8,A8,by rw[z];exact(BH Option.isSome j).symm,by rw[I];exact(BH (fun b=>(Option.map LY b).getD YP) j).symm⟩
 have :i=E.length:=A8
 subst this;rw[←L,CZ,Ar,z,I];rw[GY,hz];exact .ret rfl
end
end Go.Proofs.YtkkdimcnpacjhaaGreat
end
section
namespace Go.Proofs.YtkkdimcnpacjhaaGreat
open Go.RowKit
set_option maxRecDepth 20000
set_option maxHeartbeats 1000000
def aPM (l:List AL) (t:List Cx):(H6 l t).length≤l.length:=by
 have j:=MF (Yt (Nv l t));have m:=aLb l t;unfold Yt at j;rw[C9]at j;unfold H6 Yt;omega
section
variable {l : List AL} {t : List Cx} (h : RQ l t)
include h
def RQ.apply:zF l=some (l.map (aDP (H6 l t))):=by
 have hlen:=h.len;have I:=aPM l t;have hi:=LM (Yt (Nv l t));unfold zF;rw[h.gone,AQ]
 have J:dR l=some l:=by
  unfold dR;rw[D5 SE];rfl
 rw[J,AQ]
 change Inc (H6 l t)at hi
 generalize H6 l t=g at I hi;unfold ab9
 have step:∀(k:Int→List AL→Option (List AL)) (i:Nat) (v:List AL) (j:i<l.length),v.length=l.length→v[i]? =some l[i]→Zj l g k (i:Int) v=k (Ah ((i:Int)+1)) (v.set i (aDP g l[i])):=fun k i v j u q=>by
  obtain⟨r,L,z⟩:=aRh g l[i].Id hi A8;unfold Zj;rw[dec_lt j,BA,qU,q,AQ,L,AQ,z];unfold Sub aDP;cases CY g l[i].Id with
  |true=>
   rw[BA,BA,(aOj (h.small _ (E8 j)).x).1,AQ,AQ,Ws]
  |false=>rw[Ar,Ar,aiY q]
 exact aiR (fun m=>aP (Zj l g) m) l (aDP g) some A8 (fun m i v j u q=>step _ i v j u q) (fun m v u=>by
  show Zj l g _ _ v=_;unfold Zj
  rw[CZ];rfl)
end
end Go.Proofs.YtkkdimcnpacjhaaGreat
end
section
namespace Go.Proofs.YtkkdimcnpacjhaaGreat
open Go.RowKit
set_option maxRecDepth 20000
set_option maxHeartbeats 1000000
def aRH (k:Int) (v:Bool):∀m:List (Int×Bool),(Dj m k v).map (·.1)=m.map (·.1)∨(k∉m.map (·.1)∧(Dj m k v).map (·.1)=m.map (·.1)++[k])
 | []=>.inr ⟨Ef,rfl⟩
 |p::m=>by
  unfold Dj;cases j:k==p.1 with
  |true=>exact .inl (by rw[BA,I7,I7,eq_of_beq j])
  |false=>
   rw[Ar,I7,I7];rcases aRH k v m with h|⟨q,u⟩
   ·exact .inl (by rw[h])
   refine .inr ⟨fun z=>?_,by rw[u,V7]⟩;rcases EO.1 z with e|e
   ·rw[e,Rn]at j;cases j
   exact q e
def aM4 :∀(g:List Int) (m:List (Int×Bool)),(m.map (·.1)).Nodup→((g.foldl (fun a x=>Dj a x true) m).map (·.1)).Nodup∧∀x∈(g.foldl (fun a x=>Dj a x true) m).map (·.1),x∈m.map (·.1)∨x∈g
 | [],m,h=>⟨h,fun x j=>.inl j⟩
 |y::g,m,h=>by
  rw[El];rcases aRH y true m with e|⟨J,I⟩
  ·obtain⟨u,z⟩:=aM4 g (Dj m y true) (by rw[e];exact h);refine⟨u,fun x j=>?_⟩;rcases z x j with q|q
   ·rw[e]at q;exact .inl q
   exact .inr (Ez _ q)
  obtain⟨u,z⟩:=aM4 g (Dj m y true) (by
   rw[I,iC]
   exact⟨h,Am,fun a ha b L=>by rw[GZ.1 L];exact fun e=>J (e▸ha)⟩)
  refine⟨u,fun x j=>?_⟩;rcases z x j with q|q
  ·rw[I]at q;rcases Fz.1 q with q|q
   ·exact .inl q
   exact .inr (by rw[GZ.1 q];exact Ec ..)
  exact .inr (Ez _ q)
def aaU (k:Int):∀m:List (Int×Bool),(m.map (·.1)).Nodup→((NG m k).map (·.1)).Nodup∧∀x∈(NG m k).map (·.1),x∈m.map (·.1)∧x≠k
 | [],h=>⟨h,fun x j=>absurd j Ef⟩
 |p::m,h=>by
  rw[I7,JX]at h;obtain⟨z,I⟩:=h;unfold NG;cases q:k==p.1 with
  |true=>
   rw[BA];refine⟨I,fun x j=>⟨Ez _ j,fun e=>z ?_⟩⟩;rw[←eq_of_beq q,←e];exact j
  |false=>
   rw[Ar,I7,JX];obtain⟨J,u⟩:=aaU k m I;refine⟨⟨fun L=>z (u _ L).1,J⟩,fun x j=>?_⟩;rcases EO.1 j with e|j
   ·refine⟨by rw[e];exact Ec ..,fun M=>?_⟩;rw[←M,e,Rn]at q;cases q
   exact⟨Ez _ (u x j).1,(u x j).2⟩
def aQ5 :∀(l:List AL) (m:List (Int×Bool)),(m.map (·.1)).Nodup→∀x∈(l.foldl (fun a e=>NG a e.Id) m).map (·.1),x∈m.map (·.1)∧x∉l.map (·.Id)
 | [],m,_,x,j=>⟨j,Ef⟩
 |e::l,m,h,x,j=>by
  rw[El]at j;obtain⟨I,u⟩:=aaU e.Id m h;obtain⟨z,J⟩:=aQ5 l _ I x j;refine⟨(u x z).1,fun L=>?_⟩;rcases EO.1 L with q|q
  ·exact(u x z).2 q
  exact J q
def aqK (l:List AL) (g:List Int) (hl:l.length≤1000) (O:g.length≤1000) (q:∀x∈g,cZ l x=true):aE1 l g=some []:=by
 obtain⟨u,z⟩:=aM4 g [] Vx
 have I:l.foldl (fun a e=>NG a e.Id) (g.foldl (fun a x=>Dj a x true) [])=[]:=by
  have hd:=aQ5 l _ u;generalize l.foldl (fun a e=>NG a e.Id) (g.foldl (fun a x=>Dj a x true) [])=m at hd;cases m with
  |nil=>rfl
  |cons p m=>
   obtain⟨J,L⟩:=hd p.1 (Ec ..);rcases z _ J with h|h
   ·exact absurd h Ef
   exact absurd (XM.1 (q _ h)) L
 have hs:fU []=some []:=AA
 have M:∀m:List (Int×Bool),aB6 l 0 m=(fU (l.foldl (fun a e=>NG a e.Id) m)).bind fun j=>some j:=fun m=>by
  unfold aB6
  exact dh (body:=aDc l) l A8 (fun a e=>NG a e.Id) (fun _ _=>True) (fun a=>(fU a).bind fun j=>some j) trivial (fun k a i h _=>⟨trivial,by
   unfold aDc
   rw[Bl h]⟩) fun k a _=>by
   unfold aDc;rw[CZ,Ar]
 unfold aE1 aRt
 rw[dh (body:=aCK g l) g A8 (fun a x=>Dj a x true) (fun _ _=>True) (fun a=>aB6 l 0 a) trivial (fun k a i h _=>⟨trivial,by
    unfold aCK
    rw[Bl h]⟩) fun k a _=>by
    unfold aCK
    rw[CZ,Ar],M,I,hs]
 rfl
def acn (l:List AL):∀g:List Int,(∀x∈g,cZ l x=true)→(ofIds l g).length=g.length
 | [],_=>rfl
 |x::g,h=>by
  have m:=(Jb (h x (Ec ..))).1;have j:=acn l g fun y q=>h y (Ez _ q);unfold ofIds at j ⊢;rw[Ny,m,FC,FC,j]
def ase {l:List AL} {g:List Int} (q:(l.map (·.Id)).Nodup) (u:g.Nodup) (z:∀x∈g,cZ l x=true):(l.filter fun e=>CY g e.Id).length=g.length:=by
 have e:(l.filter fun e=>CY g e.Id).length=((l.filter fun e=>CY g e.Id).map (·.Id)).length:=(C9 ..).symm;rw[e];refine Nat.le_antisymm (dY (q.sublist (Qx.map _)) fun x j=>?_) (dY u fun x j=>?_)
 ·obtain⟨y,m,rfl⟩:=FH.1 j;exact Ii.1 (ET.1 m).2
 obtain⟨y,m,e⟩:=FH.1 (XM.1 (z x j));exact FH.2 ⟨y,ET.2 ⟨m,by show CY g y.Id=true;rw[e];exact Ii.2 j⟩,e⟩
def akX (l:List AL):aLU l=some true:=by
 unfold aLU;refine dQ.eq ((ajS l).bind fun b hb=>dQ.bif (fun _=>by rw[aRG];exact .ret rfl) fun e=>?_);obtain⟨hl,hs⟩:=hb e;obtain⟨c,h,_⟩:=aqV hs A8;have hgl:=aPM l (F8 l c);have m:∀x∈H6 l (F8 l c),cZ l x=true:=fun x hx=>anP hx;have hof:ofIds l (H6 l (F8 l c))=ofIds l (H6 l (F8 l c)):=rfl;have O:=acn l _ m;have U:=aqK l _ A8 A8 m;have Y:=aaM l (H6 l (F8 l c)) A8 A8
 have z:(l.filter fun e=>CY (H6 l (F8 l c)) e.Id).length=(H6 l (F8 l c)).length:=by
  by_cases Z:F8 l c=[]
  ·rw[Z,ajz];rw[Yz.2 fun x _=>by unfold CY;simp];rfl
  exact ase (h.nd Z) (UZ (LM _)) m
 have hby:∀id,(U8 l (F8 l c) id).isSome=CY (H6 l (F8 l c)) id:=fun id=>by
  rw[Q8,anh,Ii]
 rw[h.gone,AQ];unfold aec;refine KX l.length (fuel_lt A8) (fun i a=>a=(((l.take i).filter fun e=>CY (H6 l (F8 l c)) e.Id).length:Int)) rfl (fun i a k hi ha hk=>?_) fun a k ha=>?_
 ·have hf:=aFq (p:=fun e:AL=>CY (H6 l (F8 l c)) e.Id) hi
  have hfl:((l.take i).filter fun e=>CY (H6 l (F8 l c)) e.Id).length≤l.length:=by
   have :=JD (fun e:AL=>CY (H6 l (F8 l c)) e.Id) (l.take i);rw[FI]at this;omega
  unfold aNR;rw[Bl hi,h.by_,AQ];have L:=hby l[i].Id;cases q:U8 l (F8 l c) l[i].Id with
  |none=>
   rw[q]at L;show dQ (oz k (i:Int) a) _;unfold oz;rw[wrap_succ i A8];refine hk _ ?_;rw[hf,show CY (H6 l (F8 l c)) l[i].Id=false from L.symm,ha];simp
  |some j=>
   rw[q]at L;obtain⟨b1,b2,b3⟩:=aoa q;obtain⟨M,f2,f3⟩:=ac6 b2;obtain⟨m1,m2,m3⟩:=aag f3;have hnd:=h.nd (fun e0=>by rw[e0]at M;cases M);have hev:ev l j.Content.Target=l[i]:=by rw[b3];exact aDN hnd (E8 hi)
   have I:D9 (FK l (Hq (F8 l c) j.Id).1):=aEL hs _;have hL:=(zh I).users;have hal:=h.at_len j.Id;have Z:=Zu l (Hq (F8 l c) j.Id).1
   have hst:(Hq (F8 l c) j.Id).2=4:=by
    obtain⟨y,y1,y2⟩:=Zm.1 M;unfold Hq;rw[y1];show(bif y.err != 0 then(2:Int)else 4)=4;rw[y2];rfl
   have J:aT l (H6 l (F8 l c)) k (i:Int) a false=k (Ah (a+1)) (Ah ((i:Int)+1)):=by
    unfold aT;rw[Ar,U,AQ];show((fA l (H6 l (F8 l c))).bind fun x26=>some ((x26.length:Int) != ((H6 l (F8 l c)).length:Int))).bind _=_;rw[Y,AQ,O,VT];rfl
   have hj3:Xg l (i:Int) (j,true) (EH (FK l (Hq (F8 l c) j.Id).1),Qd (FK l (Hq (F8 l c) j.Id).1)) (H6 l (F8 l c)) k a false=k (Ah (a+1)) (Ah ((i:Int)+1)):=by
    unfold Xg;rw[Ar,Bf hi,AQ,HY];show(bif !decide (j.aN=l[i].aN)then _ else _)=_;by_cases u:j.aN=l[i].aN
    ·rw[Ht u,Dv,Ar];exact J
    rw[Hr u,I4,BA];show(Nj (EH (FK l (Hq (F8 l c) j.Id).1)) j.aN).bind _=_;rw[VP _ _ A8,AQ];have hlt:=m3 (by rw[hev];exact u);show aT l _ k _ a (decide (DY (EH (FK l (Hq (F8 l c) j.Id).1)) j.aN<(EH (FK l (Hq (F8 l c) j.Id).1)).eU))=_;rw[Hr hlt];exact J
   show dQ ((JL l j.Id).bind _) _;rw[L8 l _ A8,h.known b1 M,AQ];show dQ ((Us l j.Id).bind _) _;rw[h.at_,AQ,aKq l _ A8 A8,AQ,oU _ A8 I,AQ];rw[show(!((j,true):AL×Bool).2)=false from rfl,Ar];show dQ (bif j.Kind != 14 then _ else _) _;rw[f2,VT,Ar,Bf hi,AQ];show dQ (bif j.Content.Target != l[i].Id then _ else _) _;rw[b3,VT,Ar,hst,VT,Ar];show dQ ((Y1 l (Hq (F8 l c) j.Id).1 j.aN).bind _) _;rw[ace l _ _ A8 A8,AQ,m2,VT,hj3,wrap_succ i A8,ha,wrap_succ _ A8];refine hk _ ?_;rw[hf,show CY (H6 l (F8 l c)) l[i].Id=true from L.symm,Dk];rfl
 rw[GY]at ha;unfold aNR;rw[CZ,Ar,ha,z,Rn,BA,aRG];exact .ret rfl
end Go.Proofs.YtkkdimcnpacjhaaGreat
end
