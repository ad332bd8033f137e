/- Part 8 of the laws' proofs (short forms by wip/shrink2.py). -/
import Derived.Test.YtkkdimcnpacjhaaGreatRh7
set_option linter.defProp false
set_option linter.unnecessarySimpa false
set_option linter.unusedSectionVars false
set_option linter.unusedVariables false
set_option linter.unusedSimpArgs false
namespace Go.Proofs.YtkkdimcnpacjhaaGreat
open Go.RowKit Go.Proofs.Tryz
section
set_option maxRecDepth 20000
set_option maxHeartbeats 1000000
def aks (s:BD):(XF s).size<=s.size:=by
 unfold XF splitB;cases Jt s with
 |false=>exact Ea _
 |true=>
  show(QC s).size<=_;unfold QC;rw[aC1];omega
def aaQ {e:AV} (h:FD e):FD (Yv e (XF e.bF)):=
 ⟨h.prev,h.auth,h.allow,h.deny,h.users,h.kinds,h.room,h.sender,h.key,h.text,h.via,FC (aks _) h.sender,h.allows,h.denies,h.names⟩
def akO {e:AV} (h:FD e):lD e=some (Yv e (XF e.bF)):=by
 have j:e.bF.size<=2000:=h.sender;unfold lD;rw[(Xj (s:=e.bF) AB).1,Ad,(aR4 h _).1];rfl
structure wu (l:List AV) (e0 E:AV):Prop where
 facts:V8 l
 deep:KG l=0
 ver:∀x∈l,WX x=some 0
 prog:Pq l=some 0
 some_:F7 l (Fa l)≠[]
 check:U1 E=some 0
 small:FD E
 eq:E=VE l (Fa l) e0
def ab3 {l:A8 AV} (hs:E9 l):(roomOf l).size<=2000:=by
 unfold roomOf;cases l with
 |nil=>exact Ea _
 |cons x l=>exact(hs x (H8 ..)).room
def aeN {l:A8 AV} {j:AV} (hl:l.length<=40) (hs:E9 l) (h:FD j) (t:A8 F6):FD (VE l t j):=by
 have q:=Y4 l t;have u:=nN l (F7 l t);have z:(MV l (IU l (F7 l t))).length<=(IU l (F7 l t)).length:=Jr ..;have I:=ada j (Ic l t);exact⟨by show(MV l (IU l (F7 l t))).length<=40;omega,by show(Ro j (Ic l t)).length<=40;omega,h.allow,h.deny,h.users,h.kinds,ab3 hs,h.sender,h.key,h.text,h.via,h.server,h.allows,h.denies,h.names⟩
def aVg {l:A8 AV} (hl:l.length<=40) (hs:E9 l) {j:AV} (I:FD j) (J:j.Depth=0):
 (∃x:Int,x≠0/\Rh l j=some (DI,[],x)/\QA l j=some (DI,x))\/
 ∃(E:AV) (cur:A8 BJ),Rh l j=some (E,cur,0)/\((∃x:Int,x≠0/\Qh E=some x/\QA l j=some (DI,x))\/
  (Qh E=some 0/\QA l j=some (E,0)/\wu l j E/\cur=Ic l (Fa l)/\WA l=some cur)):=by
 obtain⟨c,h,c1,c2,c3⟩:=ahE hs AB;have hsm:=aeN hl hs I (Jo l c);obtain⟨x,U,Y⟩:=aWm hsm.wide;have u:=aeX h c1 c2 c3 rfl j;have q:=alh h c1 c2 c3 rfl j J x Y;by_cases ha:F7 l (Jo l c)=[]
 ·rw[ha]at u q;exact .inl ⟨26,Bj,u,q⟩
 have Z:(F7 l (Jo l c)==[])=false:=by
  cases z:F7 l (Jo l c)with
  |nil=>exact absurd z ha
  |cons x L=>rfl
 rw[Z,BX]at u q;obtain⟨k0,kd,M⟩:=aNy h c1 c2 c3 rfl ha;cases z:decide (Wp l (MV l (IU l (F7 l (Jo l c))))>100000)with
 |true=>
  rw[z,Bz]at u q;exact .inl ⟨29,Bj,u,q⟩
 |false=>
  rw[z,BX]at u q;refine .inr ⟨_,_,u,?_⟩;by_cases O:x=0
  ·subst O;rw[QG,BX]at q;subst k0;refine .inr ⟨U,q,⟨c3 rfl,kd,ah6 c2 AB,c1,by rw[←M];exact ha,Y,hsm,by rw[M]⟩,by rw[M],?_⟩;exact aTG c2 (fun I=>(c3 I).ok AB) AB hs
  rw[Uz.2 O,Bz]at q;exact .inl ⟨x,O,U,q⟩
def MJ (j:BD) (k:Int) (key:BD) (c:D6) (time:Int):AV:={ DI with bF:=j,Kind:=k,Key:=key,Time:=time,Content:=c }
structure afC (l:List AV) (e0 e:AV):Prop where
 frame:wu l e0 (VE l (Fa l) e0)
 allow:NR (VE l (Fa l) e0) (KJ l (Ic l (Fa l)))=0
 eq:e=Yv (VE l (Fa l) e0) (XF e0.bF)
def wu.aEO {l:A8 AV} {j E:AV} (h:wu l j E) (hl:l.length<=40):(Ic l (Fa l)).length<=40:=by
 have :=aWD (l:=l) (c:=0) fun _=>h.facts.ok AB;rw[ae9 h.deep]at this;have :=this.length;omega
def acT {l:A8 AV} (hl:l.length<=40) (hs:E9 l) {j:BD} {k:Int} {key:BD} {c:D6} {time:Int} (Z:FD (MJ j k key c time)):
 ∃r:AV×Int,jK l j k key c time=some r/\aDM l j k key c time=some r/\((r.2≠0/\r.1=DI)\/(r.2=0/\afC l (MJ j k key c time) r.1)):=by
 rcases aVg hl hs Z rfl with⟨x,q,L,z⟩|⟨E,cur,L,⟨x,q,M,z⟩|⟨M,z,u,rfl,O⟩⟩
 ·refine⟨(DI,x),?_,?_,.inl ⟨q,rfl⟩⟩
  ·show(Rh l (MJ j k key c time)).bind _=_;rw[L,Ad];show(bif x != 0 then _ else _)=_;rw[Uz.2 q,Bz]
  show(QA l (MJ j k key c time)).bind _=_;rw[z,Ad];show(bif x != 0 then _ else _)=_;rw[Uz.2 q,Bz]
 ·refine⟨(DI,x),?_,?_,.inl ⟨q,rfl⟩⟩
  ·show(Rh l (MJ j k key c time)).bind _=_;rw[L,Ad];show(bif (0:Int) != 0 then _ else(Qh E).bind _)=_;rw[QG,BX,M,Ad,Uz.2 q,Bz]
  show(QA l (MJ j k key c time)).bind _=_;rw[z,Ad];show(bif x != 0 then _ else _)=_;rw[Uz.2 q,Bz]
 have hcl:=u.aEO hl;have hel:=yX l (Ic l (Fa l));have I:E9 (KJ l (Ic l (Fa l))):=aN1 hs _;have hE:E.bF=j:=by rw[u.eq];rfl
 have U:jK l j k key c time=bif NR E (KJ l (Ic l (Fa l))) != 0 then some (DI,NR E (KJ l (Ic l (Fa l))))else some (Yv E (XF E.bF),0):=by
  show(Rh l (MJ j k key c time)).bind _=_;rw[L,Ad];show(bif (0:Int) != 0 then _ else(Qh E).bind _)=_;rw[QG,BX,M,Ad,QG,BX];show(jr l (Ic l (Fa l))).bind _=_;rw[aSS l _ AB AB,Ad];show(Ws E (KJ l (Ic l (Fa l)))).bind _=_;rw[aBE E _ AB I u.small,Ad];show(bif _ then _ else(lD E).bind _)=_;rw[akO u.small];rfl
 have Y:aDM l j k key c time=bif NR E (KJ l (Ic l (Fa l))) != 0 then some (DI,NR E (KJ l (Ic l (Fa l))))else some (Yv E (XF E.bF),0):=by
  show(QA l (MJ j k key c time)).bind _=_;rw[z,Ad];show(bif (0:Int) != 0 then _ else(WA l).bind _)=_;rw[QG,BX,O,Ad,aUu l _ AB AB,Ad];show(ZB E (KJ l (Ic l (Fa l)))).bind _=_;have hsz:j.size<=2000:=Z.sender;rw[aEe E _ AB I u.small,Ad,(Xj (s:=j) AB).2];show(bif _ then _ else(wO E _).bind _)=_;rw[(aR4 u.small _).2,hE];rfl
 rw[U,Y];by_cases q:NR E (KJ l (Ic l (Fa l)))=0
 ·rw[q];refine⟨_,rfl,rfl,.inr ⟨rfl,?_⟩⟩;have J:=u;rw[u.eq]at q J;exact⟨J,q,by rw[hE,u.eq];rfl⟩
 rw[Uz.2 q];exact⟨_,rfl,rfl,.inl ⟨q,rfl⟩⟩
def aaI {l:A8 AV} (hl:l.length<=40) (hs:E9 l) {j:BD} {m:Int} {via:BD} {time:Int} (J:FD (MJ j 2 j { ET with N:=m,Via:=via } time)):
 ∃r:AV×Int,aKL l j m via time=some r/\aMI l j m via time=some r/\((r.2≠0/\r.1=DI)\/(r.2=0/\wu l (MJ j 2 j { ET with N:=m,Via:=via } time) r.1)):=by
 rcases aVg hl hs J rfl with⟨x,q,z,u⟩|⟨E,cur,z,⟨x,q,I,u⟩|⟨I,u,L,rfl,M⟩⟩
 ·refine⟨(DI,x),?_,?_,.inl ⟨q,rfl⟩⟩
  ·show(Rh l (MJ j 2 j { ET with N:=m,Via:=via } time)).bind _=_;rw[z,Ad];show(bif x != 0 then _ else _)=_;rw[Uz.2 q,Bz]
  show(QA l (MJ j 2 j { ET with N:=m,Via:=via } time)).bind _=_;rw[u];rfl
 ·refine⟨(DI,x),?_,?_,.inl ⟨q,rfl⟩⟩
  ·show(Rh l (MJ j 2 j { ET with N:=m,Via:=via } time)).bind _=_;rw[z,Ad];show(bif (0:Int) != 0 then _ else(Qh E).bind _)=_;rw[QG,BX,I,Ad,Uz.2 q,Bz]
  show(QA l (MJ j 2 j { ET with N:=m,Via:=via } time)).bind _=_;rw[u];rfl
 refine⟨(E,0),?_,?_,.inr ⟨rfl,L⟩⟩
 ·show(Rh l (MJ j 2 j { ET with N:=m,Via:=via } time)).bind _=_;rw[z,Ad];show(bif (0:Int) != 0 then _ else(Qh E).bind _)=_;rw[QG,BX,I];rfl
 show(QA l (MJ j 2 j { ET with N:=m,Via:=via } time)).bind _=_;rw[u];rfl
def aRv (l:A8 AV) (n:UK):eP (uU l n) fun b=>b=false->l.length<=14/\E9 l/\∀k t,FD (MJ n.User k n.Key n.Content t):=by
 unfold uU;refine(aZF l).bind fun b u=>?_;refine eP.bind (P:=fun x=>x=false->l.length<=14/\E9 l/\∀k t,FD (MJ n.User k n.Key n.Content t)) (eP.bif (fun _=>.ret fun h=>Ib) fun e=>?_) fun x q=>.ret q;refine(aRK _).bind fun x q=>.ret fun h=>?_;obtain⟨z,I⟩:=u e;have j:=q h;exact⟨z,I,fun k t=>⟨j.prev,j.auth,j.allow,j.deny,j.users,j.kinds,j.room,j.sender,j.key,j.text,j.via,j.server,j.allows,j.denies,j.names⟩⟩
def afH {j key:BD} {c:D6} {m:Int} {t k:Int} (h:FD (MJ j k key c t)) (via:BD) (q:via.size<=2000):FD (MJ j 2 j { ET with N:=m,Via:=via } t):=
 ⟨Ea _,Ea _,Ea _,Ea _,Ea _,Ea _,Ea _,h.sender,h.sender,Ea _,q,Ea _,fun _ h=>absurd h G5,fun _ h=>absurd h G5,fun _ h=>absurd h G5⟩
def ahl (l:A8 AV) (n:UK):aJ6 l n=some true:=by
 unfold aJ6;refine eP.eq ((aRv l n).bind fun b j=>eP.bif (fun _=>by rw[aFQ];exact .ret rfl) fun e=>?_);obtain⟨hl,hs,q⟩:=j e;obtain⟨r,u,z,I⟩:=acT AB hs (q n.Kind n.Time)
 have hsm:FD r.1:=by
  rcases I with⟨_,h⟩|⟨_,h⟩
  ·rw[h];exact aL5
  rw[h.eq];exact aaQ h.frame.small
 rw[u,Ad,z,Ad,aVj hsm,aFQ];simp only[Ad,Bz,TW];exact .ret rfl
def am0 (l:A8 AV) (n:UK):aFw l n=some true:=by
 unfold aFw;refine eP.eq ((aRv l n).bind fun b q=>eP.bif (fun _=>by rw[aFQ];exact .ret rfl) fun e=>?_);obtain⟨hl,hs,j⟩:=q e;obtain⟨r,u,z,I⟩:=aaI (m:=n.Content.N) AB hs (afH (j n.Kind n.Time) n.Key (j n.Kind n.Time).key)
 have hsm:FD r.1:=by
  rcases I with⟨_,h⟩|⟨_,h⟩
  ·rw[h];exact aL5
  exact h.small
 rw[u,Ad,z,Ad,aVj hsm,aFQ];simp only[Ad,Bz,TW];exact .ret rfl
end
end Go.Proofs.YtkkdimcnpacjhaaGreat
