/- The law RoomChecks holds (short forms written by wip/shrink.py; no condition). -/
import Derived.Test.YtfmoknlmaldmlaaGreatRc7
set_option linter.defProp false
set_option linter.unnecessarySimpa false
set_option linter.unusedSectionVars false
set_option linter.unusedVariables false
set_option linter.unusedSimpArgs false
namespace Go.Proofs.YtfmoknlmaldmlaaGreat
open Go.RowKit Go.Proofs.Tryz
def aSs (x:H6):Prop:=x.User.size<=1048576/\(IntKind.i64.min<=x.N/\x.N<=IntKind.i64.max)
def a1j (x:H6):Nat:=0+x.User.size
variable {H:Type}
set_option maxRecDepth 20000 in
def amU (enc:Bq×BD->H)(w:BX)(base:Nat)(spare:Nat->AV)(held:AV):Nv 1048576 enc Ak w base spare held 146 F5 aSs a1j:=by
 intro Am cs x h j;have hl:=UJ Tryz.underlying146 h 2 A8;obtain⟨a0,q,z⟩:=F6 Tryz.underlying146 h j 0 9 0 1 A8 (QC MN);obtain⟨I,u,h1⟩:=F6 Tryz.underlying146 h j 1 3 1 1 A8 (II Ho);have J:a0.size+1<=partAt x.1 0:=q.2;have L:0+1<=partAt x.1 1:=u.2;have hs:partAt x.1 0+(partAt x.1 1+(0))+1<=_:=Tj x.1 2;exact⟨⟨a0,I⟩,⟨q.1,u.1⟩,by unfold a1j;(try simp only[]);omega,Tt [1,1] U0 (E8.append z (E8.append h1 (E8.nil w)))⟩
def aR1 (x:J5):Prop:=(IntKind.i64.min<=x.Kind/\x.Kind<=IntKind.i64.max)/\(IntKind.i64.min<=x.N/\x.N<=IntKind.i64.max)
def aAv (x:J5):Nat:=0
set_option maxRecDepth 20000 in
def agL (enc:Bq×BD->H)(w:BX)(base:Nat)(spare:Nat->AV)(held:AV):Nv 1048576 enc Ak w base spare held 221 Ey aR1 aAv:=by
 intro Am cs x h j;have hl:=UJ Tryz.underlying221 h 2 A8;obtain⟨a0,q,z⟩:=F6 Tryz.underlying221 h j 0 26 0 1 A8 (II Tryz.underlying26);obtain⟨I,u,h1⟩:=F6 Tryz.underlying221 h j 1 3 1 1 A8 (II Ho);have J:0+1<=partAt x.1 0:=q.2;have L:0+1<=partAt x.1 1:=u.2;have hs:partAt x.1 0+(partAt x.1 1+(0))+1<=_:=Tj x.1 2;exact⟨⟨a0,I⟩,⟨q.1,u.1⟩,by unfold aAv;(try simp only[]);omega,Tt [1,1] U0 (E8.append z (E8.append h1 (E8.nil w)))⟩
def aR7 (x:Cm):Prop:=(x.Users.length<=1048576/\∀j∈x.Users,aSs j)/\(x.Kinds.length<=1048576/\∀q∈x.Kinds,aR1 q)/\(IntKind.i64.min<=x.User/\x.User<=IntKind.i64.max)/\(IntKind.i64.min<=x.Message/\x.Message<=IntKind.i64.max)/\(IntKind.i64.min<=x.State/\x.State<=IntKind.i64.max)/\(IntKind.i64.min<=x.gV/\x.gV<=IntKind.i64.max)/\(IntKind.i64.min<=x.kN/\x.kN<=IntKind.i64.max)/\(IntKind.i64.min<=x.oK/\x.oK<=IntKind.i64.max)/\(IntKind.i64.min<=x.iq/\x.iq<=IntKind.i64.max)
def a4X (x:Cm):Nat:=0+Ik a1j x.Users+Ik aAv x.Kinds
set_option maxRecDepth 20000 in
def akr (enc:Bq×BD->H)(w:BX)(base:Nat)(spare:Nat->AV)(held:AV):Nv 1048576 enc Ak w base spare held 32 F8 aR7 a4X:=by
 intro Am cs x h j;have hl:=UJ V8 h 9 A8;obtain⟨a0,q,Y⟩:=F6 V8 h j 0 29 0 1 A8 (Qb (sz:=2) Tryz.underlying29 A8 Bd (λ_=>rfl) (amU enc w base spare held));obtain⟨u,z,h1⟩:=F6 V8 h j 1 30 1 1 A8 (Qb (sz:=2) Tryz.underlying30 A8 Bd (λ_=>rfl) (agL enc w base spare held));obtain⟨Z,v2,h2⟩:=F6 V8 h j 2 3 2 1 A8 (II Ho);obtain⟨a3,I,h3⟩:=F6 V8 h j 3 3 3 1 A8 (II Ho);obtain⟨a4,J,h4⟩:=F6 V8 h j 4 3 4 1 A8 (II Ho);obtain⟨a5,L,h5⟩:=F6 V8 h j 5 3 5 1 A8 (II Ho);obtain⟨a6,M,h6⟩:=F6 V8 h j 6 3 6 1 A8 (II Ho);obtain⟨a7,O,h7⟩:=F6 V8 h j 7 3 7 1 A8 (II Ho);obtain⟨a8,U,h8⟩:=F6 V8 h j 8 3 8 1 A8 (II Ho);have q0:Ik a1j a0+1<=partAt x.1 0:=q.2;have q1:Ik aAv u+1<=partAt x.1 1:=z.2;have q2:0+1<=partAt x.1 2:=v2.2;have q3:0+1<=partAt x.1 3:=I.2;have q4:0+1<=partAt x.1 4:=J.2;have q5:0+1<=partAt x.1 5:=L.2;have q6:0+1<=partAt x.1 6:=M.2;have q7:0+1<=partAt x.1 7:=O.2;have q8:0+1<=partAt x.1 8:=U.2;have hs:partAt x.1 0+(partAt x.1 1+(partAt x.1 2+(partAt x.1 3+(partAt x.1 4+(partAt x.1 5+(partAt x.1 6+(partAt x.1 7+(partAt x.1 8+(0)))))))))+1<=_:=Tj x.1 9;exact⟨⟨a0,u,Z,a3,a4,a5,a6,a7,a8⟩,⟨q.1,z.1,v2.1,I.1,J.1,L.1,M.1,O.1,U.1⟩,by unfold a4X;(try simp only[]);omega,Tt [1,1,1,1,1,1,1,1,1] U0 (E8.append Y (E8.append h1 (E8.append h2 (E8.append h3 (E8.append h4 (E8.append h5 (E8.append h6 (E8.append h7 (E8.append h8 (E8.nil w))))))))))⟩
def aN6 (x:D7):Prop:=x.Text.size<=1048576/\(IntKind.i64.min<=x.N/\x.N<=IntKind.i64.max)/\(IntKind.i64.min<=x.Target/\x.Target<=IntKind.i64.max)/\True/\x.Via.size<=1048576/\(x.Allow.length<=1048576/\∀j∈x.Allow,j.size<=1048576)/\(x.iw.length<=1048576/\∀q∈x.iw,q.size<=1048576)/\aR7 x.Levels
def a7e (x:D7):Nat:=0+x.Text.size+x.Via.size+Ik (λs:BL=>s.size) x.Allow+Ik (λs:BL=>s.size) x.iw+a4X x.Levels
set_option maxRecDepth 20000 in
def ah7 (enc:Bq×BD->H)(w:BX)(base:Nat)(spare:Nat->AV)(held:AV):Nv 1048576 enc Ak w base spare held 34 Fl aN6 a7e:=by
 intro Am cs x h j;have hl:=UJ Xu h 16 A8;obtain⟨a0,q,h0⟩:=F6 Xu h j 0 9 0 1 A8 (QC MN);obtain⟨a1,u,h1⟩:=F6 Xu h j 1 3 1 1 A8 (II Ho);obtain⟨a2,v2,h2⟩:=F6 Xu h j 2 3 2 1 A8 (II Ho);obtain⟨a3,z,h3⟩:=F6 Xu h j 3 4 3 1 A8 (aJh Zt);obtain⟨I,J,h4⟩:=F6 Xu h j 4 9 4 1 A8 (QC MN);obtain⟨L,M,h5⟩:=F6 Xu h j 5 28 5 1 A8 (Qb (sz:=1) Tryz.underlying28 A8 Bd (λ_=>rfl) (QC MN));obtain⟨O,U,h6⟩:=F6 Xu h j 6 28 6 1 A8 (Qb (sz:=1) Tryz.underlying28 A8 Bd (λ_=>rfl) (QC MN));obtain⟨Y,Z,h7⟩:=F6 Xu h j 7 32 7 9 A8 (akr enc w base spare held);have q0:a0.size+1<=partAt x.1 0:=q.2;have q1:0+1<=partAt x.1 1:=u.2;have q2:0+1<=partAt x.1 2:=v2.2;have q3:0+1<=partAt x.1 3:=z.2;have q4:I.size+1<=partAt x.1 4:=J.2;have q5:Ik (λs:BL=>s.size) L+1<=partAt x.1 5:=M.2;have q6:Ik (λs:BL=>s.size) O+1<=partAt x.1 6:=U.2;have q7:a4X Y+1<=partAt x.1 7:=Z.2;have hs:partAt x.1 0+(partAt x.1 1+(partAt x.1 2+(partAt x.1 3+(partAt x.1 4+(partAt x.1 5+(partAt x.1 6+(partAt x.1 7+(0))))))))+1<=_:=Tj x.1 8;exact⟨⟨a0,a1,a2,a3,I,L,O,Y⟩,⟨q.1,u.1,v2.1,z.1,J.1,M.1,U.1,Z.1⟩,by unfold a7e;(try simp only[]);omega,Tt [1,1,1,1,1,1,1,9] U0 (E8.append h0 (E8.append h1 (E8.append h2 (E8.append h3 (E8.append h4 (E8.append h5 (E8.append h6 (E8.append h7 (E8.nil w)))))))))⟩
def aND (x:OW):Prop:=x.Server.size<=1048576/\(IntKind.i64.min<=x.Sum/\x.Sum<=IntKind.i64.max)
def a6p (x:OW):Nat:=0+x.Server.size
set_option maxRecDepth 20000 in
def afJ (enc:Bq×BD->H)(w:BX)(base:Nat)(spare:Nat->AV)(held:AV):Nv 1048576 enc Ak w base spare held 36 aZR aND a6p:=by
 intro Am cs x h j;have hl:=UJ Tryz.underlying36 h 2 A8;obtain⟨a0,q,z⟩:=F6 Tryz.underlying36 h j 0 9 0 1 A8 (QC MN);obtain⟨I,u,h1⟩:=F6 Tryz.underlying36 h j 1 3 1 1 A8 (II Ho);have J:a0.size+1<=partAt x.1 0:=q.2;have L:0+1<=partAt x.1 1:=u.2;have hs:partAt x.1 0+(partAt x.1 1+(0))+1<=_:=Tj x.1 2;exact⟨⟨a0,I⟩,⟨q.1,u.1⟩,by unfold a6p;(try simp only[]);omega,Tt [1,1] U0 (E8.append z (E8.append h1 (E8.nil w)))⟩
def kU (x:Aa):Prop:=(IntKind.i64.min<=x.Id/\x.Id<=IntKind.i64.max)/\x.Room.size<=1048576/\x.bQ.size<=1048576/\(IntKind.i64.min<=x.Kind/\x.Kind<=IntKind.i64.max)/\True/\x.Key.size<=1048576/\(IntKind.i64.min<=x.Time/\x.Time<=IntKind.i64.max)/\(IntKind.i64.min<=x.Depth/\x.Depth<=IntKind.i64.max)/\(x.bG.length<=1048576/\∀j∈x.bG,(IntKind.i64.min<=j/\j<=IntKind.i64.max))/\(x.bJ.length<=1048576/\∀q∈x.bJ,(IntKind.i64.min<=q/\q<=IntKind.i64.max))/\aN6 x.Content/\(IntKind.i64.min<=x.Hash/\x.Hash<=IntKind.i64.max)/\aND x.nM
def mQ (x:Aa):Nat:=0+x.Room.size+x.bQ.size+x.Key.size+Ik (λ_=>0) x.bG+Ik (λ_=>0) x.bJ+a7e x.Content+a6p x.nM
set_option maxRecDepth 20000 in
def aPe (enc:Bq×BD->H)(w:BX)(base:Nat)(spare:Nat->AV)(held:AV):Nv 1048576 enc Ak w base spare held 38 BH kU mQ:=by
 intro Am cs x h j;have hl:=UJ Pz h 29 A8;obtain⟨a0,Y,h0⟩:=F6 Pz h j 0 3 0 1 A8 (II Ho);obtain⟨Z,v1,h1⟩:=F6 Pz h j 1 9 1 1 A8 (QC MN);obtain⟨a2,v2,h2⟩:=F6 Pz h j 2 9 2 1 A8 (QC MN);obtain⟨a3,v3,h3⟩:=F6 Pz h j 3 26 3 1 A8 (II Tryz.underlying26);obtain⟨a4,v4,h4⟩:=F6 Pz h j 4 4 4 1 A8 (aJh Zt);obtain⟨a5,v5,h5⟩:=F6 Pz h j 5 9 5 1 A8 (QC MN);obtain⟨a6,v6,h6⟩:=F6 Pz h j 6 3 6 1 A8 (II Ho);obtain⟨a7,v7,h7⟩:=F6 Pz h j 7 3 7 1 A8 (II Ho);obtain⟨a8,v8,h8⟩:=F6 Pz h j 8 27 8 1 A8 (Qb (sz:=1) rF A8 Bd (λ_=>rfl) (II Ho));obtain⟨a9,v9,h9⟩:=F6 Pz h j 9 27 9 1 A8 (Qb (sz:=1) rF A8 Bd (λ_=>rfl) (II Ho));obtain⟨q,u,L⟩:=F6 Pz h j 10 34 10 16 A8 (ah7 enc w base spare held);obtain⟨M,z,O⟩:=F6 Pz h j 11 3 26 1 A8 (II Ho);obtain⟨I,J,U⟩:=F6 Pz h j 12 36 27 2 A8 (afJ enc w base spare held);have q0:0+1<=partAt x.1 0:=Y.2;have q1:Z.size+1<=partAt x.1 1:=v1.2;have q2:a2.size+1<=partAt x.1 2:=v2.2;have q3:0+1<=partAt x.1 3:=v3.2;have q4:0+1<=partAt x.1 4:=v4.2;have q5:a5.size+1<=partAt x.1 5:=v5.2;have q6:0+1<=partAt x.1 6:=v6.2;have q7:0+1<=partAt x.1 7:=v7.2;have q8:Ik (λ_=>0) a8+1<=partAt x.1 8:=v8.2;have q9:Ik (λ_=>0) a9+1<=partAt x.1 9:=v9.2;have q10:a7e q+1<=partAt x.1 10:=u.2;have q11:0+1<=partAt x.1 11:=z.2;have q12:a6p I+1<=partAt x.1 12:=J.2;have hs:partAt x.1 0+(partAt x.1 1+(partAt x.1 2+(partAt x.1 3+(partAt x.1 4+(partAt x.1 5+(partAt x.1 6+(partAt x.1 7+(partAt x.1 8+(partAt x.1 9+(partAt x.1 10+(partAt x.1 11+(partAt x.1 12+(0)))))))))))))+1<=_:=Tj x.1 13;exact⟨⟨a0,Z,a2,a3,a4,a5,a6,a7,a8,a9,q,M,I⟩,⟨Y.1,v1.1,v2.1,v3.1,v4.1,v5.1,v6.1,v7.1,v8.1,v9.1,u.1,z.1,J.1⟩,by unfold mQ;(try simp only[]);omega,Tt [1,1,1,1,1,1,1,1,1,1,16,1,2] U0 (E8.append h0 (E8.append h1 (E8.append h2 (E8.append h3 (E8.append h4 (E8.append h5 (E8.append h6 (E8.append h7 (E8.append h8 (E8.append h9 (E8.append L (E8.append O (E8.append U (E8.nil w))))))))))))))⟩
def aOw (x:FB):Prop:=(IntKind.i64.min<=x.Pos/\x.Pos<=IntKind.i64.max)/\(IntKind.i64.min<=x.Id/\x.Id<=IntKind.i64.max)/\(IntKind.i64.min<=x.Status/\x.Status<=IntKind.i64.max)/\True
def aBe (x:FB):Nat:=0
set_option maxRecDepth 20000 in
def agK (enc:Bq×BD->H)(w:BX)(base:Nat)(spare:Nat->AV)(held:AV):Nv 1048576 enc Ak w base spare held 79 Ea aOw aBe:=by
 intro Am cs x h j;have hl:=UJ sF h 4 A8;obtain⟨a0,q,I⟩:=F6 sF h j 0 3 0 1 A8 (II Ho);obtain⟨J,u,h1⟩:=F6 sF h j 1 3 1 1 A8 (II Ho);obtain⟨L,v2,h2⟩:=F6 sF h j 2 71 2 1 A8 (II Tryz.underlying71);obtain⟨M,z,h3⟩:=F6 sF h j 3 4 3 1 A8 (aJh Zt);have O:0+1<=partAt x.1 0:=q.2;have U:0+1<=partAt x.1 1:=u.2;have Y:0+1<=partAt x.1 2:=v2.2;have Z:0+1<=partAt x.1 3:=z.2;have hs:partAt x.1 0+(partAt x.1 1+(partAt x.1 2+(partAt x.1 3+(0))))+1<=_:=Tj x.1 4;exact⟨⟨a0,J,L,M⟩,⟨q.1,u.1,v2.1,z.1⟩,by unfold aBe;(try simp only[]);omega,Tt [1,1,1,1] U0 (E8.append I (E8.append h1 (E8.append h2 (E8.append h3 (E8.nil w)))))⟩
def aP7 (x:BM):Prop:=(IntKind.i64.min<=x.Kind/\x.Kind<=IntKind.i64.max)/\x.Key.size<=1048576/\(IntKind.i64.min<=x.Id/\x.Id<=IntKind.i64.max)
def a2G (x:BM):Nat:=0+x.Key.size
set_option maxRecDepth 20000 in
def aYI (enc:Bq×BD->H)(w:BX)(base:Nat)(spare:Nat->AV)(held:AV):Nv 1048576 enc Ak w base spare held 82 BR aP7 a2G:=by
 intro Am cs x h j;have hl:=UJ a2A h 3 A8;obtain⟨a0,q,I⟩:=F6 a2A h j 0 26 0 1 A8 (II Tryz.underlying26);obtain⟨u,z,h1⟩:=F6 a2A h j 1 9 1 1 A8 (QC MN);obtain⟨J,v2,h2⟩:=F6 a2A h j 2 3 2 1 A8 (II Ho);have L:0+1<=partAt x.1 0:=q.2;have M:u.size+1<=partAt x.1 1:=z.2;have O:0+1<=partAt x.1 2:=v2.2;have hs:partAt x.1 0+(partAt x.1 1+(partAt x.1 2+(0)))+1<=_:=Tj x.1 3;exact⟨⟨a0,u,J⟩,⟨q.1,z.1,v2.1⟩,by unfold a2G;(try simp only[]);omega,Tt [1,1,1] U0 (E8.append I (E8.append h1 (E8.append h2 (E8.nil w))))⟩
def aS6 (x:TW):Prop:=x.User.size<=1048576/\(IntKind.i64.min<=x.Thread/\x.Thread<=IntKind.i64.max)/\(IntKind.i64.min<=x.Id/\x.Id<=IntKind.i64.max)/\(IntKind.i64.min<=x.Time/\x.Time<=IntKind.i64.max)
def a7c (x:TW):Nat:=0+x.User.size
set_option maxRecDepth 20000 in
def ac0 (enc:Bq×BD->H)(w:BX)(base:Nat)(spare:Nat->AV)(held:AV):Nv 1048576 enc Ak w base spare held 102 OE aS6 a7c:=by
 intro Am cs x h j;have hl:=UJ qx h 4 A8;obtain⟨a0,q,I⟩:=F6 qx h j 0 9 0 1 A8 (QC MN);obtain⟨J,u,h1⟩:=F6 qx h j 1 3 1 1 A8 (II Ho);obtain⟨L,v2,h2⟩:=F6 qx h j 2 3 2 1 A8 (II Ho);obtain⟨M,z,h3⟩:=F6 qx h j 3 3 3 1 A8 (II Ho);have O:a0.size+1<=partAt x.1 0:=q.2;have U:0+1<=partAt x.1 1:=u.2;have Y:0+1<=partAt x.1 2:=v2.2;have Z:0+1<=partAt x.1 3:=z.2;have hs:partAt x.1 0+(partAt x.1 1+(partAt x.1 2+(partAt x.1 3+(0))))+1<=_:=Tj x.1 4;exact⟨⟨a0,J,L,M⟩,⟨q.1,u.1,v2.1,z.1⟩,by unfold a7c;(try simp only[]);omega,Tt [1,1,1,1] U0 (E8.append I (E8.append h1 (E8.append h2 (E8.append h3 (E8.nil w)))))⟩
def aPW (x:Tv):Prop:=x.User.size<=1048576/\(IntKind.i64.min<=x.Until/\x.Until<=IntKind.i64.max)
def a5B (x:Tv):Nat:=0+x.User.size
set_option maxRecDepth 20000 in
def alu (enc:Bq×BD->H)(w:BX)(base:Nat)(spare:Nat->AV)(held:AV):Nv 1048576 enc Ak w base spare held 104 O6 aPW a5B:=by
 intro Am cs x h j;have hl:=UJ Tryz.underlying104 h 2 A8;obtain⟨a0,q,z⟩:=F6 Tryz.underlying104 h j 0 9 0 1 A8 (QC MN);obtain⟨I,u,h1⟩:=F6 Tryz.underlying104 h j 1 3 1 1 A8 (II Ho);have J:a0.size+1<=partAt x.1 0:=q.2;have L:0+1<=partAt x.1 1:=u.2;have hs:partAt x.1 0+(partAt x.1 1+(0))+1<=_:=Tj x.1 2;exact⟨⟨a0,I⟩,⟨q.1,u.1⟩,by unfold a5B;(try simp only[]);omega,Tt [1,1] U0 (E8.append z (E8.append h1 (E8.nil w)))⟩
def aJs (x:CJ):Prop:=x.Id.size<=1048576/\(x.Events.length<=1048576/\∀I∈x.Events,kU I)/\(x.Rows.length<=1048576/\∀J∈x.Rows,aOw J)/\(x.Waiting.length<=1048576/\∀L∈x.Waiting,kU L)/\(x.mJ.length<=1048576/\∀j∈x.mJ,(IntKind.i64.min<=j/\j<=IntKind.i64.max))/\(x.State.length<=1048576/\∀q∈x.State,aP7 q)/\(IntKind.i64.min<=x.Next/\x.Next<=IntKind.i64.max)/\(x.jO.length<=1048576/\∀u∈x.jO,aS6 u)/\(x.oG.length<=1048576/\∀z∈x.oG,aPW z)
def aEF (x:CJ):Nat:=0+x.Id.size+Ik mQ x.Events+Ik aBe x.Rows+Ik mQ x.Waiting+Ik (λ_=>0) x.mJ+Ik a2G x.State+Ik a7c x.jO+Ik a5B x.oG
set_option maxRecDepth 20000 in
def akn (enc:Bq×BD->H)(w:BX)(base:Nat)(spare:Nat->AV)(held:AV):Nv 1048576 enc Ak w base spare held 45 CZ aJs aEF:=by
 intro Am cs x h j;have hl:=UJ Ub h 9 A8;obtain⟨a0,q,h0⟩:=F6 Ub h j 0 9 0 1 A8 (QC MN);obtain⟨u,z,h1⟩:=F6 Ub h j 1 22 1 1 A8 (Qb (sz:=29) uq A8 Bd (λ_=>rfl) (aPe enc w base spare held));obtain⟨I,v2,h2⟩:=F6 Ub h j 2 39 2 1 A8 (Qb (sz:=4) Tryz.underlying39 A8 Bd (λ_=>rfl) (agK enc w base spare held));obtain⟨J,L,h3⟩:=F6 Ub h j 3 22 3 1 A8 (Qb (sz:=29) uq A8 Bd (λ_=>rfl) (aPe enc w base spare held));obtain⟨M,O,h4⟩:=F6 Ub h j 4 27 4 1 A8 (Qb (sz:=1) rF A8 Bd (λ_=>rfl) (II Ho));obtain⟨U,Y,h5⟩:=F6 Ub h j 5 41 5 1 A8 (Qb (sz:=3) Tryz.underlying41 A8 Bd (λ_=>rfl) (aYI enc w base spare held));obtain⟨a6,Z,h6⟩:=F6 Ub h j 6 3 6 1 A8 (II Ho);obtain⟨a7,v7,h7⟩:=F6 Ub h j 7 42 7 1 A8 (Qb (sz:=4) Tryz.underlying42 A8 Bd (λ_=>rfl) (ac0 enc w base spare held));obtain⟨a8,v8,h8⟩:=F6 Ub h j 8 43 8 1 A8 (Qb (sz:=2) Tryz.underlying43 A8 Bd (λ_=>rfl) (alu enc w base spare held));have q0:a0.size+1<=partAt x.1 0:=q.2;have q1:Ik mQ u+1<=partAt x.1 1:=z.2;have q2:Ik aBe I+1<=partAt x.1 2:=v2.2;have q3:Ik mQ J+1<=partAt x.1 3:=L.2;have q4:Ik (λ_=>0) M+1<=partAt x.1 4:=O.2;have q5:Ik a2G U+1<=partAt x.1 5:=Y.2;have q6:0+1<=partAt x.1 6:=Z.2;have q7:Ik a7c a7+1<=partAt x.1 7:=v7.2;have q8:Ik a5B a8+1<=partAt x.1 8:=v8.2;have hs:partAt x.1 0+(partAt x.1 1+(partAt x.1 2+(partAt x.1 3+(partAt x.1 4+(partAt x.1 5+(partAt x.1 6+(partAt x.1 7+(partAt x.1 8+(0)))))))))+1<=_:=Tj x.1 9;exact⟨⟨a0,u,I,J,M,U,a6,a7,a8⟩,⟨q.1,z.1,v2.1,L.1,O.1,Y.1,Z.1,v7.1,v8.1⟩,by unfold aEF;(try simp only[]);omega,Tt [1,1,1,1,1,1,1,1,1] U0 (E8.append h0 (E8.append h1 (E8.append h2 (E8.append h3 (E8.append h4 (E8.append h5 (E8.append h6 (E8.append h7 (E8.append h8 (E8.nil w))))))))))⟩
variable {e:Aa}
def acQ (h:kU e):O1 e:=by
 obtain⟨_,h1,h2,_,_,h3,_,_,⟨z,_⟩,⟨I,_⟩,J,_,hs⟩:=h;obtain⟨L,_,_,_,M,⟨O,U⟩,⟨Y,Z⟩,hl⟩:=J;obtain⟨⟨l1,l2⟩,⟨l3,_⟩,_⟩:=hl;have j:∀{n:Nat},n<=1048576->n<=9223372036854775807:=λh=>EK h (Dl rfl);exact⟨j z,j I,j h1,j h2,j h3,j hs.1,⟨j O,j Y,j l1,j l3,j L,j M,λx q=>j (U x q),λx q=>j (Z x q),λu hu=>j (l2 u hu).1⟩⟩
def aP3 {l:AA Aa}(h:l.length<=1048576/\∀y∈l,kU y):∀e∈l,O1 e:=λe j=>acQ (h.2 e j)
def aVC (h:kU e):MI e:=by
 obtain⟨_,_,_,_,_,_,_,_,⟨j,_⟩,⟨q,_⟩,u,_⟩:=h;obtain⟨_,_,_,_,_,⟨z,_⟩,⟨I,_⟩,hl⟩:=u;obtain⟨⟨l1,_⟩,⟨l3,_⟩,_⟩:=hl;exact⟨j,q,z,I,l1,l3⟩
def ah5 {r:CJ}(h:aJs r):aUf r:=
 ⟨EK h.1 (Dl rfl),aP3 h.2.1,aP3 h.2.2.2.1,λe j=>aVC (h.2.1.2 e j),λe j=>aVC (h.2.2.2.1.2 e j)⟩
def alx (r:CJ)(id:Int)(s:BL)(h:aJs r/\aEF r+1<=1048576){p q:Prop}(_:p)(_:q):mW r id s=some true:=abP id s (ah5 h.1)
section
open Go.ChangeShapes Go.WideShapes Go.ChangeAt Go.RowKit
def Tryz.aur:ownKnob Ak.godebug=none:=A8
def Tryz.Fa:laidOutB Ak=true:=A8
set_option maxHeartbeats 1600000 in
set_option maxRecDepth 100000 in
def abM (os:Os)(started:os.Started)(H:Type)(enc:Bq×BD->H)(F:Stop.Interp):
 ReturnsInHanded {} Tryz.checked os 8 .any ((Rows.OpenSpec.upto Rows.roomChecksSpec).pre6 enc Ak Tryz.f8 Rows.roomChecksUptoRow.domain false) (((Rows.OpenSpec.upto Rows.roomChecksSpec).at F).post enc Ak Tryz.f8 false true false false):=by
 refine returnsInHanded_of_cond (C:=Tryz.checked) (s:=Rows.OpenSpec.upto Rows.roomChecksSpec) (k:=Rows.uptoSmall) rfl Tryz.aur started A8 func8
  (OpenSpec.witness (enc:=enc) (C:=Tryz.checked) (s:=Rows.OpenSpec.upto Rows.roomChecksSpec) (k:=Rows.uptoSmall) rfl false ⟨#[], #[(.agg #[.string Ci,.slice none 0 0,.slice none 0 0,.slice none 0 0,.slice none 0 0,.slice none 0 0,.int .i64 0,.slice none 0 0,.slice none 0 0]),.int .i64 0,.string { data:= #[] }],[]⟩ 8 A8 A8 A8
   (x:=([.agg [.lit (.string []),.nil,.nil,.nil,.nil,.nil,.lit (.int .i64 0),.nil,.nil],.lit (.int .i64 0),.lit (.string [])],[],[])) A8 rfl A8) ?_
 intro W base args ds gs before z hW _ U _;show Calls _ _ _ _ λe W'=>∃v,e=.returned v/\Rows.roomChecksSpec.post enc Ak Tryz.f8 false true false false W args v W';have u:∀(j:Nat) t v,Tryz.f8.params[j]? =some t->args[j]? =some v->Value.okWide Ak W .any base t v:=z;have I:=hW;obtain⟨p,q,Y,hV,rfl,_,_⟩:=hW;have hA:DataW.TrodAll enc Ak W 0 (λ_=>true) true Tryz.f8.params.toList args.toList ds p:=Y;rw[Tryz.params8]at hA u;obtain⟨v0,v1,v2,d0,d1,d2,p0,p1,p2,rfl,rfl,rfl,h0,h1,h2⟩:=trodAll_three hA;obtain⟨rfl,rfl⟩:=trodVars_none hV;obtain⟨w0,rfl, -⟩:=okWide_struct Ub (u 0 45 v0 rfl rfl);have h0k:=h0;obtain⟨fuel0,hf0⟩:=h0;obtain⟨r0,hv0,hw0,hc0⟩:=(akn enc W _ _ _) _ _ _ hf0 (qJ U BU);have Z:=And.intro hv0 (EK hw0 (qJ U BU));have hr0:=aYJ (x:=CZ r0) rfl hc0;obtain⟨w1,rfl⟩:=okWide_int Ho (u 1 3 v1 rfl rfl);have h1k:=h1;obtain⟨fuel1,hf1⟩:=h1;obtain⟨r1,hv1,hw1,hc1⟩:=(II Ho) _ _ _ hf1 (qJ U BU);have hok1:=And.intro hv1 (EK hw1 (qJ U BU));have hr1:=aVM (x:=Ad r1) rfl rfl hc1;obtain⟨w2,rfl⟩:=okWide_string MN (u 2 9 v2 rfl rfl);have h2k:=h2;obtain⟨fuel2,hf2⟩:=h2;obtain⟨r2,hv2,hw2,hc2⟩:=(QC MN) _ _ _ hf2 (qJ U BU);have hok2:=And.intro hv2 (EK hw2 (qJ U BU));have hr2:=aVM (x:=DT r2) rfl rfl hc2;clear Y z;simp only[Rs]at I;have hlt0:∀x∈p0,x.block<W.heap.size:=λx hx=>aGJ
 have L:∀(W':BX),Below W.heap.size W W'->DataW.Trod enc Ak W' 0 (λb=>b<W.heap.size) true 45 (.agg w0) d0 p0:=
  λW' J=>Below.trod Tryz.Fa A8 (VB A8) h0k J hlt0
 have hlt1:∀x∈p1,x.block<W.heap.size:=λx hx=>aGJ
 have M:∀(W':BX),Below W.heap.size W W'->DataW.Trod enc Ak W' 0 (λb=>b<W.heap.size) true 3 (.int .i64 w1) d1 p1:=
  λW' J=>Below.trod Tryz.Fa A8 (VB A8) h1k J hlt1
 have hlt2:∀x∈p2,x.block<W.heap.size:=λx hx=>aGJ
 have O:∀(W':BX),Below W.heap.size W W'->DataW.Trod enc Ak W' 0 (λb=>b<W.heap.size) true 9 (.string w2) d2 p2:=
  λW' J=>Below.trod Tryz.Fa A8 (VB A8) h2k J hlt2
 refine(EW.law (xs:=[CZ r0,Ad r1,DT r2]) (W:=W) (aWO r0 r1 r2 true (alx r0 r1 r2 Z hok1 hok2)) rfl (λi hi=>?_)).mono λe W' he=>?_
 ·match i,hi with
  |0,_=>exact hr0
  |1,_=>exact hr1
  |2,_=>exact hr2
 obtain⟨rfl,J⟩:=he;exact⟨_,rfl,_,_,_,[],(p0++(p1++p2)),[],I,trodAll_mk1 (shut_bool Zt _),trodAll_mk3 (L W' J) (M W' J) (O W' J),rfl,J.frame _,λh=>IK⟩
def Tryz.ajI:mapsRowed Ak=true:=A8
def Tryz.amO:Ak.inPlace 8=["internal/bytealg.IndexByteString", "internal/bytealg.IndexString", "slices.overlaps[fedchat/api.Event]"]:=A8
def Tryz.Vl:Ak.unfollowed 8=true:=A8
def Tryz.alZ:Ak.recurses 8=true:=by unfold Program.recurses;rw[Tryz.Vl];rfl
def Tryz.aqV:Ak.varsNamed 8=["internal/bytealg.MaxLen"]:=A8
def Tryz.ajJ:(Rows.roomChecksUptoRow.plainKeys==Ak.plainKeys)=true:=A8
def Tryz.aiQ:Ak.stopsHeard=true:=A8
def Tryz.al0:Ak.mayEnter=true:=A8
def Tryz.aoX:(Rows.roomChecksUptoRow.lifted==Ak.liftsFinal)=true:=A8
def Tryz.asl:(Ak.make==some Rows.roomChecksUptoRow.make)=true:=A8
def Tryz.aoY:joinedFacts Ak 8 Tryz.f8 (Rows.OpenSpec.upto Rows.roomChecksSpec).bare Rows.roomChecksUptoRow=true:=by
 unfold joinedFacts;rw[Tryz.Fa,Tryz.ajI,Tryz.amO,Tryz.Vl,Tryz.alZ,Tryz.aqV,Tryz.ajJ,Tryz.aiQ,Tryz.al0,Tryz.aoX,Tryz.asl];kernel_rfl
theorem roomChecksUpto_holds :Rows.RoomChecksUptoSaid:=
 OpenClaim.holds_of_cond 8 Tryz.f8 rfl rfl rfl rfl rfl rfl rfl ⟨rfl,rfl,rfl,rfl,rfl⟩ rfl rfl rfl rfl rfl A8 func8 Tryz.aoY
  (VB A8) (by unfold Func.isWrapper;first|(rw[ES Nb];kernel_rfl)|(rw[EZ Nb];exact⟨rfl,rfl⟩))
  (λos j H enc _ F=>abM os j H enc F)
end
end Go.Proofs.YtfmoknlmaldmlaaGreat
