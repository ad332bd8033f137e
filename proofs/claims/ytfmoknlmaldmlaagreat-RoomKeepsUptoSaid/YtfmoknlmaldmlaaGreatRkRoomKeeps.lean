/- The law RoomKeeps holds (short forms written by wip/shrink.py; no condition). -/
import Derived.Test.YtfmoknlmaldmlaaGreatRk8
set_option linter.defProp false
set_option linter.unnecessarySimpa false
set_option linter.unusedSectionVars false
set_option linter.unusedVariables false
set_option linter.unusedSimpArgs false
namespace Go.Proofs.YtfmoknlmaldmlaaGreat
open Go.RowKit Go.Proofs.Tryz
def aOT (x:IQ):Prop:=x.User.size<=1048576/\(IntKind.i64.min<=x.N/\x.N<=IntKind.i64.max)
def yK (x:IQ):Nat:=0+x.User.size
variable {H:Type}
set_option maxRecDepth 20000 in
def akJ (enc:Bz×BI->H)(w:Ba)(base:Nat)(spare:Nat->AX)(held:AX):OZ 1048576 enc Au w base spare held 146 FB aOT yK:=by
 intro Ar cs x h j;have hl:=UY Tryz.underlying146 h 2 AA;obtain⟨a0,q,z⟩:=FI Tryz.underlying146 h j 0 9 0 1 AA (Rj Oi);obtain⟨I,u,h1⟩:=FI Tryz.underlying146 h j 1 3 1 1 AA (JC J6);have J:a0.size+1<=partAt x.1 0:=q.2;have L:0+1<=partAt x.1 1:=u.2;have hs:partAt x.1 0+(partAt x.1 1+(0))+1<=_:=UO x.1 2;exact⟨⟨a0,I⟩,⟨q.1,u.1⟩,by unfold yK;(try simp only[]);omega,UM [1,1] V7 (EG.append z (EG.append h1 (EG.nil w)))⟩
def aNo (x:Jr):Prop:=(IntKind.i64.min<=x.Kind/\x.Kind<=IntKind.i64.max)/\(IntKind.i64.min<=x.N/\x.N<=IntKind.i64.max)
def aAZ (x:Jr):Nat:=0
set_option maxRecDepth 20000 in
def ajw (enc:Bz×BI->H)(w:Ba)(base:Nat)(spare:Nat->AX)(held:AX):OZ 1048576 enc Au w base spare held 221 FD aNo aAZ:=by
 intro Ar cs x h j;have hl:=UY Tryz.underlying221 h 2 AA;obtain⟨a0,q,z⟩:=FI Tryz.underlying221 h j 0 26 0 1 AA (JC Tryz.underlying26);obtain⟨I,u,h1⟩:=FI Tryz.underlying221 h j 1 3 1 1 AA (JC J6);have J:0+1<=partAt x.1 0:=q.2;have L:0+1<=partAt x.1 1:=u.2;have hs:partAt x.1 0+(partAt x.1 1+(0))+1<=_:=UO x.1 2;exact⟨⟨a0,I⟩,⟨q.1,u.1⟩,by unfold aAZ;(try simp only[]);omega,UM [1,1] V7 (EG.append z (EG.append h1 (EG.nil w)))⟩
def aSy (x:Cx):Prop:=(x.Users.length<=1048576/\∀j∈x.Users,aOT j)/\(x.Kinds.length<=1048576/\∀q∈x.Kinds,aNo q)/\(IntKind.i64.min<=x.User/\x.User<=IntKind.i64.max)/\(IntKind.i64.min<=x.Message/\x.Message<=IntKind.i64.max)/\(IntKind.i64.min<=x.State/\x.State<=IntKind.i64.max)/\(IntKind.i64.min<=x.gW/\x.gW<=IntKind.i64.max)/\(IntKind.i64.min<=x.kS/\x.kS<=IntKind.i64.max)/\(IntKind.i64.min<=x.oN/\x.oN<=IntKind.i64.max)/\(IntKind.i64.min<=x.iq/\x.iq<=IntKind.i64.max)
def vK (x:Cx):Nat:=0+JR yK x.Users+JR aAZ x.Kinds
set_option maxRecDepth 20000 in
def adP (enc:Bz×BI->H)(w:Ba)(base:Nat)(spare:Nat->AX)(held:AX):OZ 1048576 enc Au w base spare held 32 FN aSy vK:=by
 intro Ar cs x h j;have hl:=UY Wi h 9 AA;obtain⟨a0,q,Y⟩:=FI Wi h j 0 29 0 1 AA (Ri (sz:=2) Tryz.underlying29 AA Bj (λ_=>rfl) (akJ enc w base spare held));obtain⟨u,z,h1⟩:=FI Wi h j 1 30 1 1 AA (Ri (sz:=2) Tryz.underlying30 AA Bj (λ_=>rfl) (ajw enc w base spare held));obtain⟨Z,v2,h2⟩:=FI Wi h j 2 3 2 1 AA (JC J6);obtain⟨a3,I,h3⟩:=FI Wi h j 3 3 3 1 AA (JC J6);obtain⟨a4,J,h4⟩:=FI Wi h j 4 3 4 1 AA (JC J6);obtain⟨a5,L,h5⟩:=FI Wi h j 5 3 5 1 AA (JC J6);obtain⟨a6,M,h6⟩:=FI Wi h j 6 3 6 1 AA (JC J6);obtain⟨a7,O,h7⟩:=FI Wi h j 7 3 7 1 AA (JC J6);obtain⟨a8,U,h8⟩:=FI Wi h j 8 3 8 1 AA (JC J6);have q0:JR yK a0+1<=partAt x.1 0:=q.2;have q1:JR aAZ u+1<=partAt x.1 1:=z.2;have q2:0+1<=partAt x.1 2:=v2.2;have q3:0+1<=partAt x.1 3:=I.2;have q4:0+1<=partAt x.1 4:=J.2;have q5:0+1<=partAt x.1 5:=L.2;have q6:0+1<=partAt x.1 6:=M.2;have q7:0+1<=partAt x.1 7:=O.2;have q8:0+1<=partAt x.1 8:=U.2;have hs:partAt x.1 0+(partAt x.1 1+(partAt x.1 2+(partAt x.1 3+(partAt x.1 4+(partAt x.1 5+(partAt x.1 6+(partAt x.1 7+(partAt x.1 8+(0)))))))))+1<=_:=UO x.1 9;exact⟨⟨a0,u,Z,a3,a4,a5,a6,a7,a8⟩,⟨q.1,z.1,v2.1,I.1,J.1,L.1,M.1,O.1,U.1⟩,by unfold vK;(try simp only[]);omega,UM [1,1,1,1,1,1,1,1,1] V7 (EG.append Y (EG.append h1 (EG.append h2 (EG.append h3 (EG.append h4 (EG.append h5 (EG.append h6 (EG.append h7 (EG.append h8 (EG.nil w))))))))))⟩
def aWv (x:D8):Prop:=x.Text.size<=1048576/\(IntKind.i64.min<=x.N/\x.N<=IntKind.i64.max)/\(IntKind.i64.min<=x.Target/\x.Target<=IntKind.i64.max)/\True/\x.Via.size<=1048576/\(x.Allow.length<=1048576/\∀j∈x.Allow,j.size<=1048576)/\(x.iK.length<=1048576/\∀q∈x.iK,q.size<=1048576)/\aSy x.Levels
def zO (x:D8):Nat:=0+x.Text.size+x.Via.size+JR (λs:BO=>s.size) x.Allow+JR (λs:BO=>s.size) x.iK+vK x.Levels
set_option maxRecDepth 20000 in
def acT (enc:Bz×BI->H)(w:Ba)(base:Nat)(spare:Nat->AX)(held:AX):OZ 1048576 enc Au w base spare held 34 GN aWv zO:=by
 intro Ar cs x h j;have hl:=UY X6 h 16 AA;obtain⟨a0,q,h0⟩:=FI X6 h j 0 9 0 1 AA (Rj Oi);obtain⟨a1,u,h1⟩:=FI X6 h j 1 3 1 1 AA (JC J6);obtain⟨a2,v2,h2⟩:=FI X6 h j 2 3 2 1 AA (JC J6);obtain⟨a3,z,h3⟩:=FI X6 h j 3 4 3 1 AA (aKJ Zk);obtain⟨I,J,h4⟩:=FI X6 h j 4 9 4 1 AA (Rj Oi);obtain⟨L,M,h5⟩:=FI X6 h j 5 28 5 1 AA (Ri (sz:=1) Tryz.underlying28 AA Bj (λ_=>rfl) (Rj Oi));obtain⟨O,U,h6⟩:=FI X6 h j 6 28 6 1 AA (Ri (sz:=1) Tryz.underlying28 AA Bj (λ_=>rfl) (Rj Oi));obtain⟨Y,Z,h7⟩:=FI X6 h j 7 32 7 9 AA (adP enc w base spare held);have q0:a0.size+1<=partAt x.1 0:=q.2;have q1:0+1<=partAt x.1 1:=u.2;have q2:0+1<=partAt x.1 2:=v2.2;have q3:0+1<=partAt x.1 3:=z.2;have q4:I.size+1<=partAt x.1 4:=J.2;have q5:JR (λs:BO=>s.size) L+1<=partAt x.1 5:=M.2;have q6:JR (λs:BO=>s.size) O+1<=partAt x.1 6:=U.2;have q7:vK Y+1<=partAt x.1 7:=Z.2;have hs:partAt x.1 0+(partAt x.1 1+(partAt x.1 2+(partAt x.1 3+(partAt x.1 4+(partAt x.1 5+(partAt x.1 6+(partAt x.1 7+(0))))))))+1<=_:=UO x.1 8;exact⟨⟨a0,a1,a2,a3,I,L,O,Y⟩,⟨q.1,u.1,v2.1,z.1,J.1,M.1,U.1,Z.1⟩,by unfold zO;(try simp only[]);omega,UM [1,1,1,1,1,1,1,9] V7 (EG.append h0 (EG.append h1 (EG.append h2 (EG.append h3 (EG.append h4 (EG.append h5 (EG.append h6 (EG.append h7 (EG.nil w)))))))))⟩
def aMR (x:PW):Prop:=x.Server.size<=1048576/\(IntKind.i64.min<=x.Sum/\x.Sum<=IntKind.i64.max)
def aAv (x:PW):Nat:=0+x.Server.size
set_option maxRecDepth 20000 in
def ado (enc:Bz×BI->H)(w:Ba)(base:Nat)(spare:Nat->AX)(held:AX):OZ 1048576 enc Au w base spare held 36 af0 aMR aAv:=by
 intro Ar cs x h j;have hl:=UY Tryz.underlying36 h 2 AA;obtain⟨a0,q,z⟩:=FI Tryz.underlying36 h j 0 9 0 1 AA (Rj Oi);obtain⟨I,u,h1⟩:=FI Tryz.underlying36 h j 1 3 1 1 AA (JC J6);have J:a0.size+1<=partAt x.1 0:=q.2;have L:0+1<=partAt x.1 1:=u.2;have hs:partAt x.1 0+(partAt x.1 1+(0))+1<=_:=UO x.1 2;exact⟨⟨a0,I⟩,⟨q.1,u.1⟩,by unfold aAv;(try simp only[]);omega,UM [1,1] V7 (EG.append z (EG.append h1 (EG.nil w)))⟩
def jF (x:AQ):Prop:=(IntKind.i64.min<=x.Id/\x.Id<=IntKind.i64.max)/\x.Room.size<=1048576/\x.bQ.size<=1048576/\(IntKind.i64.min<=x.Kind/\x.Kind<=IntKind.i64.max)/\True/\x.Key.size<=1048576/\(IntKind.i64.min<=x.Time/\x.Time<=IntKind.i64.max)/\(IntKind.i64.min<=x.Depth/\x.Depth<=IntKind.i64.max)/\(x.bH.length<=1048576/\∀j∈x.bH,(IntKind.i64.min<=j/\j<=IntKind.i64.max))/\(x.bJ.length<=1048576/\∀q∈x.bJ,(IntKind.i64.min<=q/\q<=IntKind.i64.max))/\aWv x.Content/\(IntKind.i64.min<=x.Hash/\x.Hash<=IntKind.i64.max)/\aMR x.rV
def Vo (x:AQ):Nat:=0+x.Room.size+x.bQ.size+x.Key.size+JR (λ_=>0) x.bH+JR (λ_=>0) x.bJ+zO x.Content+aAv x.rV
set_option maxRecDepth 20000 in
def aFc (enc:Bz×BI->H)(w:Ba)(base:Nat)(spare:Nat->AX)(held:AX):OZ 1048576 enc Au w base spare held 38 BF jF Vo:=by
 intro Ar cs x h j;have hl:=UY QD h 29 AA;obtain⟨a0,Y,h0⟩:=FI QD h j 0 3 0 1 AA (JC J6);obtain⟨Z,v1,h1⟩:=FI QD h j 1 9 1 1 AA (Rj Oi);obtain⟨a2,v2,h2⟩:=FI QD h j 2 9 2 1 AA (Rj Oi);obtain⟨a3,v3,h3⟩:=FI QD h j 3 26 3 1 AA (JC Tryz.underlying26);obtain⟨a4,v4,h4⟩:=FI QD h j 4 4 4 1 AA (aKJ Zk);obtain⟨a5,v5,h5⟩:=FI QD h j 5 9 5 1 AA (Rj Oi);obtain⟨a6,v6,h6⟩:=FI QD h j 6 3 6 1 AA (JC J6);obtain⟨a7,v7,h7⟩:=FI QD h j 7 3 7 1 AA (JC J6);obtain⟨a8,v8,h8⟩:=FI QD h j 8 27 8 1 AA (Ri (sz:=1) uN AA Bj (λ_=>rfl) (JC J6));obtain⟨a9,v9,h9⟩:=FI QD h j 9 27 9 1 AA (Ri (sz:=1) uN AA Bj (λ_=>rfl) (JC J6));obtain⟨q,u,L⟩:=FI QD h j 10 34 10 16 AA (acT enc w base spare held);obtain⟨M,z,O⟩:=FI QD h j 11 3 26 1 AA (JC J6);obtain⟨I,J,U⟩:=FI QD h j 12 36 27 2 AA (ado enc w base spare held);have q0:0+1<=partAt x.1 0:=Y.2;have q1:Z.size+1<=partAt x.1 1:=v1.2;have q2:a2.size+1<=partAt x.1 2:=v2.2;have q3:0+1<=partAt x.1 3:=v3.2;have q4:0+1<=partAt x.1 4:=v4.2;have q5:a5.size+1<=partAt x.1 5:=v5.2;have q6:0+1<=partAt x.1 6:=v6.2;have q7:0+1<=partAt x.1 7:=v7.2;have q8:JR (λ_=>0) a8+1<=partAt x.1 8:=v8.2;have q9:JR (λ_=>0) a9+1<=partAt x.1 9:=v9.2;have q10:zO q+1<=partAt x.1 10:=u.2;have q11:0+1<=partAt x.1 11:=z.2;have q12:aAv I+1<=partAt x.1 12:=J.2;have hs:partAt x.1 0+(partAt x.1 1+(partAt x.1 2+(partAt x.1 3+(partAt x.1 4+(partAt x.1 5+(partAt x.1 6+(partAt x.1 7+(partAt x.1 8+(partAt x.1 9+(partAt x.1 10+(partAt x.1 11+(partAt x.1 12+(0)))))))))))))+1<=_:=UO x.1 13;exact⟨⟨a0,Z,a2,a3,a4,a5,a6,a7,a8,a9,q,M,I⟩,⟨Y.1,v1.1,v2.1,v3.1,v4.1,v5.1,v6.1,v7.1,v8.1,v9.1,u.1,z.1,J.1⟩,by unfold Vo;(try simp only[]);omega,UM [1,1,1,1,1,1,1,1,1,1,16,1,2] V7 (EG.append h0 (EG.append h1 (EG.append h2 (EG.append h3 (EG.append h4 (EG.append h5 (EG.append h6 (EG.append h7 (EG.append h8 (EG.append h9 (EG.append L (EG.append O (EG.append U (EG.nil w))))))))))))))⟩
def aWG (x:FZ):Prop:=(IntKind.i64.min<=x.Pos/\x.Pos<=IntKind.i64.max)/\(IntKind.i64.min<=x.Id/\x.Id<=IntKind.i64.max)/\(IntKind.i64.min<=x.Status/\x.Status<=IntKind.i64.max)/\True
def a4w (x:FZ):Nat:=0
set_option maxRecDepth 20000 in
def aXz (enc:Bz×BI->H)(w:Ba)(base:Nat)(spare:Nat->AX)(held:AX):OZ 1048576 enc Au w base spare held 79 Em aWG a4w:=by
 intro Ar cs x h j;have hl:=UY rE h 4 AA;obtain⟨a0,q,I⟩:=FI rE h j 0 3 0 1 AA (JC J6);obtain⟨J,u,h1⟩:=FI rE h j 1 3 1 1 AA (JC J6);obtain⟨L,v2,h2⟩:=FI rE h j 2 71 2 1 AA (JC Tryz.underlying71);obtain⟨M,z,h3⟩:=FI rE h j 3 4 3 1 AA (aKJ Zk);have O:0+1<=partAt x.1 0:=q.2;have U:0+1<=partAt x.1 1:=u.2;have Y:0+1<=partAt x.1 2:=v2.2;have Z:0+1<=partAt x.1 3:=z.2;have hs:partAt x.1 0+(partAt x.1 1+(partAt x.1 2+(partAt x.1 3+(0))))+1<=_:=UO x.1 4;exact⟨⟨a0,J,L,M⟩,⟨q.1,u.1,v2.1,z.1⟩,by unfold a4w;(try simp only[]);omega,UM [1,1,1,1] V7 (EG.append I (EG.append h1 (EG.append h2 (EG.append h3 (EG.nil w)))))⟩
def aUE (x:BL):Prop:=(IntKind.i64.min<=x.Kind/\x.Kind<=IntKind.i64.max)/\x.Key.size<=1048576/\(IntKind.i64.min<=x.Id/\x.Id<=IntKind.i64.max)
def a2r (x:BL):Nat:=0+x.Key.size
set_option maxRecDepth 20000 in
def abx (enc:Bz×BI->H)(w:Ba)(base:Nat)(spare:Nat->AX)(held:AX):OZ 1048576 enc Au w base spare held 82 BX aUE a2r:=by
 intro Ar cs x h j;have hl:=UY aA0 h 3 AA;obtain⟨a0,q,I⟩:=FI aA0 h j 0 26 0 1 AA (JC Tryz.underlying26);obtain⟨u,z,h1⟩:=FI aA0 h j 1 9 1 1 AA (Rj Oi);obtain⟨J,v2,h2⟩:=FI aA0 h j 2 3 2 1 AA (JC J6);have L:0+1<=partAt x.1 0:=q.2;have M:u.size+1<=partAt x.1 1:=z.2;have O:0+1<=partAt x.1 2:=v2.2;have hs:partAt x.1 0+(partAt x.1 1+(partAt x.1 2+(0)))+1<=_:=UO x.1 3;exact⟨⟨a0,u,J⟩,⟨q.1,z.1,v2.1⟩,by unfold a2r;(try simp only[]);omega,UM [1,1,1] V7 (EG.append I (EG.append h1 (EG.append h2 (EG.nil w))))⟩
def aUK (x:nJ):Prop:=x.User.size<=1048576/\(IntKind.i64.min<=x.Thread/\x.Thread<=IntKind.i64.max)/\(IntKind.i64.min<=x.Id/\x.Id<=IntKind.i64.max)/\(IntKind.i64.min<=x.Time/\x.Time<=IntKind.i64.max)
def a1V (x:nJ):Nat:=0+x.User.size
set_option maxRecDepth 20000 in
def ac6 (enc:Bz×BI->H)(w:Ba)(base:Nat)(spare:Nat->AX)(held:AX):OZ 1048576 enc Au w base spare held 102 aFM aUK a1V:=by
 intro Ar cs x h j;have hl:=UY vC h 4 AA;obtain⟨a0,q,I⟩:=FI vC h j 0 9 0 1 AA (Rj Oi);obtain⟨J,u,h1⟩:=FI vC h j 1 3 1 1 AA (JC J6);obtain⟨L,v2,h2⟩:=FI vC h j 2 3 2 1 AA (JC J6);obtain⟨M,z,h3⟩:=FI vC h j 3 3 3 1 AA (JC J6);have O:a0.size+1<=partAt x.1 0:=q.2;have U:0+1<=partAt x.1 1:=u.2;have Y:0+1<=partAt x.1 2:=v2.2;have Z:0+1<=partAt x.1 3:=z.2;have hs:partAt x.1 0+(partAt x.1 1+(partAt x.1 2+(partAt x.1 3+(0))))+1<=_:=UO x.1 4;exact⟨⟨a0,J,L,M⟩,⟨q.1,u.1,v2.1,z.1⟩,by unfold a1V;(try simp only[]);omega,UM [1,1,1,1] V7 (EG.append I (EG.append h1 (EG.append h2 (EG.append h3 (EG.nil w)))))⟩
def aXB (x:nD):Prop:=x.User.size<=1048576/\(IntKind.i64.min<=x.Until/\x.Until<=IntKind.i64.max)
def a6D (x:nD):Nat:=0+x.User.size
set_option maxRecDepth 20000 in
def abX (enc:Bz×BI->H)(w:Ba)(base:Nat)(spare:Nat->AX)(held:AX):OZ 1048576 enc Au w base spare held 104 aCz aXB a6D:=by
 intro Ar cs x h j;have hl:=UY Tryz.underlying104 h 2 AA;obtain⟨a0,q,z⟩:=FI Tryz.underlying104 h j 0 9 0 1 AA (Rj Oi);obtain⟨I,u,h1⟩:=FI Tryz.underlying104 h j 1 3 1 1 AA (JC J6);have J:a0.size+1<=partAt x.1 0:=q.2;have L:0+1<=partAt x.1 1:=u.2;have hs:partAt x.1 0+(partAt x.1 1+(0))+1<=_:=UO x.1 2;exact⟨⟨a0,I⟩,⟨q.1,u.1⟩,by unfold a6D;(try simp only[]);omega,UM [1,1] V7 (EG.append z (EG.append h1 (EG.nil w)))⟩
def aEI (x:C9):Prop:=x.Id.size<=1048576/\(x.Events.length<=1048576/\∀I∈x.Events,jF I)/\(x.Rows.length<=1048576/\∀J∈x.Rows,aWG J)/\(x.Waiting.length<=1048576/\∀L∈x.Waiting,jF L)/\(x.vY.length<=1048576/\∀j∈x.vY,(IntKind.i64.min<=j/\j<=IntKind.i64.max))/\(x.State.length<=1048576/\∀q∈x.State,aUE q)/\(IntKind.i64.min<=x.Next/\x.Next<=IntKind.i64.max)/\(x.uI.length<=1048576/\∀u∈x.uI,aUK u)/\(x.BM.length<=1048576/\∀z∈x.BM,aXB z)
def aBO (x:C9):Nat:=0+x.Id.size+JR Vo x.Events+JR a4w x.Rows+JR Vo x.Waiting+JR (λ_=>0) x.vY+JR a2r x.State+JR a1V x.uI+JR a6D x.BM
set_option maxRecDepth 20000 in
def adX (enc:Bz×BI->H)(w:Ba)(base:Nat)(spare:Nat->AX)(held:AX):OZ 1048576 enc Au w base spare held 45 Cb aEI aBO:=by
 intro Ar cs x h j;have hl:=UY V3 h 9 AA;obtain⟨a0,q,h0⟩:=FI V3 h j 0 9 0 1 AA (Rj Oi);obtain⟨u,z,h1⟩:=FI V3 h j 1 22 1 1 AA (Ri (sz:=29) SPr AA Bj (λ_=>rfl) (aFc enc w base spare held));obtain⟨I,v2,h2⟩:=FI V3 h j 2 39 2 1 AA (Ri (sz:=4) Tryz.underlying39 AA Bj (λ_=>rfl) (aXz enc w base spare held));obtain⟨J,L,h3⟩:=FI V3 h j 3 22 3 1 AA (Ri (sz:=29) SPr AA Bj (λ_=>rfl) (aFc enc w base spare held));obtain⟨M,O,h4⟩:=FI V3 h j 4 27 4 1 AA (Ri (sz:=1) uN AA Bj (λ_=>rfl) (JC J6));obtain⟨U,Y,h5⟩:=FI V3 h j 5 41 5 1 AA (Ri (sz:=3) Tryz.underlying41 AA Bj (λ_=>rfl) (abx enc w base spare held));obtain⟨a6,Z,h6⟩:=FI V3 h j 6 3 6 1 AA (JC J6);obtain⟨a7,v7,h7⟩:=FI V3 h j 7 42 7 1 AA (Ri (sz:=4) Tryz.underlying42 AA Bj (λ_=>rfl) (ac6 enc w base spare held));obtain⟨a8,v8,h8⟩:=FI V3 h j 8 43 8 1 AA (Ri (sz:=2) Tryz.underlying43 AA Bj (λ_=>rfl) (abX enc w base spare held));have q0:a0.size+1<=partAt x.1 0:=q.2;have q1:JR Vo u+1<=partAt x.1 1:=z.2;have q2:JR a4w I+1<=partAt x.1 2:=v2.2;have q3:JR Vo J+1<=partAt x.1 3:=L.2;have q4:JR (λ_=>0) M+1<=partAt x.1 4:=O.2;have q5:JR a2r U+1<=partAt x.1 5:=Y.2;have q6:0+1<=partAt x.1 6:=Z.2;have q7:JR a1V a7+1<=partAt x.1 7:=v7.2;have q8:JR a6D a8+1<=partAt x.1 8:=v8.2;have hs:partAt x.1 0+(partAt x.1 1+(partAt x.1 2+(partAt x.1 3+(partAt x.1 4+(partAt x.1 5+(partAt x.1 6+(partAt x.1 7+(partAt x.1 8+(0)))))))))+1<=_:=UO x.1 9;exact⟨⟨a0,u,I,J,M,U,a6,a7,a8⟩,⟨q.1,z.1,v2.1,L.1,O.1,Y.1,Z.1,v7.1,v8.1⟩,by unfold aBO;(try simp only[]);omega,UM [1,1,1,1,1,1,1,1,1] V7 (EG.append h0 (EG.append h1 (EG.append h2 (EG.append h3 (EG.append h4 (EG.append h5 (EG.append h6 (EG.append h7 (EG.append h8 (EG.nil w))))))))))⟩
variable {e:AQ}
def aN1 (h:jF e):LM e:=by
 obtain⟨_,h1,h2,_,_,h3,_,_,⟨z,_⟩,⟨I,_⟩,J,_,hs⟩:=h;obtain⟨L,_,_,_,M,⟨O,U⟩,⟨Y,Z⟩,hl⟩:=J;obtain⟨⟨l1,l2⟩,⟨l3,_⟩,_⟩:=hl;have j:∀{n:Nat},n<=1048576->n<=9223372036854775807:=λh=>EK h (Dt rfl);exact⟨j z,j I,j h1,j h2,j h3,j hs.1,⟨j O,j Y,j l1,j l3,j L,j M,λx q=>j (U x q),λx q=>j (Z x q),λu hu=>j (l2 u hu).1⟩⟩
def aPk {l:A8 AQ}(h:l.length<=1048576/\∀y∈l,jF y):∀e∈l,LM e:=λe j=>aN1 (h.2 e j)
def aZZ (h:Vo e+1<=1048576):U1 e.Content<=1048576:=by
 have j:(λu:IQ=>u.User.size)=yK:=funext λu=>(Ky _).symm;unfold Vo zO vK at h;unfold JR at h;unfold U1 SK Vw;rw[j];omega
def ae9 {r:C9}(h:aEI r/\aBO r+1<=1048576)(k:jF e/\Vo e+1<=1048576):aGW r e:=
 ⟨EK h.1.1 (Dt rfl),aPk h.1.2.1,aPk h.1.2.2.2.1,aN1 k.1,aZZ k.2⟩
def ahZ (r:C9)(e:AQ)(h:aEI r/\aBO r+1<=1048576)(k:jF e/\Vo e+1<=1048576):aH1 r e=some true:=aXX (ae9 h k)
section
open Go.ChangeShapes Go.WideShapes Go.ChangeAt Go.RowKit
def Tryz.ayp:ownKnob Au.godebug=none:=AA
def Tryz.Rh:laidOutB Au=true:=AA
set_option maxHeartbeats 1600000 in
set_option maxRecDepth 100000 in
def aZV (os:Os)(started:os.Started)(H:Type)(enc:Bz×BI->H)(F:Stop.Interp):
 ReturnsInHanded {} Tryz.checked os 7 .any ((Rows.OpenSpec.upto Rows.roomKeepsSpec).pre6 enc Au Tryz.f7 Rows.roomKeepsUptoRow.domain false) (((Rows.OpenSpec.upto Rows.roomKeepsSpec).at F).post enc Au Tryz.f7 false true false false):=by
 refine returnsInHanded_of_cond (C:=Tryz.checked) (s:=Rows.OpenSpec.upto Rows.roomKeepsSpec) (k:=Rows.uptoSmall) rfl Tryz.ayp started AA func7
  (OpenSpec.witness (enc:=enc) (C:=Tryz.checked) (s:=Rows.OpenSpec.upto Rows.roomKeepsSpec) (k:=Rows.uptoSmall) rfl false ⟨#[], #[(.agg #[.string Ce,.slice none 0 0,.slice none 0 0,.slice none 0 0,.slice none 0 0,.slice none 0 0,.int .i64 0,.slice none 0 0,.slice none 0 0]),(.agg #[.int .i64 0,.string Ce,.string Ce,.int .i64 0,.bool false,.string Ce,.int .i64 0,.int .i64 0,.slice none 0 0,.slice none 0 0,.string Ce,.int .i64 0,.int .i64 0,.bool false,.string Ce,.slice none 0 0,.slice none 0 0,.slice none 0 0,.slice none 0 0,.int .i64 0,.int .i64 0,.int .i64 0,.int .i64 0,.int .i64 0,.int .i64 0,.int .i64 0,.int .i64 0,.string Ce,.int .i64 0])],[]⟩ 8 AA AA AA
   (x:=([.agg [.lit (.string []),.nil,.nil,.nil,.nil,.nil,.lit (.int .i64 0),.nil,.nil],.agg [.lit (.int .i64 0),.lit (.string []),.lit (.string []),.lit (.int .i64 0),.lit (.bool false),.lit (.string []),.lit (.int .i64 0),.lit (.int .i64 0),.nil,.nil,.agg [.lit (.string []),.lit (.int .i64 0),.lit (.int .i64 0),.lit (.bool false),.lit (.string []),.nil,.nil,.agg [.nil,.nil,.lit (.int .i64 0),.lit (.int .i64 0),.lit (.int .i64 0),.lit (.int .i64 0),.lit (.int .i64 0),.lit (.int .i64 0),.lit (.int .i64 0)]],.lit (.int .i64 0),.agg [.lit (.string []),.lit (.int .i64 0)]]],[],[])) AA rfl AA) ?_
 intro W base args ds gs before u hW _ hk _;show Calls _ _ _ _ λe W'=>∃v,e=.returned v/\Rows.roomKeepsSpec.post enc Au Tryz.f7 false true false false W args v W';have z:∀(j:Nat) t v,Tryz.f7.params[j]? =some t->args[j]? =some v->Value.okWide Au W .any base t v:=u;have I:=hW;obtain⟨p,q,O,hV,rfl,_,_⟩:=hW;have hA:DataW.TrodAll enc Au W 0 (λ_=>true) true Tryz.f7.params.toList args.toList ds p:=O;rw[Tryz.params7]at hA z;obtain⟨v0,v1,d0,d1,p0,p1,rfl,rfl,rfl,h0,h1⟩:=trodAll_two hA;obtain⟨rfl,rfl⟩:=trodVars_none hV;obtain⟨w0,rfl, -⟩:=okWide_struct V3 (z 0 45 v0 rfl rfl);have h0k:=h0;obtain⟨fuel0,hf0⟩:=h0;obtain⟨r0,hv0,hw0,hc0⟩:=(adX enc W _ _ _) _ _ _ hf0 (a7l hk Bf);have U:=And.intro hv0 (EK hw0 (a7l hk Bf));have hr0:=aM6 (x:=Cb r0) rfl hc0;obtain⟨w1,rfl, -⟩:=okWide_struct QD (z 1 38 v1 rfl rfl);have h1k:=h1;obtain⟨fuel1,hf1⟩:=h1;obtain⟨r1,hv1,hw1,hc1⟩:=(aFc enc W _ _ _) _ _ _ hf1 (a7l hk Bf);have Y:=And.intro hv1 (EK hw1 (a7l hk Bf));have hr1:=aM6 (x:=BF r1) rfl hc1;clear O u;simp only[RZ]at I;have Z:∀x∈p0,x.block<W.heap.size:=λx hx=>by simpa using I.lt x (by simp[hx])
 have J:∀(W':Ba),Below W.heap.size W W'->DataW.Trod enc Au W' 0 (λb=>b<W.heap.size) true 45 (.agg w0) d0 p0:=
  λW' M=>Below.trod Tryz.Rh AA (P7 AA) h0k M Z
 have hlt1:∀x∈p1,x.block<W.heap.size:=λx hx=>by simpa using I.lt x (by simp[hx])
 have L:∀(W':Ba),Below W.heap.size W W'->DataW.Trod enc Au W' 0 (λb=>b<W.heap.size) true 38 (.agg w1) d1 p1:=
  λW' M=>Below.trod Tryz.Rh AA (P7 AA) h1k M hlt1
 refine(Ee.law (xs:=[Cb r0,BF r1]) (W:=W) (abA r0 r1 true (ahZ r0 r1 U Y)) rfl (λi hi=>?_)).mono λe W' he=>?_
 ·match i,hi with
  |0,_=>exact hr0
  |1,_=>exact hr1
 obtain⟨rfl,M⟩:=he;exact⟨_,rfl,_,_,_,[],(p0++p1),[],I,trodAll_mk1 (shut_bool Zk _),trodAll_mk2 (J W' M) (L W' M),rfl,M.frame _,λh=>Gv⟩
def Tryz.ame:mapsRowed Au=true:=AA
def Tryz.apf:Au.inPlace 7=["internal/bytealg.IndexByteString", "internal/bytealg.IndexString", "slices.overlaps[fedchat/api.Event]"]:=AA
def Tryz.Vq:Au.unfollowed 7=true:=AA
def Tryz.am5:Au.recurses 7=true:=by unfold Program.recurses;rw[Tryz.Vq];rfl
def Tryz.asD:Au.varsNamed 7=["internal/bytealg.MaxLen"]:=AA
def Tryz.amf:(Rows.roomKeepsUptoRow.plainKeys==Au.plainKeys)=true:=AA
def Tryz.ajY:Au.stopsHeard=true:=AA
def Tryz.am6:Au.mayEnter=true:=AA
def Tryz.ara:(Rows.roomKeepsUptoRow.lifted==Au.liftsFinal)=true:=AA
def Tryz.au1:(Au.make==some Rows.roomKeepsUptoRow.make)=true:=AA
def Tryz.arb:joinedFacts Au 7 Tryz.f7 (Rows.OpenSpec.upto Rows.roomKeepsSpec).bare Rows.roomKeepsUptoRow=true:=by
 unfold joinedFacts;rw[Tryz.Rh,Tryz.ame,Tryz.apf,Tryz.Vq,Tryz.am5,Tryz.asD,Tryz.amf,Tryz.ajY,Tryz.am6,Tryz.ara,Tryz.au1];kernel_rfl
theorem roomKeepsUpto_holds :Rows.RoomKeepsUptoSaid:=
 OpenClaim.holds_of_cond 7 Tryz.f7 rfl rfl rfl rfl rfl rfl rfl ⟨rfl,rfl,rfl,rfl,rfl⟩ rfl rfl rfl rfl rfl AA func7 Tryz.arb
  (P7 AA) (by unfold Func.isWrapper;first|(rw[Ea OB];kernel_rfl)|(rw[Eh OB];exact⟨rfl,rfl⟩))
  (λos j H enc _ F=>aZV os j H enc F)
end
end Go.Proofs.YtfmoknlmaldmlaaGreat
