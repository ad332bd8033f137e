/- The law RoomReceives holds (short forms written by wip/shrink.py; no condition). -/
import Derived.Test.YtfmoknlmaldmlaaGreatRv7
set_option linter.defProp false
set_option linter.unnecessarySimpa false
set_option linter.unusedSectionVars false
set_option linter.unusedVariables false
set_option linter.unusedSimpArgs false
namespace Go.Proofs.YtfmoknlmaldmlaaGreat
open Go.RowKit Go.Proofs.Tryz
def aTM (x:IQ):Prop:=x.User.size<=1048576/\(IntKind.i64.min<=x.N/\x.N<=IntKind.i64.max)
def vg (x:IQ):Nat:=0+x.User.size
variable {H:Type}
set_option maxRecDepth 20000 in
def aaQ (enc:Bz×BG->H)(w:BQ)(base:Nat)(spare:Nat->AY)(held:AY):PD 1048576 enc Aq w base spare held 146 FH aTM vg:=by
 intro Am cs x h j;have hl:=VW Tryz.underlying146 h 2 A8;obtain⟨a0,q,z⟩:=FN Tryz.underlying146 h j 0 9 0 1 A8 (TG Ol);obtain⟨I,u,h1⟩:=FN Tryz.underlying146 h j 1 3 1 1 A8 (JG Iw);have J:a0.size+1<=partAt x.1 0:=q.2;have L:0+1<=partAt x.1 1:=u.2;have hs:partAt x.1 0+(partAt x.1 1+(0))+1<=_:=VQ x.1 2;exact⟨⟨a0,I⟩,⟨q.1,u.1⟩,by unfold vg;(try simp only[]);omega,VF [1,1] Va (EH.append z (EH.append h1 (EH.nil w)))⟩
def aVM (x:KL):Prop:=(IntKind.i64.min<=x.Kind/\x.Kind<=IntKind.i64.max)/\(IntKind.i64.min<=x.N/\x.N<=IntKind.i64.max)
def a7O (x:KL):Nat:=0
set_option maxRecDepth 20000 in
def aXd (enc:Bz×BG->H)(w:BQ)(base:Nat)(spare:Nat->AY)(held:AY):PD 1048576 enc Aq w base spare held 221 FI aVM a7O:=by
 intro Am cs x h j;have hl:=VW Tryz.underlying221 h 2 A8;obtain⟨a0,q,z⟩:=FN Tryz.underlying221 h j 0 26 0 1 A8 (JG Tryz.underlying26);obtain⟨I,u,h1⟩:=FN Tryz.underlying221 h j 1 3 1 1 A8 (JG Iw);have J:0+1<=partAt x.1 0:=q.2;have L:0+1<=partAt x.1 1:=u.2;have hs:partAt x.1 0+(partAt x.1 1+(0))+1<=_:=VQ x.1 2;exact⟨⟨a0,I⟩,⟨q.1,u.1⟩,by unfold a7O;(try simp only[]);omega,VF [1,1] Va (EH.append z (EH.append h1 (EH.nil w)))⟩
def aLn (x:Ci):Prop:=(x.Users.length<=1048576/\∀j∈x.Users,aTM j)/\(x.Kinds.length<=1048576/\∀q∈x.Kinds,aVM q)/\(IntKind.i64.min<=x.User/\x.User<=IntKind.i64.max)/\(IntKind.i64.min<=x.Message/\x.Message<=IntKind.i64.max)/\(IntKind.i64.min<=x.State/\x.State<=IntKind.i64.max)/\(IntKind.i64.min<=x.gY/\x.gY<=IntKind.i64.max)/\(IntKind.i64.min<=x.lg/\x.lg<=IntKind.i64.max)/\(IntKind.i64.min<=x.oV/\x.oV<=IntKind.i64.max)/\(IntKind.i64.min<=x.iq/\x.iq<=IntKind.i64.max)
def a0D (x:Ci):Nat:=0+JQ vg x.Users+JQ a7O x.Kinds
set_option maxRecDepth 20000 in
def akQ (enc:Bz×BG->H)(w:BQ)(base:Nat)(spare:Nat->AY)(held:AY):PD 1048576 enc Aq w base spare held 32 FV aLn a0D:=by
 intro Am cs x h j;have hl:=VW Vh h 9 A8;obtain⟨a0,q,Y⟩:=FN Vh h j 0 29 0 1 A8 (St (sz:=2) Tryz.underlying29 A8 Bl (λ_=>rfl) (aaQ enc w base spare held));obtain⟨u,z,h1⟩:=FN Vh h j 1 30 1 1 A8 (St (sz:=2) Tryz.underlying30 A8 Bl (λ_=>rfl) (aXd enc w base spare held));obtain⟨Z,v2,h2⟩:=FN Vh h j 2 3 2 1 A8 (JG Iw);obtain⟨a3,I,h3⟩:=FN Vh h j 3 3 3 1 A8 (JG Iw);obtain⟨a4,J,h4⟩:=FN Vh h j 4 3 4 1 A8 (JG Iw);obtain⟨a5,L,h5⟩:=FN Vh h j 5 3 5 1 A8 (JG Iw);obtain⟨a6,M,h6⟩:=FN Vh h j 6 3 6 1 A8 (JG Iw);obtain⟨a7,O,h7⟩:=FN Vh h j 7 3 7 1 A8 (JG Iw);obtain⟨a8,U,h8⟩:=FN Vh h j 8 3 8 1 A8 (JG Iw);have q0:JQ vg a0+1<=partAt x.1 0:=q.2;have q1:JQ a7O u+1<=partAt x.1 1:=z.2;have q2:0+1<=partAt x.1 2:=v2.2;have q3:0+1<=partAt x.1 3:=I.2;have q4:0+1<=partAt x.1 4:=J.2;have q5:0+1<=partAt x.1 5:=L.2;have q6:0+1<=partAt x.1 6:=M.2;have q7:0+1<=partAt x.1 7:=O.2;have q8:0+1<=partAt x.1 8:=U.2;have hs:partAt x.1 0+(partAt x.1 1+(partAt x.1 2+(partAt x.1 3+(partAt x.1 4+(partAt x.1 5+(partAt x.1 6+(partAt x.1 7+(partAt x.1 8+(0)))))))))+1<=_:=VQ x.1 9;exact⟨⟨a0,u,Z,a3,a4,a5,a6,a7,a8⟩,⟨q.1,z.1,v2.1,I.1,J.1,L.1,M.1,O.1,U.1⟩,by unfold a0D;(try simp only[]);omega,VF [1,1,1,1,1,1,1,1,1] Va (EH.append Y (EH.append h1 (EH.append h2 (EH.append h3 (EH.append h4 (EH.append h5 (EH.append h6 (EH.append h7 (EH.append h8 (EH.nil w))))))))))⟩
def aRV (x:D9):Prop:=x.Text.size<=1048576/\(IntKind.i64.min<=x.N/\x.N<=IntKind.i64.max)/\(IntKind.i64.min<=x.Target/\x.Target<=IntKind.i64.max)/\True/\x.Via.size<=1048576/\(x.Allow.length<=1048576/\∀j∈x.Allow,j.size<=1048576)/\(x.iD.length<=1048576/\∀q∈x.iD,q.size<=1048576)/\aLn x.Levels
def uh (x:D9):Nat:=0+x.Text.size+x.Via.size+JQ (λs:BL=>s.size) x.Allow+JQ (λs:BL=>s.size) x.iD+a0D x.Levels
set_option maxRecDepth 20000 in
def aYN (enc:Bz×BG->H)(w:BQ)(base:Nat)(spare:Nat->AY)(held:AY):PD 1048576 enc Aq w base spare held 34 GU aRV uh:=by
 intro Am cs x h j;have hl:=VW Y3 h 16 A8;obtain⟨a0,q,h0⟩:=FN Y3 h j 0 9 0 1 A8 (TG Ol);obtain⟨a1,u,h1⟩:=FN Y3 h j 1 3 1 1 A8 (JG Iw);obtain⟨a2,v2,h2⟩:=FN Y3 h j 2 3 2 1 A8 (JG Iw);obtain⟨a3,z,h3⟩:=FN Y3 h j 3 4 3 1 A8 (aD6 Zp);obtain⟨I,J,h4⟩:=FN Y3 h j 4 9 4 1 A8 (TG Ol);obtain⟨L,M,h5⟩:=FN Y3 h j 5 28 5 1 A8 (St (sz:=1) Tryz.underlying28 A8 Bl (λ_=>rfl) (TG Ol));obtain⟨O,U,h6⟩:=FN Y3 h j 6 28 6 1 A8 (St (sz:=1) Tryz.underlying28 A8 Bl (λ_=>rfl) (TG Ol));obtain⟨Y,Z,h7⟩:=FN Y3 h j 7 32 7 9 A8 (akQ enc w base spare held);have q0:a0.size+1<=partAt x.1 0:=q.2;have q1:0+1<=partAt x.1 1:=u.2;have q2:0+1<=partAt x.1 2:=v2.2;have q3:0+1<=partAt x.1 3:=z.2;have q4:I.size+1<=partAt x.1 4:=J.2;have q5:JQ (λs:BL=>s.size) L+1<=partAt x.1 5:=M.2;have q6:JQ (λs:BL=>s.size) O+1<=partAt x.1 6:=U.2;have q7:a0D Y+1<=partAt x.1 7:=Z.2;have hs:partAt x.1 0+(partAt x.1 1+(partAt x.1 2+(partAt x.1 3+(partAt x.1 4+(partAt x.1 5+(partAt x.1 6+(partAt x.1 7+(0))))))))+1<=_:=VQ x.1 8;exact⟨⟨a0,a1,a2,a3,I,L,O,Y⟩,⟨q.1,u.1,v2.1,z.1,J.1,M.1,U.1,Z.1⟩,by unfold uh;(try simp only[]);omega,VF [1,1,1,1,1,1,1,9] Va (EH.append h0 (EH.append h1 (EH.append h2 (EH.append h3 (EH.append h4 (EH.append h5 (EH.append h6 (EH.append h7 (EH.nil w)))))))))⟩
def aVB (x:PZ):Prop:=x.Server.size<=1048576/\(IntKind.i64.min<=x.Sum/\x.Sum<=IntKind.i64.max)
def a9D (x:PZ):Nat:=0+x.Server.size
set_option maxRecDepth 20000 in
def af8 (enc:Bz×BG->H)(w:BQ)(base:Nat)(spare:Nat->AY)(held:AY):PD 1048576 enc Aq w base spare held 36 agT aVB a9D:=by
 intro Am cs x h j;have hl:=VW Tryz.underlying36 h 2 A8;obtain⟨a0,q,z⟩:=FN Tryz.underlying36 h j 0 9 0 1 A8 (TG Ol);obtain⟨I,u,h1⟩:=FN Tryz.underlying36 h j 1 3 1 1 A8 (JG Iw);have J:a0.size+1<=partAt x.1 0:=q.2;have L:0+1<=partAt x.1 1:=u.2;have hs:partAt x.1 0+(partAt x.1 1+(0))+1<=_:=VQ x.1 2;exact⟨⟨a0,I⟩,⟨q.1,u.1⟩,by unfold a9D;(try simp only[]);omega,VF [1,1] Va (EH.append z (EH.append h1 (EH.nil w)))⟩
def gK (x:AQ):Prop:=(IntKind.i64.min<=x.Id/\x.Id<=IntKind.i64.max)/\x.Room.size<=1048576/\x.bU.size<=1048576/\(IntKind.i64.min<=x.Kind/\x.Kind<=IntKind.i64.max)/\True/\x.Key.size<=1048576/\(IntKind.i64.min<=x.Time/\x.Time<=IntKind.i64.max)/\(IntKind.i64.min<=x.Depth/\x.Depth<=IntKind.i64.max)/\(x.bG.length<=1048576/\∀j∈x.bG,(IntKind.i64.min<=j/\j<=IntKind.i64.max))/\(x.bI.length<=1048576/\∀q∈x.bI,(IntKind.i64.min<=q/\q<=IntKind.i64.max))/\aRV x.Content/\(IntKind.i64.min<=x.Hash/\x.Hash<=IntKind.i64.max)/\aVB x.sF
def WM (x:AQ):Nat:=0+x.Room.size+x.bU.size+x.Key.size+JQ (λ_=>0) x.bG+JQ (λ_=>0) x.bI+uh x.Content+a9D x.sF
set_option maxRecDepth 20000 in
def aJv (enc:Bz×BG->H)(w:BQ)(base:Nat)(spare:Nat->AY)(held:AY):PD 1048576 enc Aq w base spare held 38 Ap gK WM:=by
 intro Am cs x h j;have hl:=VW QS h 29 A8;obtain⟨a0,Y,h0⟩:=FN QS h j 0 3 0 1 A8 (JG Iw);obtain⟨Z,v1,h1⟩:=FN QS h j 1 9 1 1 A8 (TG Ol);obtain⟨a2,v2,h2⟩:=FN QS h j 2 9 2 1 A8 (TG Ol);obtain⟨a3,v3,h3⟩:=FN QS h j 3 26 3 1 A8 (JG Tryz.underlying26);obtain⟨a4,v4,h4⟩:=FN QS h j 4 4 4 1 A8 (aD6 Zp);obtain⟨a5,v5,h5⟩:=FN QS h j 5 9 5 1 A8 (TG Ol);obtain⟨a6,v6,h6⟩:=FN QS h j 6 3 6 1 A8 (JG Iw);obtain⟨a7,v7,h7⟩:=FN QS h j 7 3 7 1 A8 (JG Iw);obtain⟨a8,v8,h8⟩:=FN QS h j 8 27 8 1 A8 (St (sz:=1) a1c A8 Bl (λ_=>rfl) (JG Iw));obtain⟨a9,v9,h9⟩:=FN QS h j 9 27 9 1 A8 (St (sz:=1) a1c A8 Bl (λ_=>rfl) (JG Iw));obtain⟨q,u,L⟩:=FN QS h j 10 34 10 16 A8 (aYN enc w base spare held);obtain⟨M,z,O⟩:=FN QS h j 11 3 26 1 A8 (JG Iw);obtain⟨I,J,U⟩:=FN QS h j 12 36 27 2 A8 (af8 enc w base spare held);have q0:0+1<=partAt x.1 0:=Y.2;have q1:Z.size+1<=partAt x.1 1:=v1.2;have q2:a2.size+1<=partAt x.1 2:=v2.2;have q3:0+1<=partAt x.1 3:=v3.2;have q4:0+1<=partAt x.1 4:=v4.2;have q5:a5.size+1<=partAt x.1 5:=v5.2;have q6:0+1<=partAt x.1 6:=v6.2;have q7:0+1<=partAt x.1 7:=v7.2;have q8:JQ (λ_=>0) a8+1<=partAt x.1 8:=v8.2;have q9:JQ (λ_=>0) a9+1<=partAt x.1 9:=v9.2;have q10:uh q+1<=partAt x.1 10:=u.2;have q11:0+1<=partAt x.1 11:=z.2;have q12:a9D I+1<=partAt x.1 12:=J.2;have hs:partAt x.1 0+(partAt x.1 1+(partAt x.1 2+(partAt x.1 3+(partAt x.1 4+(partAt x.1 5+(partAt x.1 6+(partAt x.1 7+(partAt x.1 8+(partAt x.1 9+(partAt x.1 10+(partAt x.1 11+(partAt x.1 12+(0)))))))))))))+1<=_:=VQ x.1 13;exact⟨⟨a0,Z,a2,a3,a4,a5,a6,a7,a8,a9,q,M,I⟩,⟨Y.1,v1.1,v2.1,v3.1,v4.1,v5.1,v6.1,v7.1,v8.1,v9.1,u.1,z.1,J.1⟩,by unfold WM;(try simp only[]);omega,VF [1,1,1,1,1,1,1,1,1,1,16,1,2] Va (EH.append h0 (EH.append h1 (EH.append h2 (EH.append h3 (EH.append h4 (EH.append h5 (EH.append h6 (EH.append h7 (EH.append h8 (EH.append h9 (EH.append L (EH.append O (EH.append U (EH.nil w))))))))))))))⟩
def aQ6 (x:F5):Prop:=(IntKind.i64.min<=x.Pos/\x.Pos<=IntKind.i64.max)/\(IntKind.i64.min<=x.Id/\x.Id<=IntKind.i64.max)/\(IntKind.i64.min<=x.Status/\x.Status<=IntKind.i64.max)/\True
def a7H (x:F5):Nat:=0
set_option maxRecDepth 20000 in
def aYd (enc:Bz×BG->H)(w:BQ)(base:Nat)(spare:Nat->AY)(held:AY):PD 1048576 enc Aq w base spare held 79 En aQ6 a7H:=by
 intro Am cs x h j;have hl:=VW xJ h 4 A8;obtain⟨a0,q,I⟩:=FN xJ h j 0 3 0 1 A8 (JG Iw);obtain⟨J,u,h1⟩:=FN xJ h j 1 3 1 1 A8 (JG Iw);obtain⟨L,v2,h2⟩:=FN xJ h j 2 71 2 1 A8 (JG Tryz.underlying71);obtain⟨M,z,h3⟩:=FN xJ h j 3 4 3 1 A8 (aD6 Zp);have O:0+1<=partAt x.1 0:=q.2;have U:0+1<=partAt x.1 1:=u.2;have Y:0+1<=partAt x.1 2:=v2.2;have Z:0+1<=partAt x.1 3:=z.2;have hs:partAt x.1 0+(partAt x.1 1+(partAt x.1 2+(partAt x.1 3+(0))))+1<=_:=VQ x.1 4;exact⟨⟨a0,J,L,M⟩,⟨q.1,u.1,v2.1,z.1⟩,by unfold a7H;(try simp only[]);omega,VF [1,1,1,1] Va (EH.append I (EH.append h1 (EH.append h2 (EH.append h3 (EH.nil w)))))⟩
def aOx (x:BK):Prop:=(IntKind.i64.min<=x.Kind/\x.Kind<=IntKind.i64.max)/\x.Key.size<=1048576/\(IntKind.i64.min<=x.Id/\x.Id<=IntKind.i64.max)
def a8i (x:BK):Nat:=0+x.Key.size
set_option maxRecDepth 20000 in
def aYD (enc:Bz×BG->H)(w:BQ)(base:Nat)(spare:Nat->AY)(held:AY):PD 1048576 enc Aq w base spare held 82 BO aOx a8i:=by
 intro Am cs x h j;have hl:=VW a6S h 3 A8;obtain⟨a0,q,I⟩:=FN a6S h j 0 26 0 1 A8 (JG Tryz.underlying26);obtain⟨u,z,h1⟩:=FN a6S h j 1 9 1 1 A8 (TG Ol);obtain⟨J,v2,h2⟩:=FN a6S h j 2 3 2 1 A8 (JG Iw);have L:0+1<=partAt x.1 0:=q.2;have M:u.size+1<=partAt x.1 1:=z.2;have O:0+1<=partAt x.1 2:=v2.2;have hs:partAt x.1 0+(partAt x.1 1+(partAt x.1 2+(0)))+1<=_:=VQ x.1 3;exact⟨⟨a0,u,J⟩,⟨q.1,z.1,v2.1⟩,by unfold a8i;(try simp only[]);omega,VF [1,1,1] Va (EH.append I (EH.append h1 (EH.append h2 (EH.nil w))))⟩
def aQg (x:au):Prop:=x.User.size<=1048576/\(IntKind.i64.min<=x.Thread/\x.Thread<=IntKind.i64.max)/\(IntKind.i64.min<=x.Id/\x.Id<=IntKind.i64.max)/\(IntKind.i64.min<=x.Time/\x.Time<=IntKind.i64.max)
def a4t (x:au):Nat:=0+x.User.size
set_option maxRecDepth 20000 in
def acy (enc:Bz×BG->H)(w:BQ)(base:Nat)(spare:Nat->AY)(held:AY):PD 1048576 enc Aq w base spare held 102 ak aQg a4t:=by
 intro Am cs x h j;have hl:=VW uG h 4 A8;obtain⟨a0,q,I⟩:=FN uG h j 0 9 0 1 A8 (TG Ol);obtain⟨J,u,h1⟩:=FN uG h j 1 3 1 1 A8 (JG Iw);obtain⟨L,v2,h2⟩:=FN uG h j 2 3 2 1 A8 (JG Iw);obtain⟨M,z,h3⟩:=FN uG h j 3 3 3 1 A8 (JG Iw);have O:a0.size+1<=partAt x.1 0:=q.2;have U:0+1<=partAt x.1 1:=u.2;have Y:0+1<=partAt x.1 2:=v2.2;have Z:0+1<=partAt x.1 3:=z.2;have hs:partAt x.1 0+(partAt x.1 1+(partAt x.1 2+(partAt x.1 3+(0))))+1<=_:=VQ x.1 4;exact⟨⟨a0,J,L,M⟩,⟨q.1,u.1,v2.1,z.1⟩,by unfold a4t;(try simp only[]);omega,VF [1,1,1,1] Va (EH.append I (EH.append h1 (EH.append h2 (EH.append h3 (EH.nil w)))))⟩
def aWc (x:Yf):Prop:=x.User.size<=1048576/\(IntKind.i64.min<=x.Until/\x.Until<=IntKind.i64.max)
def a5N (x:Yf):Nat:=0+x.User.size
set_option maxRecDepth 20000 in
def amY (enc:Bz×BG->H)(w:BQ)(base:Nat)(spare:Nat->AY)(held:AY):PD 1048576 enc Aq w base spare held 104 Zy aWc a5N:=by
 intro Am cs x h j;have hl:=VW Tryz.underlying104 h 2 A8;obtain⟨a0,q,z⟩:=FN Tryz.underlying104 h j 0 9 0 1 A8 (TG Ol);obtain⟨I,u,h1⟩:=FN Tryz.underlying104 h j 1 3 1 1 A8 (JG Iw);have J:a0.size+1<=partAt x.1 0:=q.2;have L:0+1<=partAt x.1 1:=u.2;have hs:partAt x.1 0+(partAt x.1 1+(0))+1<=_:=VQ x.1 2;exact⟨⟨a0,I⟩,⟨q.1,u.1⟩,by unfold a5N;(try simp only[]);omega,VF [1,1] Va (EH.append z (EH.append h1 (EH.nil w)))⟩
def aDf (x:Bj):Prop:=x.Id.size<=1048576/\(x.Events.length<=1048576/\∀I∈x.Events,gK I)/\(x.Rows.length<=1048576/\∀J∈x.Rows,aQ6 J)/\(x.Waiting.length<=1048576/\∀L∈x.Waiting,gK L)/\(x.uP.length<=1048576/\∀j∈x.uP,(IntKind.i64.min<=j/\j<=IntKind.i64.max))/\(x.State.length<=1048576/\∀q∈x.State,aOx q)/\(IntKind.i64.min<=x.Next/\x.Next<=IntKind.i64.max)/\(x.jK.length<=1048576/\∀u∈x.jK,aQg u)/\(x.nU.length<=1048576/\∀z∈x.nU,aWc z)
def a7r (x:Bj):Nat:=0+x.Id.size+JQ WM x.Events+JQ a7H x.Rows+JQ WM x.Waiting+JQ (λ_=>0) x.uP+JQ a8i x.State+JQ a4t x.jK+JQ a5N x.nU
set_option maxRecDepth 20000 in
def aam (enc:Bz×BG->H)(w:BQ)(base:Nat)(spare:Nat->AY)(held:AY):PD 1048576 enc Aq w base spare held 45 CJ aDf a7r:=by
 intro Am cs x h j;have hl:=VW VA h 9 A8;obtain⟨a0,q,h0⟩:=FN VA h j 0 9 0 1 A8 (TG Ol);obtain⟨u,z,h1⟩:=FN VA h j 1 22 1 1 A8 (St (sz:=29) Sub A8 Bl (λ_=>rfl) (aJv enc w base spare held));obtain⟨I,v2,h2⟩:=FN VA h j 2 39 2 1 A8 (St (sz:=4) Tryz.underlying39 A8 Bl (λ_=>rfl) (aYd enc w base spare held));obtain⟨J,L,h3⟩:=FN VA h j 3 22 3 1 A8 (St (sz:=29) Sub A8 Bl (λ_=>rfl) (aJv enc w base spare held));obtain⟨M,O,h4⟩:=FN VA h j 4 27 4 1 A8 (St (sz:=1) a1c A8 Bl (λ_=>rfl) (JG Iw));obtain⟨U,Y,h5⟩:=FN VA h j 5 41 5 1 A8 (St (sz:=3) Tryz.underlying41 A8 Bl (λ_=>rfl) (aYD enc w base spare held));obtain⟨a6,Z,h6⟩:=FN VA h j 6 3 6 1 A8 (JG Iw);obtain⟨a7,v7,h7⟩:=FN VA h j 7 42 7 1 A8 (St (sz:=4) Tryz.underlying42 A8 Bl (λ_=>rfl) (acy enc w base spare held));obtain⟨a8,v8,h8⟩:=FN VA h j 8 43 8 1 A8 (St (sz:=2) Tryz.underlying43 A8 Bl (λ_=>rfl) (amY enc w base spare held));have q0:a0.size+1<=partAt x.1 0:=q.2;have q1:JQ WM u+1<=partAt x.1 1:=z.2;have q2:JQ a7H I+1<=partAt x.1 2:=v2.2;have q3:JQ WM J+1<=partAt x.1 3:=L.2;have q4:JQ (λ_=>0) M+1<=partAt x.1 4:=O.2;have q5:JQ a8i U+1<=partAt x.1 5:=Y.2;have q6:0+1<=partAt x.1 6:=Z.2;have q7:JQ a4t a7+1<=partAt x.1 7:=v7.2;have q8:JQ a5N a8+1<=partAt x.1 8:=v8.2;have hs:partAt x.1 0+(partAt x.1 1+(partAt x.1 2+(partAt x.1 3+(partAt x.1 4+(partAt x.1 5+(partAt x.1 6+(partAt x.1 7+(partAt x.1 8+(0)))))))))+1<=_:=VQ x.1 9;exact⟨⟨a0,u,I,J,M,U,a6,a7,a8⟩,⟨q.1,z.1,v2.1,L.1,O.1,Y.1,Z.1,v7.1,v8.1⟩,by unfold a7r;(try simp only[]);omega,VF [1,1,1,1,1,1,1,1,1] Va (EH.append h0 (EH.append h1 (EH.append h2 (EH.append h3 (EH.append h4 (EH.append h5 (EH.append h6 (EH.append h7 (EH.append h8 (EH.nil w))))))))))⟩
variable {e:AQ}
def aRO (h:gK e):LU e:=by
 obtain⟨_,h1,h2,_,_,h3,_,_,⟨z,_⟩,⟨I,_⟩,J,_,hs⟩:=h;obtain⟨L,_,_,_,M,⟨O,U⟩,⟨Y,Z⟩,hl⟩:=J;obtain⟨⟨l1,l2⟩,⟨l3,_⟩,_⟩:=hl;have j:∀{n:Nat},n<=1048576->n<=9223372036854775807:=λh=>EC h (DT rfl);exact⟨j z,j I,j h1,j h2,j h3,j hs.1,⟨j O,j Y,j l1,j l3,j L,j M,λx q=>j (U x q),λx q=>j (Z x q),λu hu=>j (l2 u hu).1⟩⟩
def aQY {l:AA AQ}(h:l.length<=1048576/\∀y∈l,gK y):∀e∈l,LU e:=λe j=>aRO (h.2 e j)
def ajc (h:WM e+1<=1048576):TY e.Content<=1048576:=by
 have j:(λu:IQ=>u.User.size)=vg:=funext λu=>(LC _).symm;unfold WM uh a0D at h;unfold JQ at h;unfold TY SV Wx;rw[j];omega
def aZo {r:Bj}(h:aDf r/\a7r r+1<=1048576)(k:gK e/\WM e+1<=1048576):aE6 r e:=
 ⟨EC h.1.1 (DT rfl),aQY h.1.2.1,aQY h.1.2.2.2.1,aRO k.1,ajc k.2⟩
def aYY (r:Bj)(e:AQ)(h:aDf r/\a7r r+1<=1048576)(k:gK e/\WM e+1<=1048576):aDC r e=some true:=aZI (aZo h k)
section
open Go.ChangeShapes Go.WideShapes Go.ChangeAt Go.RowKit
def Tryz.asi:ownKnob Aq.godebug=none:=A8
def Tryz.J5:laidOutB Aq=true:=A8
set_option maxHeartbeats 1600000 in
set_option maxRecDepth 100000 in
def am3 (os:Os)(started:os.Started)(H:Type)(enc:Bz×BG->H)(F:Stop.Interp):
 ReturnsInHanded {} Tryz.checked os 5 .any ((Rows.OpenSpec.upto Rows.roomReceivesSpec).pre6 enc Aq Tryz.f5 Rows.roomReceivesUptoRow.domain false) (((Rows.OpenSpec.upto Rows.roomReceivesSpec).at F).post enc Aq Tryz.f5 false true false false):=by
 refine returnsInHanded_of_cond (C:=Tryz.checked) (s:=Rows.OpenSpec.upto Rows.roomReceivesSpec) (k:=Rows.uptoSmall) rfl Tryz.asi started A8 func5
  (OpenSpec.witness (enc:=enc) (C:=Tryz.checked) (s:=Rows.OpenSpec.upto Rows.roomReceivesSpec) (k:=Rows.uptoSmall) rfl false ⟨#[], #[(.agg #[.string CX,.slice none 0 0,.slice none 0 0,.slice none 0 0,.slice none 0 0,.slice none 0 0,.int .i64 0,.slice none 0 0,.slice none 0 0]),(.agg #[.int .i64 0,.string CX,.string CX,.int .i64 0,.bool false,.string CX,.int .i64 0,.int .i64 0,.slice none 0 0,.slice none 0 0,.string CX,.int .i64 0,.int .i64 0,.bool false,.string CX,.slice none 0 0,.slice none 0 0,.slice none 0 0,.slice none 0 0,.int .i64 0,.int .i64 0,.int .i64 0,.int .i64 0,.int .i64 0,.int .i64 0,.int .i64 0,.int .i64 0,.string CX,.int .i64 0])],[]⟩ 8 A8 A8 A8
   (x:=([.agg [.lit (.string []),.nil,.nil,.nil,.nil,.nil,.lit (.int .i64 0),.nil,.nil],.agg [.lit (.int .i64 0),.lit (.string []),.lit (.string []),.lit (.int .i64 0),.lit (.bool false),.lit (.string []),.lit (.int .i64 0),.lit (.int .i64 0),.nil,.nil,.agg [.lit (.string []),.lit (.int .i64 0),.lit (.int .i64 0),.lit (.bool false),.lit (.string []),.nil,.nil,.agg [.nil,.nil,.lit (.int .i64 0),.lit (.int .i64 0),.lit (.int .i64 0),.lit (.int .i64 0),.lit (.int .i64 0),.lit (.int .i64 0),.lit (.int .i64 0)]],.lit (.int .i64 0),.agg [.lit (.string []),.lit (.int .i64 0)]]],[],[])) A8 rfl A8) ?_
 intro W base args ds gs before u hW _ hk _;show Calls _ _ _ _ λe W'=>∃v,e=.returned v/\Rows.roomReceivesSpec.post enc Aq Tryz.f5 false true false false W args v W';have z:∀(j:Nat) t v,Tryz.f5.params[j]? =some t->args[j]? =some v->Value.okWide Aq W .any base t v:=u;have I:=hW;obtain⟨p,q,O,hV,rfl,_,_⟩:=hW;have hA:DataW.TrodAll enc Aq W 0 (λ_=>true) true Tryz.f5.params.toList args.toList ds p:=O;rw[Tryz.params5]at hA z;obtain⟨v0,v1,d0,d1,p0,p1,rfl,rfl,rfl,h0,h1⟩:=trodAll_two hA;obtain⟨rfl,rfl⟩:=trodVars_none hV;obtain⟨w0,rfl, -⟩:=okWide_struct VA (z 0 45 v0 rfl rfl);have h0k:=h0;obtain⟨fuel0,hf0⟩:=h0;obtain⟨r0,hv0,hw0,hc0⟩:=(aam enc W _ _ _) _ _ _ hf0 (a3k hk BU);have U:=And.intro hv0 (EC hw0 (a3k hk BU));have hr0:=aN7 (x:=CJ r0) rfl hc0;obtain⟨w1,rfl, -⟩:=okWide_struct QS (z 1 38 v1 rfl rfl);have h1k:=h1;obtain⟨fuel1,hf1⟩:=h1;obtain⟨r1,hv1,hw1,hc1⟩:=(aJv enc W _ _ _) _ _ _ hf1 (a3k hk BU);have Y:=And.intro hv1 (EC hw1 (a3k hk BU));have hr1:=aN7 (x:=Ap r1) rfl hc1;clear O u;simp only[Tv]at I;have Z:∀x∈p0,x.block<W.heap.size:=λx hx=>by simpa using I.lt x (by simp[hx])
 have J:∀(W':BQ),Below W.heap.size W W'->DataW.Trod enc Aq W' 0 (λb=>b<W.heap.size) true 45 (.agg w0) d0 p0:=
  λW' M=>Below.trod Tryz.J5 A8 (Ov A8) h0k M Z
 have hlt1:∀x∈p1,x.block<W.heap.size:=λx hx=>by simpa using I.lt x (by simp[hx])
 have L:∀(W':BQ),Below W.heap.size W W'->DataW.Trod enc Aq W' 0 (λb=>b<W.heap.size) true 38 (.agg w1) d1 p1:=
  λW' M=>Below.trod Tryz.J5 A8 (Ov A8) h1k M hlt1
 refine(Ej.law (xs:=[CJ r0,Ap r1]) (W:=W) (ajl r0 r1 true (aYY r0 r1 U Y)) rfl (λi hi=>?_)).mono λe W' he=>?_
 ·match i,hi with
  |0,_=>exact hr0
  |1,_=>exact hr1
 obtain⟨rfl,M⟩:=he;exact⟨_,rfl,_,_,_,[],(p0++p1),[],I,trodAll_mk1 (shut_bool Zp _),trodAll_mk2 (J W' M) (L W' M),rfl,M.frame _,λh=>H6⟩
def Tryz.ain:mapsRowed Aq=true:=A8
def Tryz.ak1:Aq.inPlace 5=["internal/bytealg.IndexByteString", "internal/bytealg.IndexString", "slices.overlaps[fedchat/api.Event]"]:=A8
def Tryz.QC:Aq.unfollowed 5=true:=A8
def Tryz.akc:Aq.recurses 5=true:=by unfold Program.recurses;rw[Tryz.QC];rfl
def Tryz.an7:Aq.varsNamed 5=["internal/bytealg.MaxLen"]:=A8
def Tryz.aio:(Rows.roomReceivesUptoRow.plainKeys==Aq.plainKeys)=true:=A8
def Tryz.agY:Aq.stopsHeard=true:=A8
def Tryz.akd:Aq.mayEnter=true:=A8
def Tryz.ana:(Rows.roomReceivesUptoRow.lifted==Aq.liftsFinal)=true:=A8
def Tryz.aqg:(Aq.make==some Rows.roomReceivesUptoRow.make)=true:=A8
def Tryz.anb:joinedFacts Aq 5 Tryz.f5 (Rows.OpenSpec.upto Rows.roomReceivesSpec).bare Rows.roomReceivesUptoRow=true:=by
 unfold joinedFacts;rw[Tryz.J5,Tryz.ain,Tryz.ak1,Tryz.QC,Tryz.akc,Tryz.an7,Tryz.aio,Tryz.agY,Tryz.akd,Tryz.ana,Tryz.aqg];kernel_rfl
theorem roomReceivesUpto_holds :Rows.RoomReceivesUptoSaid:=
 OpenClaim.holds_of_cond 5 Tryz.f5 rfl rfl rfl rfl rfl rfl rfl ⟨rfl,rfl,rfl,rfl,rfl⟩ rfl rfl rfl rfl rfl A8 func5 Tryz.anb
  (Ov A8) (by unfold Func.isWrapper;first|(rw[ET OY];kernel_rfl)|(rw[Ee OY];exact⟨rfl,rfl⟩))
  (λos j H enc _ F=>am3 os j H enc F)
end
end Go.Proofs.YtfmoknlmaldmlaaGreat
