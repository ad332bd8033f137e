/- The law RoomAgain holds (short forms written by wip/shrink.py; no condition). -/
import Derived.Test.YtfmoknlmaldmlaaGreatRa8
set_option linter.defProp false
set_option linter.unnecessarySimpa false
set_option linter.unusedSectionVars false
set_option linter.unusedVariables false
set_option linter.unusedSimpArgs false
namespace Go.Proofs.YtfmoknlmaldmlaaGreat
open Go.RowKit Go.Proofs.Tryz
def aSF (x:IV):Prop:=x.User.size<=1048576/\(IntKind.i64.min<=x.N/\x.N<=IntKind.i64.max)
def a0V (x:IV):Nat:=0+x.User.size
variable {H:Type}
set_option maxRecDepth 20000 in
def afj (enc:Bz×BI->H)(w:Ba)(base:Nat)(spare:Nat->Ad)(held:Ad):P6 1048576 enc Aw w base spare held 146 FD aSF a0V:=by
 intro Az cs x h j;have hl:=Uy Tryz.underlying146 h 2 AA;obtain⟨a0,q,z⟩:=FI Tryz.underlying146 h j 0 9 0 1 AA (S9 Ol);obtain⟨I,u,h1⟩:=FI Tryz.underlying146 h j 1 3 1 1 AA (JC Iu);have J:a0.size+1<=partAt x.1 0:=q.2;have L:0+1<=partAt x.1 1:=u.2;have hs:partAt x.1 0+(partAt x.1 1+(0))+1<=_:=Ut x.1 2;exact⟨⟨a0,I⟩,⟨q.1,u.1⟩,by unfold a0V;(try simp only[]);omega,Uw [1,1] VA (EF.append z (EF.append h1 (EF.nil w)))⟩
def aQY (x:Jv):Prop:=(IntKind.i64.min<=x.Kind/\x.Kind<=IntKind.i64.max)/\(IntKind.i64.min<=x.N/\x.N<=IntKind.i64.max)
def a3v (x:Jv):Nat:=0
set_option maxRecDepth 20000 in
def ajJ (enc:Bz×BI->H)(w:Ba)(base:Nat)(spare:Nat->Ad)(held:Ad):P6 1048576 enc Aw w base spare held 221 F7 aQY a3v:=by
 intro Az cs x h j;have hl:=Uy Tryz.underlying221 h 2 AA;obtain⟨a0,q,z⟩:=FI Tryz.underlying221 h j 0 26 0 1 AA (JC Tryz.underlying26);obtain⟨I,u,h1⟩:=FI Tryz.underlying221 h j 1 3 1 1 AA (JC Iu);have J:0+1<=partAt x.1 0:=q.2;have L:0+1<=partAt x.1 1:=u.2;have hs:partAt x.1 0+(partAt x.1 1+(0))+1<=_:=Ut x.1 2;exact⟨⟨a0,I⟩,⟨q.1,u.1⟩,by unfold a3v;(try simp only[]);omega,Uw [1,1] VA (EF.append z (EF.append h1 (EF.nil w)))⟩
def aPX (x:Ch):Prop:=(x.Users.length<=1048576/\∀j∈x.Users,aSF j)/\(x.Kinds.length<=1048576/\∀q∈x.Kinds,aQY q)/\(IntKind.i64.min<=x.User/\x.User<=IntKind.i64.max)/\(IntKind.i64.min<=x.Message/\x.Message<=IntKind.i64.max)/\(IntKind.i64.min<=x.State/\x.State<=IntKind.i64.max)/\(IntKind.i64.min<=x.gX/\x.gX<=IntKind.i64.max)/\(IntKind.i64.min<=x.kR/\x.kR<=IntKind.i64.max)/\(IntKind.i64.min<=x.oN/\x.oN<=IntKind.i64.max)/\(IntKind.i64.min<=x.ig/\x.ig<=IntKind.i64.max)
def a0S (x:Ch):Nat:=0+JK a0V x.Users+JK a3v x.Kinds
set_option maxRecDepth 20000 in
def aaj (enc:Bz×BI->H)(w:Ba)(base:Nat)(spare:Nat->Ad)(held:Ad):P6 1048576 enc Aw w base spare held 32 FQ aPX a0S:=by
 intro Az cs x h j;have hl:=Uy Vw h 9 AA;obtain⟨a0,q,Y⟩:=FI Vw h j 0 29 0 1 AA (SS (sz:=2) Tryz.underlying29 AA Bl (λ_=>rfl) (afj enc w base spare held));obtain⟨u,z,h1⟩:=FI Vw h j 1 30 1 1 AA (SS (sz:=2) Tryz.underlying30 AA Bl (λ_=>rfl) (ajJ enc w base spare held));obtain⟨Z,v2,h2⟩:=FI Vw h j 2 3 2 1 AA (JC Iu);obtain⟨a3,I,h3⟩:=FI Vw h j 3 3 3 1 AA (JC Iu);obtain⟨a4,J,h4⟩:=FI Vw h j 4 3 4 1 AA (JC Iu);obtain⟨a5,L,h5⟩:=FI Vw h j 5 3 5 1 AA (JC Iu);obtain⟨a6,M,h6⟩:=FI Vw h j 6 3 6 1 AA (JC Iu);obtain⟨a7,O,h7⟩:=FI Vw h j 7 3 7 1 AA (JC Iu);obtain⟨a8,U,h8⟩:=FI Vw h j 8 3 8 1 AA (JC Iu);have q0:JK a0V a0+1<=partAt x.1 0:=q.2;have q1:JK a3v u+1<=partAt x.1 1:=z.2;have q2:0+1<=partAt x.1 2:=v2.2;have q3:0+1<=partAt x.1 3:=I.2;have q4:0+1<=partAt x.1 4:=J.2;have q5:0+1<=partAt x.1 5:=L.2;have q6:0+1<=partAt x.1 6:=M.2;have q7:0+1<=partAt x.1 7:=O.2;have q8:0+1<=partAt x.1 8:=U.2;have hs:partAt x.1 0+(partAt x.1 1+(partAt x.1 2+(partAt x.1 3+(partAt x.1 4+(partAt x.1 5+(partAt x.1 6+(partAt x.1 7+(partAt x.1 8+(0)))))))))+1<=_:=Ut x.1 9;exact⟨⟨a0,u,Z,a3,a4,a5,a6,a7,a8⟩,⟨q.1,z.1,v2.1,I.1,J.1,L.1,M.1,O.1,U.1⟩,by unfold a0S;(try simp only[]);omega,Uw [1,1,1,1,1,1,1,1,1] VA (EF.append Y (EF.append h1 (EF.append h2 (EF.append h3 (EF.append h4 (EF.append h5 (EF.append h6 (EF.append h7 (EF.append h8 (EF.nil w))))))))))⟩
def aRR (x:D6):Prop:=x.Text.size<=1048576/\(IntKind.i64.min<=x.N/\x.N<=IntKind.i64.max)/\(IntKind.i64.min<=x.Target/\x.Target<=IntKind.i64.max)/\True/\x.Via.size<=1048576/\(x.Allow.length<=1048576/\∀j∈x.Allow,j.size<=1048576)/\(x.iy.length<=1048576/\∀q∈x.iy,q.size<=1048576)/\aPX x.Levels
def yN (x:D6):Nat:=0+x.Text.size+x.Via.size+JK (λs:BP=>s.size) x.Allow+JK (λs:BP=>s.size) x.iy+a0S x.Levels
set_option maxRecDepth 20000 in
def ad7 (enc:Bz×BI->H)(w:Ba)(base:Nat)(spare:Nat->Ad)(held:Ad):P6 1048576 enc Aw w base spare held 34 GI aRR yN:=by
 intro Az cs x h j;have hl:=Uy Xi h 16 AA;obtain⟨a0,q,h0⟩:=FI Xi h j 0 9 0 1 AA (S9 Ol);obtain⟨a1,u,h1⟩:=FI Xi h j 1 3 1 1 AA (JC Iu);obtain⟨a2,v2,h2⟩:=FI Xi h j 2 3 2 1 AA (JC Iu);obtain⟨a3,z,h3⟩:=FI Xi h j 3 4 3 1 AA (aId Yw);obtain⟨I,J,h4⟩:=FI Xi h j 4 9 4 1 AA (S9 Ol);obtain⟨L,M,h5⟩:=FI Xi h j 5 28 5 1 AA (SS (sz:=1) Tryz.underlying28 AA Bl (λ_=>rfl) (S9 Ol));obtain⟨O,U,h6⟩:=FI Xi h j 6 28 6 1 AA (SS (sz:=1) Tryz.underlying28 AA Bl (λ_=>rfl) (S9 Ol));obtain⟨Y,Z,h7⟩:=FI Xi h j 7 32 7 9 AA (aaj enc w base spare held);have q0:a0.size+1<=partAt x.1 0:=q.2;have q1:0+1<=partAt x.1 1:=u.2;have q2:0+1<=partAt x.1 2:=v2.2;have q3:0+1<=partAt x.1 3:=z.2;have q4:I.size+1<=partAt x.1 4:=J.2;have q5:JK (λs:BP=>s.size) L+1<=partAt x.1 5:=M.2;have q6:JK (λs:BP=>s.size) O+1<=partAt x.1 6:=U.2;have q7:a0S Y+1<=partAt x.1 7:=Z.2;have hs:partAt x.1 0+(partAt x.1 1+(partAt x.1 2+(partAt x.1 3+(partAt x.1 4+(partAt x.1 5+(partAt x.1 6+(partAt x.1 7+(0))))))))+1<=_:=Ut x.1 8;exact⟨⟨a0,a1,a2,a3,I,L,O,Y⟩,⟨q.1,u.1,v2.1,z.1,J.1,M.1,U.1,Z.1⟩,by unfold yN;(try simp only[]);omega,Uw [1,1,1,1,1,1,1,9] VA (EF.append h0 (EF.append h1 (EF.append h2 (EF.append h3 (EF.append h4 (EF.append h5 (EF.append h6 (EF.append h7 (EF.nil w)))))))))⟩
def aO5 (x:PY):Prop:=x.Server.size<=1048576/\(IntKind.i64.min<=x.Sum/\x.Sum<=IntKind.i64.max)
def a5X (x:PY):Nat:=0+x.Server.size
set_option maxRecDepth 20000 in
def aY6 (enc:Bz×BI->H)(w:Ba)(base:Nat)(spare:Nat->Ad)(held:Ad):P6 1048576 enc Aw w base spare held 36 ah2 aO5 a5X:=by
 intro Az cs x h j;have hl:=Uy Tryz.underlying36 h 2 AA;obtain⟨a0,q,z⟩:=FI Tryz.underlying36 h j 0 9 0 1 AA (S9 Ol);obtain⟨I,u,h1⟩:=FI Tryz.underlying36 h j 1 3 1 1 AA (JC Iu);have J:a0.size+1<=partAt x.1 0:=q.2;have L:0+1<=partAt x.1 1:=u.2;have hs:partAt x.1 0+(partAt x.1 1+(0))+1<=_:=Ut x.1 2;exact⟨⟨a0,I⟩,⟨q.1,u.1⟩,by unfold a5X;(try simp only[]);omega,Uw [1,1] VA (EF.append z (EF.append h1 (EF.nil w)))⟩
def iF (x:Aa):Prop:=(IntKind.i64.min<=x.Id/\x.Id<=IntKind.i64.max)/\x.Room.size<=1048576/\x.bM.size<=1048576/\(IntKind.i64.min<=x.Kind/\x.Kind<=IntKind.i64.max)/\True/\x.Key.size<=1048576/\(IntKind.i64.min<=x.Time/\x.Time<=IntKind.i64.max)/\(IntKind.i64.min<=x.Depth/\x.Depth<=IntKind.i64.max)/\(x.bG.length<=1048576/\∀j∈x.bG,(IntKind.i64.min<=j/\j<=IntKind.i64.max))/\(x.bI.length<=1048576/\∀q∈x.bI,(IntKind.i64.min<=q/\q<=IntKind.i64.max))/\aRR x.Content/\(IntKind.i64.min<=x.Hash/\x.Hash<=IntKind.i64.max)/\aO5 x.sH
def WW (x:Aa):Nat:=0+x.Room.size+x.bM.size+x.Key.size+JK (λ_=>0) x.bG+JK (λ_=>0) x.bI+yN x.Content+a5X x.sH
set_option maxRecDepth 20000 in
def aCd (enc:Bz×BI->H)(w:Ba)(base:Nat)(spare:Nat->Ad)(held:Ad):P6 1048576 enc Aw w base spare held 38 BF iF WW:=by
 intro Az cs x h j;have hl:=Uy QX h 29 AA;obtain⟨a0,Y,h0⟩:=FI QX h j 0 3 0 1 AA (JC Iu);obtain⟨Z,v1,h1⟩:=FI QX h j 1 9 1 1 AA (S9 Ol);obtain⟨a2,v2,h2⟩:=FI QX h j 2 9 2 1 AA (S9 Ol);obtain⟨a3,v3,h3⟩:=FI QX h j 3 26 3 1 AA (JC Tryz.underlying26);obtain⟨a4,v4,h4⟩:=FI QX h j 4 4 4 1 AA (aId Yw);obtain⟨a5,v5,h5⟩:=FI QX h j 5 9 5 1 AA (S9 Ol);obtain⟨a6,v6,h6⟩:=FI QX h j 6 3 6 1 AA (JC Iu);obtain⟨a7,v7,h7⟩:=FI QX h j 7 3 7 1 AA (JC Iu);obtain⟨a8,v8,h8⟩:=FI QX h j 8 27 8 1 AA (SS (sz:=1) a1C AA Bl (λ_=>rfl) (JC Iu));obtain⟨a9,v9,h9⟩:=FI QX h j 9 27 9 1 AA (SS (sz:=1) a1C AA Bl (λ_=>rfl) (JC Iu));obtain⟨q,u,L⟩:=FI QX h j 10 34 10 16 AA (ad7 enc w base spare held);obtain⟨M,z,O⟩:=FI QX h j 11 3 26 1 AA (JC Iu);obtain⟨I,J,U⟩:=FI QX h j 12 36 27 2 AA (aY6 enc w base spare held);have q0:0+1<=partAt x.1 0:=Y.2;have q1:Z.size+1<=partAt x.1 1:=v1.2;have q2:a2.size+1<=partAt x.1 2:=v2.2;have q3:0+1<=partAt x.1 3:=v3.2;have q4:0+1<=partAt x.1 4:=v4.2;have q5:a5.size+1<=partAt x.1 5:=v5.2;have q6:0+1<=partAt x.1 6:=v6.2;have q7:0+1<=partAt x.1 7:=v7.2;have q8:JK (λ_=>0) a8+1<=partAt x.1 8:=v8.2;have q9:JK (λ_=>0) a9+1<=partAt x.1 9:=v9.2;have q10:yN q+1<=partAt x.1 10:=u.2;have q11:0+1<=partAt x.1 11:=z.2;have q12:a5X I+1<=partAt x.1 12:=J.2;have hs:partAt x.1 0+(partAt x.1 1+(partAt x.1 2+(partAt x.1 3+(partAt x.1 4+(partAt x.1 5+(partAt x.1 6+(partAt x.1 7+(partAt x.1 8+(partAt x.1 9+(partAt x.1 10+(partAt x.1 11+(partAt x.1 12+(0)))))))))))))+1<=_:=Ut x.1 13;exact⟨⟨a0,Z,a2,a3,a4,a5,a6,a7,a8,a9,q,M,I⟩,⟨Y.1,v1.1,v2.1,v3.1,v4.1,v5.1,v6.1,v7.1,v8.1,v9.1,u.1,z.1,J.1⟩,by unfold WW;(try simp only[]);omega,Uw [1,1,1,1,1,1,1,1,1,1,16,1,2] VA (EF.append h0 (EF.append h1 (EF.append h2 (EF.append h3 (EF.append h4 (EF.append h5 (EF.append h6 (EF.append h7 (EF.append h8 (EF.append h9 (EF.append L (EF.append O (EF.append U (EF.nil w))))))))))))))⟩
def aOY (x:FZ):Prop:=(IntKind.i64.min<=x.Pos/\x.Pos<=IntKind.i64.max)/\(IntKind.i64.min<=x.Id/\x.Id<=IntKind.i64.max)/\(IntKind.i64.min<=x.Status/\x.Status<=IntKind.i64.max)/\True
def a3y (x:FZ):Nat:=0
set_option maxRecDepth 20000 in
def an2 (enc:Bz×BI->H)(w:Ba)(base:Nat)(spare:Nat->Ad)(held:Ad):P6 1048576 enc Aw w base spare held 79 FK aOY a3y:=by
 intro Az cs x h j;have hl:=Uy zF h 4 AA;obtain⟨a0,q,I⟩:=FI zF h j 0 3 0 1 AA (JC Iu);obtain⟨J,u,h1⟩:=FI zF h j 1 3 1 1 AA (JC Iu);obtain⟨L,v2,h2⟩:=FI zF h j 2 71 2 1 AA (JC Tryz.underlying71);obtain⟨M,z,h3⟩:=FI zF h j 3 4 3 1 AA (aId Yw);have O:0+1<=partAt x.1 0:=q.2;have U:0+1<=partAt x.1 1:=u.2;have Y:0+1<=partAt x.1 2:=v2.2;have Z:0+1<=partAt x.1 3:=z.2;have hs:partAt x.1 0+(partAt x.1 1+(partAt x.1 2+(partAt x.1 3+(0))))+1<=_:=Ut x.1 4;exact⟨⟨a0,J,L,M⟩,⟨q.1,u.1,v2.1,z.1⟩,by unfold a3y;(try simp only[]);omega,Uw [1,1,1,1] VA (EF.append I (EF.append h1 (EF.append h2 (EF.append h3 (EF.nil w)))))⟩
def aMG (x:BO):Prop:=(IntKind.i64.min<=x.Kind/\x.Kind<=IntKind.i64.max)/\x.Key.size<=1048576/\(IntKind.i64.min<=x.Id/\x.Id<=IntKind.i64.max)
def aAm (x:BO):Nat:=0+x.Key.size
set_option maxRecDepth 20000 in
def ac2 (enc:Bz×BI->H)(w:Ba)(base:Nat)(spare:Nat->Ad)(held:Ad):P6 1048576 enc Aw w base spare held 82 BX aMG aAm:=by
 intro Az cs x h j;have hl:=Uy aAi h 3 AA;obtain⟨a0,q,I⟩:=FI aAi h j 0 26 0 1 AA (JC Tryz.underlying26);obtain⟨u,z,h1⟩:=FI aAi h j 1 9 1 1 AA (S9 Ol);obtain⟨J,v2,h2⟩:=FI aAi h j 2 3 2 1 AA (JC Iu);have L:0+1<=partAt x.1 0:=q.2;have M:u.size+1<=partAt x.1 1:=z.2;have O:0+1<=partAt x.1 2:=v2.2;have hs:partAt x.1 0+(partAt x.1 1+(partAt x.1 2+(0)))+1<=_:=Ut x.1 3;exact⟨⟨a0,u,J⟩,⟨q.1,z.1,v2.1⟩,by unfold aAm;(try simp only[]);omega,Uw [1,1,1] VA (EF.append I (EF.append h1 (EF.append h2 (EF.nil w))))⟩
def aTy (x:ZB):Prop:=x.User.size<=1048576/\(IntKind.i64.min<=x.Thread/\x.Thread<=IntKind.i64.max)/\(IntKind.i64.min<=x.Id/\x.Id<=IntKind.i64.max)/\(IntKind.i64.min<=x.Time/\x.Time<=IntKind.i64.max)
def aAt (x:ZB):Nat:=0+x.User.size
set_option maxRecDepth 20000 in
def aZc (enc:Bz×BI->H)(w:Ba)(base:Nat)(spare:Nat->Ad)(held:Ad):P6 1048576 enc Aw w base spare held 102 aG aTy aAt:=by
 intro Az cs x h j;have hl:=Uy sI h 4 AA;obtain⟨a0,q,I⟩:=FI sI h j 0 9 0 1 AA (S9 Ol);obtain⟨J,u,h1⟩:=FI sI h j 1 3 1 1 AA (JC Iu);obtain⟨L,v2,h2⟩:=FI sI h j 2 3 2 1 AA (JC Iu);obtain⟨M,z,h3⟩:=FI sI h j 3 3 3 1 AA (JC Iu);have O:a0.size+1<=partAt x.1 0:=q.2;have U:0+1<=partAt x.1 1:=u.2;have Y:0+1<=partAt x.1 2:=v2.2;have Z:0+1<=partAt x.1 3:=z.2;have hs:partAt x.1 0+(partAt x.1 1+(partAt x.1 2+(partAt x.1 3+(0))))+1<=_:=Ut x.1 4;exact⟨⟨a0,J,L,M⟩,⟨q.1,u.1,v2.1,z.1⟩,by unfold aAt;(try simp only[]);omega,Uw [1,1,1,1] VA (EF.append I (EF.append h1 (EF.append h2 (EF.append h3 (EF.nil w)))))⟩
def aWI (x:Z8):Prop:=x.User.size<=1048576/\(IntKind.i64.min<=x.Until/\x.Until<=IntKind.i64.max)
def aAe (x:Z8):Nat:=0+x.User.size
set_option maxRecDepth 20000 in
def aXx (enc:Bz×BI->H)(w:Ba)(base:Nat)(spare:Nat->Ad)(held:Ad):P6 1048576 enc Aw w base spare held 104 ZV aWI aAe:=by
 intro Az cs x h j;have hl:=Uy Tryz.underlying104 h 2 AA;obtain⟨a0,q,z⟩:=FI Tryz.underlying104 h j 0 9 0 1 AA (S9 Ol);obtain⟨I,u,h1⟩:=FI Tryz.underlying104 h j 1 3 1 1 AA (JC Iu);have J:a0.size+1<=partAt x.1 0:=q.2;have L:0+1<=partAt x.1 1:=u.2;have hs:partAt x.1 0+(partAt x.1 1+(0))+1<=_:=Ut x.1 2;exact⟨⟨a0,I⟩,⟨q.1,u.1⟩,by unfold aAe;(try simp only[]);omega,Uw [1,1] VA (EF.append z (EF.append h1 (EF.nil w)))⟩
def aBr (x:C9):Prop:=x.Id.size<=1048576/\(x.Events.length<=1048576/\∀I∈x.Events,iF I)/\(x.Rows.length<=1048576/\∀J∈x.Rows,aOY J)/\(x.Waiting.length<=1048576/\∀L∈x.Waiting,iF L)/\(x.yK.length<=1048576/\∀j∈x.yK,(IntKind.i64.min<=j/\j<=IntKind.i64.max))/\(x.State.length<=1048576/\∀q∈x.State,aMG q)/\(IntKind.i64.min<=x.Next/\x.Next<=IntKind.i64.max)/\(x.jX.length<=1048576/\∀u∈x.jX,aTy u)/\(x.o7.length<=1048576/\∀z∈x.o7,aWI z)
def a3h (x:C9):Nat:=0+x.Id.size+JK WW x.Events+JK a3y x.Rows+JK WW x.Waiting+JK (λ_=>0) x.yK+JK aAm x.State+JK aAt x.jX+JK aAe x.o7
set_option maxRecDepth 20000 in
def aXV (enc:Bz×BI->H)(w:Ba)(base:Nat)(spare:Nat->Ad)(held:Ad):P6 1048576 enc Aw w base spare held 45 CZ aBr a3h:=by
 intro Az cs x h j;have hl:=Uy Ub h 9 AA;obtain⟨a0,q,h0⟩:=FI Ub h j 0 9 0 1 AA (S9 Ol);obtain⟨u,z,h1⟩:=FI Ub h j 1 22 1 1 AA (SS (sz:=29) wJ AA Bl (λ_=>rfl) (aCd enc w base spare held));obtain⟨I,v2,h2⟩:=FI Ub h j 2 39 2 1 AA (SS (sz:=4) Tryz.underlying39 AA Bl (λ_=>rfl) (an2 enc w base spare held));obtain⟨J,L,h3⟩:=FI Ub h j 3 22 3 1 AA (SS (sz:=29) wJ AA Bl (λ_=>rfl) (aCd enc w base spare held));obtain⟨M,O,h4⟩:=FI Ub h j 4 27 4 1 AA (SS (sz:=1) a1C AA Bl (λ_=>rfl) (JC Iu));obtain⟨U,Y,h5⟩:=FI Ub h j 5 41 5 1 AA (SS (sz:=3) Tryz.underlying41 AA Bl (λ_=>rfl) (ac2 enc w base spare held));obtain⟨a6,Z,h6⟩:=FI Ub h j 6 3 6 1 AA (JC Iu);obtain⟨a7,v7,h7⟩:=FI Ub h j 7 42 7 1 AA (SS (sz:=4) Tryz.underlying42 AA Bl (λ_=>rfl) (aZc enc w base spare held));obtain⟨a8,v8,h8⟩:=FI Ub h j 8 43 8 1 AA (SS (sz:=2) Tryz.underlying43 AA Bl (λ_=>rfl) (aXx enc w base spare held));have q0:a0.size+1<=partAt x.1 0:=q.2;have q1:JK WW u+1<=partAt x.1 1:=z.2;have q2:JK a3y I+1<=partAt x.1 2:=v2.2;have q3:JK WW J+1<=partAt x.1 3:=L.2;have q4:JK (λ_=>0) M+1<=partAt x.1 4:=O.2;have q5:JK aAm U+1<=partAt x.1 5:=Y.2;have q6:0+1<=partAt x.1 6:=Z.2;have q7:JK aAt a7+1<=partAt x.1 7:=v7.2;have q8:JK aAe a8+1<=partAt x.1 8:=v8.2;have hs:partAt x.1 0+(partAt x.1 1+(partAt x.1 2+(partAt x.1 3+(partAt x.1 4+(partAt x.1 5+(partAt x.1 6+(partAt x.1 7+(partAt x.1 8+(0)))))))))+1<=_:=Ut x.1 9;exact⟨⟨a0,u,I,J,M,U,a6,a7,a8⟩,⟨q.1,z.1,v2.1,L.1,O.1,Y.1,Z.1,v7.1,v8.1⟩,by unfold a3h;(try simp only[]);omega,Uw [1,1,1,1,1,1,1,1,1] VA (EF.append h0 (EF.append h1 (EF.append h2 (EF.append h3 (EF.append h4 (EF.append h5 (EF.append h6 (EF.append h7 (EF.append h8 (EF.nil w))))))))))⟩
variable {e:Aa}
def aLv (h:iF e):L6 e:=by
 obtain⟨_,h1,h2,_,_,h3,_,_,⟨z,_⟩,⟨I,_⟩,J,_,hs⟩:=h;obtain⟨L,_,_,_,M,⟨O,U⟩,⟨Y,Z⟩,hl⟩:=J;obtain⟨⟨l1,l2⟩,⟨l3,_⟩,_⟩:=hl;have j:∀{n:Nat},n<=1048576->n<=9223372036854775807:=λh=>EI h (Dt rfl);exact⟨j z,j I,j h1,j h2,j h3,j hs.1,⟨j O,j Y,j l1,j l3,j L,j M,λx q=>j (U x q),λx q=>j (Z x q),λu hu=>j (l2 u hu).1⟩⟩
def aMQ {l:A8 Aa}(h:l.length<=1048576/\∀y∈l,iF y):∀e∈l,L6 e:=λe j=>aLv (h.2 e j)
def al9 (h:WW e+1<=1048576):UL e.Content<=1048576:=by
 have j:(λu:IV=>u.User.size)=a0V:=funext λu=>(KD _).symm;unfold WW yN a0S at h;unfold JK at h;unfold UL SG Wj;rw[j];omega
def afG {r:C9}(h:aBr r/\a3h r+1<=1048576)(k:iF e/\WW e+1<=1048576):aCi r e:=
 ⟨EI h.1.1 (Dt rfl),aMQ h.1.2.1,aMQ h.1.2.2.2.1,aLv k.1,al9 k.2⟩
def aXg (r:C9)(e:Aa)(h:aBr r/\a3h r+1<=1048576)(k:iF e/\WW e+1<=1048576):aD1 r e=some true:=aXp (afG h k)
section
open Go.ChangeShapes Go.WideShapes Go.ChangeAt Go.RowKit
def Tryz.ayP:ownKnob Aw.godebug=none:=AA
def Tryz.Q8:laidOutB Aw=true:=AA
set_option maxHeartbeats 1600000 in
set_option maxRecDepth 100000 in
def amg (os:Os)(started:os.Started)(H:Type)(enc:Bz×BI->H)(F:Stop.Interp):
 ReturnsInHanded {} Tryz.checked os 6 .any ((Rows.OpenSpec.upto Rows.roomAgainSpec).pre6 enc Aw Tryz.f6 Rows.roomAgainUptoRow.domain false) (((Rows.OpenSpec.upto Rows.roomAgainSpec).at F).post enc Aw Tryz.f6 false true false false):=by
 refine returnsInHanded_of_cond (C:=Tryz.checked) (s:=Rows.OpenSpec.upto Rows.roomAgainSpec) (k:=Rows.uptoSmall) rfl Tryz.ayP started AA func6
  (OpenSpec.witness (enc:=enc) (C:=Tryz.checked) (s:=Rows.OpenSpec.upto Rows.roomAgainSpec) (k:=Rows.uptoSmall) rfl false ⟨#[], #[(.agg #[.string CX,.slice none 0 0,.slice none 0 0,.slice none 0 0,.slice none 0 0,.slice none 0 0,.int .i64 0,.slice none 0 0,.slice none 0 0]),(.agg #[.int .i64 0,.string CX,.string CX,.int .i64 0,.bool false,.string CX,.int .i64 0,.int .i64 0,.slice none 0 0,.slice none 0 0,.string CX,.int .i64 0,.int .i64 0,.bool false,.string CX,.slice none 0 0,.slice none 0 0,.slice none 0 0,.slice none 0 0,.int .i64 0,.int .i64 0,.int .i64 0,.int .i64 0,.int .i64 0,.int .i64 0,.int .i64 0,.int .i64 0,.string CX,.int .i64 0])],[]⟩ 8 AA AA AA
   (x:=([.agg [.lit (.string []),.nil,.nil,.nil,.nil,.nil,.lit (.int .i64 0),.nil,.nil],.agg [.lit (.int .i64 0),.lit (.string []),.lit (.string []),.lit (.int .i64 0),.lit (.bool false),.lit (.string []),.lit (.int .i64 0),.lit (.int .i64 0),.nil,.nil,.agg [.lit (.string []),.lit (.int .i64 0),.lit (.int .i64 0),.lit (.bool false),.lit (.string []),.nil,.nil,.agg [.nil,.nil,.lit (.int .i64 0),.lit (.int .i64 0),.lit (.int .i64 0),.lit (.int .i64 0),.lit (.int .i64 0),.lit (.int .i64 0),.lit (.int .i64 0)]],.lit (.int .i64 0),.agg [.lit (.string []),.lit (.int .i64 0)]]],[],[])) AA rfl AA) ?_
 intro W base args ds gs before u hW _ hk _;show Calls _ _ _ _ λe W'=>∃v,e=.returned v/\Rows.roomAgainSpec.post enc Aw Tryz.f6 false true false false W args v W';have z:∀(j:Nat) t v,Tryz.f6.params[j]? =some t->args[j]? =some v->Value.okWide Aw W .any base t v:=u;have I:=hW;obtain⟨p,q,O,hV,rfl,_,_⟩:=hW;have hA:DataW.TrodAll enc Aw W 0 (λ_=>true) true Tryz.f6.params.toList args.toList ds p:=O;rw[Tryz.params6]at hA z;obtain⟨v0,v1,d0,d1,p0,p1,rfl,rfl,rfl,h0,h1⟩:=trodAll_two hA;obtain⟨rfl,rfl⟩:=trodVars_none hV;obtain⟨w0,rfl, -⟩:=okWide_struct Ub (z 0 45 v0 rfl rfl);have h0k:=h0;obtain⟨fuel0,hf0⟩:=h0;obtain⟨r0,hv0,hw0,hc0⟩:=(aXV enc W _ _ _) _ _ _ hf0 (a4Q hk Bf);have U:=And.intro hv0 (EI hw0 (a4Q hk Bf));have hr0:=aTO (x:=CZ r0) rfl hc0;obtain⟨w1,rfl, -⟩:=okWide_struct QX (z 1 38 v1 rfl rfl);have h1k:=h1;obtain⟨fuel1,hf1⟩:=h1;obtain⟨r1,hv1,hw1,hc1⟩:=(aCd enc W _ _ _) _ _ _ hf1 (a4Q hk Bf);have Y:=And.intro hv1 (EI hw1 (a4Q hk Bf));have hr1:=aTO (x:=BF r1) rfl hc1;clear O u;simp only[UC]at I;have Z:∀x∈p0,x.block<W.heap.size:=λx hx=>by simpa using I.lt x (by simp[hx])
 have J:∀(W':Ba),Below W.heap.size W W'->DataW.Trod enc Aw W' 0 (λb=>b<W.heap.size) true 45 (.agg w0) d0 p0:=
  λW' M=>Below.trod Tryz.Q8 AA (PI AA) h0k M Z
 have hlt1:∀x∈p1,x.block<W.heap.size:=λx hx=>by simpa using I.lt x (by simp[hx])
 have L:∀(W':Ba),Below W.heap.size W W'->DataW.Trod enc Aw W' 0 (λb=>b<W.heap.size) true 38 (.agg w1) d1 p1:=
  λW' M=>Below.trod Tryz.Q8 AA (PI AA) h1k M hlt1
 refine(Ed.law (xs:=[CZ r0,BF r1]) (W:=W) (aXw r0 r1 true (aXg r0 r1 U Y)) rfl (λi hi=>?_)).mono λe W' he=>?_
 ·match i,hi with
  |0,_=>exact hr0
  |1,_=>exact hr1
 obtain⟨rfl,M⟩:=he;exact⟨_,rfl,_,_,_,[],(p0++p1),[],I,trodAll_mk1 (shut_bool Yw _),trodAll_mk2 (J W' M) (L W' M),rfl,M.frame _,λh=>Gu⟩
def Tryz.amo:mapsRowed Aw=true:=AA
def Tryz.apz:Aw.inPlace 6=["internal/bytealg.IndexByteString", "internal/bytealg.IndexString", "slices.overlaps[fedchat/api.Event]"]:=AA
def Tryz.Vs:Aw.unfollowed 6=true:=AA
def Tryz.ani:Aw.recurses 6=true:=by unfold Program.recurses;rw[Tryz.Vs];rfl
def Tryz.as1:Aw.varsNamed 6=["internal/bytealg.MaxLen"]:=AA
def Tryz.amq:(Rows.roomAgainUptoRow.plainKeys==Aw.plainKeys)=true:=AA
def Tryz.akf:Aw.stopsHeard=true:=AA
def Tryz.anj:Aw.mayEnter=true:=AA
def Tryz.arF:(Rows.roomAgainUptoRow.lifted==Aw.liftsFinal)=true:=AA
def Tryz.avl:(Aw.make==some Rows.roomAgainUptoRow.make)=true:=AA
def Tryz.arG:joinedFacts Aw 6 Tryz.f6 (Rows.OpenSpec.upto Rows.roomAgainSpec).bare Rows.roomAgainUptoRow=true:=by
 unfold joinedFacts;rw[Tryz.Q8,Tryz.amo,Tryz.apz,Tryz.Vs,Tryz.ani,Tryz.as1,Tryz.amq,Tryz.akf,Tryz.anj,Tryz.arF,Tryz.avl];kernel_rfl
theorem roomAgainUpto_holds :Rows.RoomAgainUptoSaid:=
 OpenClaim.holds_of_cond 6 Tryz.f6 rfl rfl rfl rfl rfl rfl rfl ⟨rfl,rfl,rfl,rfl,rfl⟩ rfl rfl rfl rfl rfl AA func6 Tryz.arG
  (PI AA) (by unfold Func.isWrapper;first|(rw[ET OV];kernel_rfl)|(rw[Ef OV];exact⟨rfl,rfl⟩))
  (λos j H enc _ F=>amg os j H enc F)
end
end Go.Proofs.YtfmoknlmaldmlaaGreat
