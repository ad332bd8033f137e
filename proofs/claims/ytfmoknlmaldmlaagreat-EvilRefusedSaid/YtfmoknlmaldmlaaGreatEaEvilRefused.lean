/- The law EvilRefused holds (short forms written by wip/shrink.py; no condition). -/
import Derived.Test.YtfmoknlmaldmlaaGreatEa3
set_option linter.defProp false
set_option linter.unnecessarySimpa false
set_option linter.unusedSectionVars false
set_option linter.unusedVariables false
set_option linter.unusedSimpArgs false
namespace Go.Proofs.YtfmoknlmaldmlaaGreat
open Go.RowKit Go.Proofs.Tryz
section
def sK (x:Iy):Prop:=x.User.size<=maxLen/\(IntKind.i64.min<=x.N/\x.N<=IntKind.i64.max)
set_option maxRecDepth 20000 in
def abg {H:Type} (enc:BA×Af->H) (w:Ai) (base:Nat) (spare:Nat->AO) (held:AO):Ef enc AZ w base spare held 146 E9 sK:=by
 intro Am cs x h;have j:=Fh Tryz.underlying146 h 2 A8;obtain⟨a0,m,n⟩:=BM Tryz.underlying146 h 0 9 0 1 A8 (EZ EP);obtain⟨q,r,s⟩:=BM Tryz.underlying146 h 1 3 1 1 A8 (Cc D7);exact⟨⟨a0,q⟩,⟨m,r⟩,Fa [1,1] FX (Ar.append n (Ar.append s (Ar.nil w)))⟩
def tY (x:Ii):Prop:=(IntKind.i64.min<=x.Kind/\x.Kind<=IntKind.i64.max)/\(IntKind.i64.min<=x.N/\x.N<=IntKind.i64.max)
set_option maxRecDepth 20000 in
def agj {H:Type} (enc:BA×Af->H) (w:Ai) (base:Nat) (spare:Nat->AO) (held:AO):Ef enc AZ w base spare held 221 EH tY:=by
 intro Am cs x h;have j:=Fh Tryz.underlying221 h 2 A8;obtain⟨a0,m,n⟩:=BM Tryz.underlying221 h 0 26 0 1 A8 (Cc Tryz.underlying26);obtain⟨q,r,s⟩:=BM Tryz.underlying221 h 1 3 1 1 A8 (Cc D7);exact⟨⟨a0,q⟩,⟨m,r⟩,Fa [1,1] FX (Ar.append n (Ar.append s (Ar.nil w)))⟩
def sN (x:Dl):Prop:=(x.Users.length<=maxLen/\∀h∈x.Users,sK h)/\(x.Kinds.length<=maxLen/\∀j∈x.Kinds,tY j)/\(IntKind.i64.min<=x.User/\x.User<=IntKind.i64.max)/\(IntKind.i64.min<=x.Message/\x.Message<=IntKind.i64.max)/\(IntKind.i64.min<=x.State/\x.State<=IntKind.i64.max)/\(IntKind.i64.min<=x.iD/\x.iD<=IntKind.i64.max)/\(IntKind.i64.min<=x.lS/\x.lS<=IntKind.i64.max)/\(IntKind.i64.min<=x.qm/\x.qm<=IntKind.i64.max)/\(IntKind.i64.min<=x.iE/\x.iE<=IntKind.i64.max)
set_option maxRecDepth 20000 in
def abW {H:Type} (enc:BA×Af->H) (w:Ai) (base:Nat) (spare:Nat->AO) (held:AO):Ef enc AZ w base spare held 32 IL sN:=by
 intro Am cs x h;have j:=Fh Lm h 9 A8;obtain⟨a0,m,n⟩:=BM Lm h 0 29 0 1 A8 (Eh (sz:=2) Tryz.underlying29 A8 BQ (fun _=>rfl) (abg enc w base spare held));obtain⟨q,r,s⟩:=BM Lm h 1 30 1 1 A8 (Eh (sz:=2) Tryz.underlying30 A8 BQ (fun _=>rfl) (agj enc w base spare held));obtain⟨u,z,I⟩:=BM Lm h 2 3 2 1 A8 (Cc D7);obtain⟨J,L,M⟩:=BM Lm h 3 3 3 1 A8 (Cc D7);obtain⟨O,S,U⟩:=BM Lm h 4 3 4 1 A8 (Cc D7);obtain⟨Y,Z,h5⟩:=BM Lm h 5 3 5 1 A8 (Cc D7);obtain⟨a6,v6,h6⟩:=BM Lm h 6 3 6 1 A8 (Cc D7);obtain⟨a7,v7,h7⟩:=BM Lm h 7 3 7 1 A8 (Cc D7);obtain⟨a8,v8,h8⟩:=BM Lm h 8 3 8 1 A8 (Cc D7);exact⟨⟨a0,q,u,J,O,Y,a6,a7,a8⟩,⟨m,r,z,L,S,Z,v6,v7,v8⟩,Fa [1,1,1,1,1,1,1,1,1] FX (Ar.append n (Ar.append s (Ar.append I (Ar.append M (Ar.append U (Ar.append h5 (Ar.append h6 (Ar.append h7 (Ar.append h8 (Ar.nil w))))))))))⟩
def wU (x:BF):Prop:=x.Text.size<=maxLen/\(IntKind.i64.min<=x.N/\x.N<=IntKind.i64.max)/\(IntKind.i64.min<=x.Target/\x.Target<=IntKind.i64.max)/\True/\x.Via.size<=maxLen/\(x.Allow.length<=maxLen/\∀h∈x.Allow,h.size<=maxLen)/\(x.dw.length<=maxLen/\∀j∈x.dw,j.size<=maxLen)/\sN x.Levels
set_option maxRecDepth 20000 in
def agT {H:Type} (enc:BA×Af->H) (w:Ai) (base:Nat) (spare:Nat->AO) (held:AO):Ef enc AZ w base spare held 34 Df wU:=by
 intro Am cs x h;have j:=Fh NM h 16 A8;obtain⟨a0,m,n⟩:=BM NM h 0 9 0 1 A8 (EZ EP);obtain⟨q,r,s⟩:=BM NM h 1 3 1 1 A8 (Cc D7);obtain⟨u,z,I⟩:=BM NM h 2 3 2 1 A8 (Cc D7);obtain⟨J,L,M⟩:=BM NM h 3 4 3 1 A8 (UL P8);obtain⟨O,S,U⟩:=BM NM h 4 9 4 1 A8 (EZ EP);obtain⟨Y,Z,h5⟩:=BM NM h 5 28 5 1 A8 (Eh (sz:=1) Tryz.underlying28 A8 BQ (fun _=>rfl) (EZ EP));obtain⟨a6,v6,h6⟩:=BM NM h 6 28 6 1 A8 (Eh (sz:=1) Tryz.underlying28 A8 BQ (fun _=>rfl) (EZ EP));obtain⟨a7,v7,h7⟩:=BM NM h 7 32 7 9 A8 (abW enc w base spare held);exact⟨⟨a0,q,u,J,O,Y,a6,a7⟩,⟨m,r,z,L,S,Z,v6,v7⟩,Fa [1,1,1,1,1,1,1,9] FX (Ar.append n (Ar.append s (Ar.append I (Ar.append M (Ar.append U (Ar.append h5 (Ar.append h6 (Ar.append h7 (Ar.nil w)))))))))⟩
def uj (x:I8):Prop:=x.Server.size<=maxLen/\(IntKind.i64.min<=x.Sum/\x.Sum<=IntKind.i64.max)
set_option maxRecDepth 20000 in
def afI {H:Type} (enc:BA×Af->H) (w:Ai) (base:Nat) (spare:Nat->AO) (held:AO):Ef enc AZ w base spare held 36 zB uj:=by
 intro Am cs x h;have j:=Fh Tryz.underlying36 h 2 A8;obtain⟨a0,m,n⟩:=BM Tryz.underlying36 h 0 9 0 1 A8 (EZ EP);obtain⟨q,r,s⟩:=BM Tryz.underlying36 h 1 3 1 1 A8 (Cc D7);exact⟨⟨a0,q⟩,⟨m,r⟩,Fa [1,1] FX (Ar.append n (Ar.append s (Ar.nil w)))⟩
def OD (x:BH):Prop:=(IntKind.i64.min<=x.Id/\x.Id<=IntKind.i64.max)/\x.Room.size<=maxLen/\x.aQ.size<=maxLen/\(IntKind.i64.min<=x.Kind/\x.Kind<=IntKind.i64.max)/\True/\x.Key.size<=maxLen/\(IntKind.i64.min<=x.Time/\x.Time<=IntKind.i64.max)/\(IntKind.i64.min<=x.Depth/\x.Depth<=IntKind.i64.max)/\(x.iM.length<=maxLen/\∀h∈x.iM,(IntKind.i64.min<=h/\h<=IntKind.i64.max))/\(x.iT.length<=maxLen/\∀j∈x.iT,(IntKind.i64.min<=j/\j<=IntKind.i64.max))/\wU x.Content/\(IntKind.i64.min<=x.Hash/\x.Hash<=IntKind.i64.max)/\uj x.eu
set_option maxRecDepth 20000 in
def Ph {H:Type} (enc:BA×Af->H) (w:Ai) (base:Nat) (spare:Nat->AO) (held:AO):Ef enc AZ w base spare held 38 DT OD:=by
 intro Am cs x h;have J:=Fh Ik h 29 A8;obtain⟨a0,L,M⟩:=BM Ik h 0 3 0 1 A8 (Cc D7);obtain⟨O,S,U⟩:=BM Ik h 1 9 1 1 A8 (EZ EP);obtain⟨Y,Z,h2⟩:=BM Ik h 2 9 2 1 A8 (EZ EP);obtain⟨a3,v3,h3⟩:=BM Ik h 3 26 3 1 A8 (Cc Tryz.underlying26);obtain⟨a4,v4,h4⟩:=BM Ik h 4 4 4 1 A8 (UL P8);obtain⟨a5,v5,h5⟩:=BM Ik h 5 9 5 1 A8 (EZ EP);obtain⟨a6,v6,h6⟩:=BM Ik h 6 3 6 1 A8 (Cc D7);obtain⟨a7,v7,h7⟩:=BM Ik h 7 3 7 1 A8 (Cc D7);obtain⟨a8,v8,h8⟩:=BM Ik h 8 27 8 1 A8 (Eh (sz:=1) WL A8 BQ (fun _=>rfl) (Cc D7));obtain⟨a9,v9,h9⟩:=BM Ik h 9 27 9 1 A8 (Eh (sz:=1) WL A8 BQ (fun _=>rfl) (Cc D7));obtain⟨j,m,n⟩:=BM Ik h 10 34 10 16 A8 (agT enc w base spare held);obtain⟨q,r,s⟩:=BM Ik h 11 3 26 1 A8 (Cc D7);obtain⟨u,z,I⟩:=BM Ik h 12 36 27 2 A8 (afI enc w base spare held);exact⟨⟨a0,O,Y,a3,a4,a5,a6,a7,a8,a9,j,q,u⟩,⟨L,S,Z,v3,v4,v5,v6,v7,v8,v9,m,r,z⟩,Fa [1,1,1,1,1,1,1,1,1,1,16,1,2] (by rw[J];rfl) (Ar.append M (Ar.append U (Ar.append h2 (Ar.append h3 (Ar.append h4 (Ar.append h5 (Ar.append h6 (Ar.append h7 (Ar.append h8 (Ar.append h9 (Ar.append n (Ar.append s (Ar.append I (Ar.nil w))))))))))))))⟩
def oI (x:Lp):Prop:=(IntKind.i64.min<=x.Pos/\x.Pos<=IntKind.i64.max)/\(IntKind.i64.min<=x.Id/\x.Id<=IntKind.i64.max)/\(IntKind.i64.min<=x.Status/\x.Status<=IntKind.i64.max)/\True
set_option maxRecDepth 20000 in
def ad4 {H:Type} (enc:BA×Af->H) (w:Ai) (base:Nat) (spare:Nat->AO) (held:AO):Ef enc AZ w base spare held 79 Ja oI:=by
 intro Am cs x h;have j:=Fh Uc h 4 A8;obtain⟨a0,m,n⟩:=BM Uc h 0 3 0 1 A8 (Cc D7);obtain⟨q,r,s⟩:=BM Uc h 1 3 1 1 A8 (Cc D7);obtain⟨u,z,I⟩:=BM Uc h 2 71 2 1 A8 (Cc Tryz.underlying71);obtain⟨J,L,M⟩:=BM Uc h 3 4 3 1 A8 (UL P8);exact⟨⟨a0,q,u,J⟩,⟨m,r,z,L⟩,Fa [1,1,1,1] FX (Ar.append n (Ar.append s (Ar.append I (Ar.append M (Ar.nil w)))))⟩
def lN (x:Q9):Prop:=(IntKind.i64.min<=x.Kind/\x.Kind<=IntKind.i64.max)/\x.Key.size<=maxLen/\(IntKind.i64.min<=x.Id/\x.Id<=IntKind.i64.max)
set_option maxRecDepth 20000 in
def aef {H:Type} (enc:BA×Af->H) (w:Ai) (base:Nat) (spare:Nat->AO) (held:AO):Ef enc AZ w base spare held 82 Em lN:=by
 intro Am cs x h;have j:=Fh XM h 3 A8;obtain⟨a0,m,n⟩:=BM XM h 0 26 0 1 A8 (Cc Tryz.underlying26);obtain⟨q,r,s⟩:=BM XM h 1 9 1 1 A8 (EZ EP);obtain⟨u,z,I⟩:=BM XM h 2 3 2 1 A8 (Cc D7);exact⟨⟨a0,q,u⟩,⟨m,r,z⟩,Fa [1,1,1] FX (Ar.append n (Ar.append s (Ar.append I (Ar.nil w))))⟩
def vV (x:Oy):Prop:=x.User.size<=maxLen/\(IntKind.i64.min<=x.Thread/\x.Thread<=IntKind.i64.max)/\(IntKind.i64.min<=x.Id/\x.Id<=IntKind.i64.max)/\(IntKind.i64.min<=x.Time/\x.Time<=IntKind.i64.max)
set_option maxRecDepth 20000 in
def yx {H:Type} (enc:BA×Af->H) (w:Ai) (base:Nat) (spare:Nat->AO) (held:AO):Ef enc AZ w base spare held 102 Ls vV:=by
 intro Am cs x h;have j:=Fh Ui h 4 A8;obtain⟨a0,m,n⟩:=BM Ui h 0 9 0 1 A8 (EZ EP);obtain⟨q,r,s⟩:=BM Ui h 1 3 1 1 A8 (Cc D7);obtain⟨u,z,I⟩:=BM Ui h 2 3 2 1 A8 (Cc D7);obtain⟨J,L,M⟩:=BM Ui h 3 3 3 1 A8 (Cc D7);exact⟨⟨a0,q,u,J⟩,⟨m,r,z,L⟩,Fa [1,1,1,1] FX (Ar.append n (Ar.append s (Ar.append I (Ar.append M (Ar.nil w)))))⟩
def qF (x:Po):Prop:=x.User.size<=maxLen/\(IntKind.i64.min<=x.Until/\x.Until<=IntKind.i64.max)
set_option maxRecDepth 20000 in
def aaD {H:Type} (enc:BA×Af->H) (w:Ai) (base:Nat) (spare:Nat->AO) (held:AO):Ef enc AZ w base spare held 104 La qF:=by
 intro Am cs x h;have j:=Fh Tryz.underlying104 h 2 A8;obtain⟨a0,m,n⟩:=BM Tryz.underlying104 h 0 9 0 1 A8 (EZ EP);obtain⟨q,r,s⟩:=BM Tryz.underlying104 h 1 3 1 1 A8 (Cc D7);exact⟨⟨a0,q⟩,⟨m,r⟩,Fa [1,1] FX (Ar.append n (Ar.append s (Ar.nil w)))⟩
def wE (x:Dj):Prop:=x.Id.size<=maxLen/\(x.Events.length<=maxLen/\∀q∈x.Events,OD q)/\(x.Rows.length<=maxLen/\∀r∈x.Rows,oI r)/\(x.Waiting.length<=maxLen/\∀s∈x.Waiting,OD s)/\(x.vJ.length<=maxLen/\∀h∈x.vJ,(IntKind.i64.min<=h/\h<=IntKind.i64.max))/\(x.State.length<=maxLen/\∀j∈x.State,lN j)/\(IntKind.i64.min<=x.Next/\x.Next<=IntKind.i64.max)/\(x.gq.length<=maxLen/\∀m∈x.gq,vV m)/\(x.jF.length<=maxLen/\∀n∈x.jF,qF n)
set_option maxRecDepth 20000 in
def qC {H:Type} (enc:BA×Af->H) (w:Ai) (base:Nat) (spare:Nat->AO) (held:AO):Ef enc AZ w base spare held 45 Hf wE:=by
 intro Am cs x h;have j:=Fh KT h 9 A8;obtain⟨a0,m,n⟩:=BM KT h 0 9 0 1 A8 (EZ EP);obtain⟨q,r,s⟩:=BM KT h 1 22 1 1 A8 (Eh (sz:=29) Qe A8 BQ (fun _=>rfl) (Ph enc w base spare held));obtain⟨u,z,I⟩:=BM KT h 2 39 2 1 A8 (Eh (sz:=4) Tryz.underlying39 A8 BQ (fun _=>rfl) (ad4 enc w base spare held));obtain⟨J,L,M⟩:=BM KT h 3 22 3 1 A8 (Eh (sz:=29) Qe A8 BQ (fun _=>rfl) (Ph enc w base spare held));obtain⟨O,S,U⟩:=BM KT h 4 27 4 1 A8 (Eh (sz:=1) WL A8 BQ (fun _=>rfl) (Cc D7));obtain⟨Y,Z,h5⟩:=BM KT h 5 41 5 1 A8 (Eh (sz:=3) Tryz.underlying41 A8 BQ (fun _=>rfl) (aef enc w base spare held));obtain⟨a6,v6,h6⟩:=BM KT h 6 3 6 1 A8 (Cc D7);obtain⟨a7,v7,h7⟩:=BM KT h 7 42 7 1 A8 (Eh (sz:=4) Tryz.underlying42 A8 BQ (fun _=>rfl) (yx enc w base spare held));obtain⟨a8,v8,h8⟩:=BM KT h 8 43 8 1 A8 (Eh (sz:=2) Tryz.underlying43 A8 BQ (fun _=>rfl) (aaD enc w base spare held));exact⟨⟨a0,q,u,J,O,Y,a6,a7,a8⟩,⟨m,r,z,L,S,Z,v6,v7,v8⟩,Fa [1,1,1,1,1,1,1,1,1] FX (Ar.append n (Ar.append s (Ar.append I (Ar.append M (Ar.append U (Ar.append h5 (Ar.append h6 (Ar.append h7 (Ar.append h8 (Ar.nil w))))))))))⟩
def nZ (x:Uf):Prop:=x.To.size<=maxLen/\(IntKind.i64.min<=x.Next/\x.Next<=IntKind.i64.max)/\(x.Events.length<=maxLen/\∀h∈x.Events,OD h)/\(x.Open.length<=maxLen/\∀j∈x.Open,OD j)/\(IntKind.i64.min<=x.Fails/\x.Fails<=IntKind.i64.max)/\(IntKind.i64.min<=x.At/\x.At<=IntKind.i64.max)
set_option maxRecDepth 20000 in
def abo {H:Type} (enc:BA×Af->H) (w:Ai) (base:Nat) (spare:Nat->AO) (held:AO):Ef enc AZ w base spare held 396 wS nZ:=by
 intro Am cs x h;have j:=Fh QH h 6 A8;obtain⟨a0,m,n⟩:=BM QH h 0 9 0 1 A8 (EZ EP);obtain⟨q,r,s⟩:=BM QH h 1 3 1 1 A8 (Cc D7);obtain⟨u,z,I⟩:=BM QH h 2 22 2 1 A8 (Eh (sz:=29) Qe A8 BQ (fun _=>rfl) (Ph enc w base spare held));obtain⟨J,L,M⟩:=BM QH h 3 22 3 1 A8 (Eh (sz:=29) Qe A8 BQ (fun _=>rfl) (Ph enc w base spare held));obtain⟨O,S,U⟩:=BM QH h 4 3 4 1 A8 (Cc D7);obtain⟨Y,Z,h5⟩:=BM QH h 5 3 5 1 A8 (Cc D7);exact⟨⟨a0,q,u,J,O,Y⟩,⟨m,r,z,L,S,Z⟩,Fa [1,1,1,1,1,1] FX (Ar.append n (Ar.append s (Ar.append I (Ar.append M (Ar.append U (Ar.append h5 (Ar.nil w)))))))⟩
def vS (x:Nj):Prop:=x.From.size<=maxLen/\x.To.size<=maxLen/\(IntKind.i64.min<=x.Kind/\x.Kind<=IntKind.i64.max)/\(IntKind.i64.min<=x.N/\x.N<=IntKind.i64.max)/\x.Room.size<=maxLen/\(x.Events.length<=maxLen/\∀j∈x.Events,OD j)/\(x.Ids.length<=maxLen/\∀h∈x.Ids,(IntKind.i64.min<=h/\h<=IntKind.i64.max))/\(x.iT.length<=maxLen/\∀m∈x.iT,OD m)/\x.User.size<=maxLen/\(IntKind.i64.min<=x.Err/\x.Err<=IntKind.i64.max)
set_option maxRecDepth 20000 in
def abQ {H:Type} (enc:BA×Af->H) (w:Ai) (base:Nat) (spare:Nat->AO) (held:AO):Ef enc AZ w base spare held 69 Dy vS:=by
 intro Am cs x h;have j:=Fh Kq h 10 A8;obtain⟨a0,m,n⟩:=BM Kq h 0 9 0 1 A8 (EZ EP);obtain⟨q,r,s⟩:=BM Kq h 1 9 1 1 A8 (EZ EP);obtain⟨u,z,I⟩:=BM Kq h 2 67 2 1 A8 (Cc Tryz.underlying67);obtain⟨J,L,M⟩:=BM Kq h 3 3 3 1 A8 (Cc D7);obtain⟨O,S,U⟩:=BM Kq h 4 9 4 1 A8 (EZ EP);obtain⟨Y,Z,h5⟩:=BM Kq h 5 22 5 1 A8 (Eh (sz:=29) Qe A8 BQ (fun _=>rfl) (Ph enc w base spare held));obtain⟨a6,v6,h6⟩:=BM Kq h 6 27 6 1 A8 (Eh (sz:=1) WL A8 BQ (fun _=>rfl) (Cc D7));obtain⟨a7,v7,h7⟩:=BM Kq h 7 22 7 1 A8 (Eh (sz:=29) Qe A8 BQ (fun _=>rfl) (Ph enc w base spare held));obtain⟨a8,v8,h8⟩:=BM Kq h 8 9 8 1 A8 (EZ EP);obtain⟨a9,v9,h9⟩:=BM Kq h 9 64 9 1 A8 (Cc Tryz.underlying64);exact⟨⟨a0,q,u,J,O,Y,a6,a7,a8,a9⟩,⟨m,r,z,L,S,Z,v6,v7,v8,v9⟩,Fa [1,1,1,1,1,1,1,1,1,1] FX (Ar.append n (Ar.append s (Ar.append I (Ar.append M (Ar.append U (Ar.append h5 (Ar.append h6 (Ar.append h7 (Ar.append h8 (Ar.append h9 (Ar.nil w)))))))))))⟩
def uy (x:UK):Prop:=x.Id.size<=maxLen/\(IntKind.i64.min<=x.Key/\x.Key<=IntKind.i64.max)/\True
set_option maxRecDepth 20000 in
def ac6 {H:Type} (enc:BA×Af->H) (w:Ai) (base:Nat) (spare:Nat->AO) (held:AO):Ef enc AZ w base spare held 430 tK uy:=by
 intro Am cs x h;have j:=Fh Vt h 3 A8;obtain⟨a0,m,n⟩:=BM Vt h 0 9 0 1 A8 (EZ EP);obtain⟨q,r,s⟩:=BM Vt h 1 3 1 1 A8 (Cc D7);obtain⟨u,z,I⟩:=BM Vt h 2 4 2 1 A8 (UL P8);exact⟨⟨a0,q,u⟩,⟨m,r,z⟩,Fa [1,1,1] FX (Ar.append n (Ar.append s (Ar.append I (Ar.nil w))))⟩
def qc (x:VG):Prop:=x.User.size<=maxLen/\(IntKind.i64.min<=x.Qz/\x.Qz<=IntKind.i64.max)/\(IntKind.i64.min<=x.Pos/\x.Pos<=IntKind.i64.max)/\(x.NI.length<=maxLen/\∀h∈x.NI,uy h)
set_option maxRecDepth 20000 in
def acK {H:Type} (enc:BA×Af->H) (w:Ai) (base:Nat) (spare:Nat->AO) (held:AO):Ef enc AZ w base spare held 399 pX qc:=by
 intro Am cs x h;have j:=Fh V7 h 4 A8;obtain⟨a0,m,n⟩:=BM V7 h 0 9 0 1 A8 (EZ EP);obtain⟨q,r,s⟩:=BM V7 h 1 3 1 1 A8 (Cc D7);obtain⟨u,z,I⟩:=BM V7 h 2 3 2 1 A8 (Cc D7);obtain⟨J,L,M⟩:=BM V7 h 3 397 3 1 A8 (Eh (sz:=3) Tryz.underlying397 A8 BQ (fun _=>rfl) (ac6 enc w base spare held));exact⟨⟨a0,q,u,J⟩,⟨m,r,z,L⟩,Fa [1,1,1,1] FX (Ar.append n (Ar.append s (Ar.append I (Ar.append M (Ar.nil w)))))⟩
def rO (x:Vd):Prop:=x.User.size<=maxLen/\x.Device.size<=maxLen/\(IntKind.i64.min<=x.Next/\x.Next<=IntKind.i64.max)/\(IntKind.i64.min<=x.Left/\x.Left<=IntKind.i64.max)
set_option maxRecDepth 20000 in
def acU {H:Type} (enc:BA×Af->H) (w:Ai) (base:Nat) (spare:Nat->AO) (held:AO):Ef enc AZ w base spare held 401 ng rO:=by
 intro Am cs x h;have j:=Fh VH h 4 A8;obtain⟨a0,m,n⟩:=BM VH h 0 9 0 1 A8 (EZ EP);obtain⟨q,r,s⟩:=BM VH h 1 9 1 1 A8 (EZ EP);obtain⟨u,z,I⟩:=BM VH h 2 3 2 1 A8 (Cc D7);obtain⟨J,L,M⟩:=BM VH h 3 3 3 1 A8 (Cc D7);exact⟨⟨a0,q,u,J⟩,⟨m,r,z,L⟩,Fa [1,1,1,1] FX (Ar.append n (Ar.append s (Ar.append I (Ar.append M (Ar.nil w)))))⟩
def tZ (x:TF):Prop:=(IntKind.i64.min<=x.Left/\x.Left<=IntKind.i64.max)/\(IntKind.i64.min<=x.At/\x.At<=IntKind.i64.max)/\(IntKind.i64.min<=x.Most/\x.Most<=IntKind.i64.max)/\(IntKind.i64.min<=x.Every/\x.Every<=IntKind.i64.max)
set_option maxRecDepth 20000 in
def adv {H:Type} (enc:BA×Af->H) (w:Ai) (base:Nat) (spare:Nat->AO) (held:AO):Ef enc AZ w base spare held 403 ae4 tZ:=by
 intro Am cs x h;have j:=Fh UY h 4 A8;obtain⟨a0,m,n⟩:=BM UY h 0 3 0 1 A8 (Cc D7);obtain⟨q,r,s⟩:=BM UY h 1 3 1 1 A8 (Cc D7);obtain⟨u,z,I⟩:=BM UY h 2 3 2 1 A8 (Cc D7);obtain⟨J,L,M⟩:=BM UY h 3 3 3 1 A8 (Cc D7);exact⟨⟨a0,q,u,J⟩,⟨m,r,z,L⟩,Fa [1,1,1,1] FX (Ar.append n (Ar.append s (Ar.append I (Ar.append M (Ar.nil w)))))⟩
def pS (x:UR):Prop:=x.User.size<=maxLen/\tZ x.Bucket
set_option maxRecDepth 20000 in
def afA {H:Type} (enc:BA×Af->H) (w:Ai) (base:Nat) (spare:Nat->AO) (held:AO):Ef enc AZ w base spare held 405 wG pS:=by
 intro Am cs x h;have j:=Fh Tryz.underlying405 h 5 A8;obtain⟨a0,m,n⟩:=BM Tryz.underlying405 h 0 9 0 1 A8 (EZ EP);obtain⟨q,r,s⟩:=BM Tryz.underlying405 h 1 403 1 4 A8 (adv enc w base spare held);exact⟨⟨a0,q⟩,⟨m,r⟩,Fa [1,4] FX (Ar.append n (Ar.append s (Ar.nil w)))⟩
def xG (x:VU):Prop:=x.Server.size<=maxLen/\x.Name.size<=maxLen/\(IntKind.i64.min<=x.Size/\x.Size<=IntKind.i64.max)/\(IntKind.i64.min<=x.At/\x.At<=IntKind.i64.max)/\(IntKind.i64.min<=x.Is/\x.Is<=IntKind.i64.max)
set_option maxRecDepth 20000 in
def afu {H:Type} (enc:BA×Af->H) (w:Ai) (base:Nat) (spare:Nat->AO) (held:AO):Ef enc AZ w base spare held 407 nO xG:=by
 intro Am cs x h;have j:=Fh QW h 5 A8;obtain⟨a0,m,n⟩:=BM QW h 0 9 0 1 A8 (EZ EP);obtain⟨q,r,s⟩:=BM QW h 1 9 1 1 A8 (EZ EP);obtain⟨u,z,I⟩:=BM QW h 2 3 2 1 A8 (Cc D7);obtain⟨J,L,M⟩:=BM QW h 3 3 3 1 A8 (Cc D7);obtain⟨O,S,U⟩:=BM QW h 4 3 4 1 A8 (Cc D7);exact⟨⟨a0,q,u,J,O⟩,⟨m,r,z,L,S⟩,Fa [1,1,1,1,1] FX (Ar.append n (Ar.append s (Ar.append I (Ar.append M (Ar.append U (Ar.nil w))))))⟩
def abq (x:Fp):Prop:=x.Name.size<=maxLen/\(x.Ut.length<=maxLen/\∀h∈x.Ut,wE h)/\(x.QB.length<=maxLen/\∀j∈x.QB,nZ j)/\(x.Users.length<=maxLen/\∀m∈x.Users,m.size<=maxLen)/\(x.Pending.length<=maxLen/\∀n∈x.Pending,vS n)/\(x.Keys.length<=maxLen/\∀q∈x.Keys,qc q)/\(IntKind.i64.min<=x.Stream/\x.Stream<=IntKind.i64.max)/\(x.NJ.length<=maxLen/\∀r∈x.NJ,rO r)/\(x.Limits.length<=maxLen/\∀s∈x.Limits,pS s)/\(x.Media.length<=maxLen/\∀u∈x.Media,xG u)/\True/\(IntKind.i64.min<=x.Now/\x.Now<=IntKind.i64.max)
set_option maxRecDepth 20000 in
def yY {H:Type} (enc:BA×Af->H) (w:Ai) (base:Nat) (spare:Nat->AO) (held:AO):Ef enc AZ w base spare held 59 JH abq:=by
 intro Am cs x h;have u:=Fh J3 h 12 A8;obtain⟨a0,z,I⟩:=BM J3 h 0 9 0 1 A8 (EZ EP);obtain⟨J,L,M⟩:=BM J3 h 1 51 1 1 A8 (Eh (sz:=9) Tryz.underlying51 A8 BQ (fun _=>rfl) (qC enc w base spare held));obtain⟨O,S,U⟩:=BM J3 h 2 52 2 1 A8 (Eh (sz:=6) Tryz.underlying52 A8 BQ (fun _=>rfl) (abo enc w base spare held));obtain⟨Y,Z,h3⟩:=BM J3 h 3 28 3 1 A8 (Eh (sz:=1) Tryz.underlying28 A8 BQ (fun _=>rfl) (EZ EP));obtain⟨a4,v4,h4⟩:=BM J3 h 4 53 4 1 A8 (Eh (sz:=10) Tryz.underlying53 A8 BQ (fun _=>rfl) (abQ enc w base spare held));obtain⟨a5,v5,h5⟩:=BM J3 h 5 54 5 1 A8 (Eh (sz:=4) Tryz.underlying54 A8 BQ (fun _=>rfl) (acK enc w base spare held));obtain⟨a6,v6,h6⟩:=BM J3 h 6 3 6 1 A8 (Cc D7);obtain⟨a7,v7,h7⟩:=BM J3 h 7 55 7 1 A8 (Eh (sz:=4) Tryz.underlying55 A8 BQ (fun _=>rfl) (acU enc w base spare held));obtain⟨a8,v8,h8⟩:=BM J3 h 8 56 8 1 A8 (Eh (sz:=5) Tryz.underlying56 A8 BQ (fun _=>rfl) (afA enc w base spare held));obtain⟨a9,v9,h9⟩:=BM J3 h 9 57 9 1 A8 (Eh (sz:=5) Tryz.underlying57 A8 BQ (fun _=>rfl) (afu enc w base spare held));obtain⟨j,m,n⟩:=BM J3 h 10 4 10 1 A8 (UL P8);obtain⟨q,r,s⟩:=BM J3 h 11 3 11 1 A8 (Cc D7);exact⟨⟨a0,J,O,Y,a4,a5,a6,a7,a8,a9,j,q⟩,⟨z,L,S,Z,v4,v5,v6,v7,v8,v9,m,r⟩,Fa [1,1,1,1,1,1,1,1,1,1,1,1] (by rw[u];rfl) (Ar.append I (Ar.append M (Ar.append U (Ar.append h3 (Ar.append h4 (Ar.append h5 (Ar.append h6 (Ar.append h7 (Ar.append h8 (Ar.append h9 (Ar.append n (Ar.append s (Ar.nil w)))))))))))))⟩
def abp (x:Ey):Prop:=(IntKind.i64.min<=x.Kind/\x.Kind<=IntKind.i64.max)/\x.To.size<=maxLen/\OD x.Event
set_option maxRecDepth 20000 in
def yt {H:Type} (enc:BA×Af->H) (w:Ai) (base:Nat) (spare:Nat->AO) (held:AO):Ef enc AZ w base spare held 61 Nc abp:=by
 intro Am cs x h;have j:=Fh U6 h 31 A8;obtain⟨a0,m,n⟩:=BM U6 h 0 3 0 1 A8 (Cc D7);obtain⟨q,r,s⟩:=BM U6 h 1 9 1 1 A8 (EZ EP);obtain⟨u,z,I⟩:=BM U6 h 2 38 2 29 A8 (Ph enc w base spare held);exact⟨⟨a0,q,u⟩,⟨m,r,z⟩,Fa [1,1,29] FX (Ar.append n (Ar.append s (Ar.append I (Ar.nil w))))⟩
end
section
open Go.ChangeShapes Go.WideShapes Go.ChangeAt Go.RowKit
def Tryz.Oo:ownKnob AZ.godebug=none:=A8
def Tryz.oO:laidOutB AZ=true:=A8
set_option maxHeartbeats 1600000 in
set_option maxRecDepth 100000 in
def aby (os:Os) (started:os.Started) (H:Type) (enc:BA×Af->H):
 ReturnsInHanded {} Tryz.checked os 4 .any (Rows.evilRefusedSpec.pre6 enc AZ Tryz.f4 Rows.evilRefusedRow.domain false) (Rows.evilRefusedSpec.post enc AZ Tryz.f4 false true false false):=by
 refine returnsInHanded_of_change (C:=Tryz.checked) Tryz.Oo started A8 func4
  (ChangeSpec.witness6 (enc:=enc) (C:=Tryz.checked) false ⟨#[], #[(.agg #[.string Bd,.slice none 0 0,.slice none 0 0,.slice none 0 0,.slice none 0 0,.slice none 0 0,.int .i64 0,.slice none 0 0,.slice none 0 0]),(.agg #[.string Bd,.slice none 0 0,.slice none 0 0,.slice none 0 0,.slice none 0 0,.slice none 0 0,.int .i64 0,.slice none 0 0,.slice none 0 0,.slice none 0 0,.bool false,.int .i64 0]),(.agg #[.int .i64 0,.string Bd,.int .i64 0,.string Bd,.string Bd,.int .i64 0,.bool false,.string Bd,.int .i64 0,.int .i64 0,.slice none 0 0,.slice none 0 0,.string Bd,.int .i64 0,.int .i64 0,.bool false,.string Bd,.slice none 0 0,.slice none 0 0,.slice none 0 0,.slice none 0 0,.int .i64 0,.int .i64 0,.int .i64 0,.int .i64 0,.int .i64 0,.int .i64 0,.int .i64 0,.int .i64 0,.string Bd,.int .i64 0])],[]⟩ 8 A8 A8 A8 A8) ?_
 intro W base args ds gs U n hW _ _;have m:∀(j:Nat) t v,Tryz.f4.params[j]? =some t->args[j]? =some v->Value.okWide AZ W .any base t v:=n;have r:=hW;obtain⟨p,q,J,hV,rfl,_,_⟩:=hW;have hA:DataW.TrodAll enc AZ W 0 (fun _=>true) true Tryz.f4.params.toList args.toList ds p:=J;rw[Tryz.params4]at hA m;obtain⟨v0,v1,v2,d0,d1,d2,p0,p1,p2,rfl,rfl,rfl,h0,h1,h2⟩:=trodAll_three hA;obtain⟨rfl,rfl⟩:=trodVars_none hV;obtain⟨w0,rfl, -⟩:=okWide_struct KT (m 0 45 v0 rfl rfl);have h0k:=h0;obtain⟨fuel0,hf0⟩:=h0;obtain⟨Y,hok0,hc0⟩:=(qC enc W _ _ _) _ _ _ hf0;have hr0:=kD (x:=Hf Y) rfl hc0;obtain⟨w1,rfl, -⟩:=okWide_struct J3 (m 1 59 v1 rfl rfl);have h1k:=h1;obtain⟨fuel1,hf1⟩:=h1;obtain⟨Z,hok1,hc1⟩:=(yY enc W _ _ _) _ _ _ hf1;have hr1:=kD (x:=JH Z) rfl hc1;obtain⟨w2,rfl, -⟩:=okWide_struct U6 (m 2 61 v2 rfl rfl);have h2k:=h2;obtain⟨fuel2,hf2⟩:=h2;obtain⟨r2,hok2,hc2⟩:=(yt enc W _ _ _) _ _ _ hf2;have hr2:=kD (x:=Nc r2) rfl hc2;clear J n;simp only[Zj]at r;have L:∀x∈p0,x.block<W.heap.size:=fun x M=>gu
 have u:∀(W':Ai),Below W.heap.size W W'->DataW.Trod enc AZ W' 0 (fun b=>b<W.heap.size) true 45 (.agg w0) d0 p0:=
  fun W' s=>Below.trod Tryz.oO A8 (RZ A8) h0k s L
 have O:∀x∈p1,x.block<W.heap.size:=fun x M=>gu
 have z:∀(W':Ai),Below W.heap.size W W'->DataW.Trod enc AZ W' 0 (fun b=>b<W.heap.size) true 59 (.agg w1) d1 p1:=
  fun W' s=>Below.trod Tryz.oO A8 (RZ A8) h1k s O
 have S:∀x∈p2,x.block<W.heap.size:=fun x M=>gu
 have I:∀(W':Ai),Below W.heap.size W W'->DataW.Trod enc AZ W' 0 (fun b=>b<W.heap.size) true 61 (.agg w2) d2 p2:=
  fun W' s=>Below.trod Tryz.oO A8 (RZ A8) h2k s S
 refine(DN.law (xs:=[Hf Y,JH Z,Nc r2]) (W:=W) (ae8 Y Z r2 true (adR Y Z r2)) rfl (fun i hi=>?_)).mono fun e W' he=>?_
 ·match i,hi with
  |0,_=>exact hr0
  |1,_=>exact hr1
  |2,_=>exact hr2
 obtain⟨rfl,s⟩:=he;exact⟨_,rfl,_,_,_,[],(p0++(p1++p2)),[],r,trodAll_mk1 (shut_bool P8 _),trodAll_mk3 (u W' s) (z W' s) (I W' s),rfl,s.frame _,fun h=>Ed⟩
def Tryz.GK:mapsRowed AZ=true:=A8
def Tryz.I7:AZ.inPlace 4=["internal/bytealg.IndexByteString", "internal/bytealg.IndexString", "slices.overlaps[fedchat/api.Event]"]:=A8
def Tryz.xA:AZ.unfollowed 4=true:=A8
def Tryz.Hr:AZ.recurses 4=true:=by unfold Program.recurses;rw[Tryz.xA];rfl
def Tryz.Lc:AZ.varsNamed 4=["internal/bytealg.MaxLen"]:=A8
def Tryz.GL:(Rows.evilRefusedRow.plainKeys==AZ.plainKeys)=true:=A8
def Tryz.FT:AZ.stopsHeard=true:=A8
def Tryz.Ht:AZ.mayEnter=true:=A8
def Tryz.Jw:(Rows.evilRefusedRow.lifted==AZ.liftsFinal)=true:=A8
def Tryz.Nq:(AZ.make==some Rows.evilRefusedRow.make)=true:=A8
def Tryz.Jy:joinedFacts AZ 4 Tryz.f4 Rows.evilRefusedSpec Rows.evilRefusedRow=true:=by
 unfold joinedFacts;rw[Tryz.oO,Tryz.GK,Tryz.I7,Tryz.xA,Tryz.Hr,Tryz.Lc,Tryz.GL,Tryz.FT,Tryz.Ht,Tryz.Jw,Tryz.Nq];kernel_rfl
theorem evilRefused_holds :Rows.EvilRefusedSaid:=
 OpenClaim.holds_of_wide 4 Tryz.f4 rfl rfl rfl rfl rfl rfl rfl ⟨rfl,rfl,rfl,rfl,rfl⟩ rfl rfl rfl rfl rfl A8 func4 Tryz.Jy
  (RZ A8) (by unfold Func.isWrapper;first|(rw[EX Gi];kernel_rfl)|(rw[EW Gi];exact⟨rfl,rfl⟩))
  (fun os h H enc _=>aby os h H enc)
end
end Go.Proofs.YtfmoknlmaldmlaaGreat
