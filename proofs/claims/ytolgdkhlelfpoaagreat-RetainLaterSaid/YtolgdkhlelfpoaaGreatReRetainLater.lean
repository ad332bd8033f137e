/- The law RetainLater holds (short forms written by wip/shrink.py; no condition). -/
import Derived.Test.YtolgdkhlelfpoaaGreatRe6
set_option linter.unusedVariables false
set_option linter.unusedSimpArgs false
section
namespace Go.Proofs.YtolgdkhlelfpoaaGreat
open Go.RowKit
def Kq (x:fG):Prop:=x.User.size≤maxLen∧(IntKind.i64.min≤x.N∧x.N≤IntKind.i64.max)
set_option maxRecDepth 20000 in
theorem LZ {H:Type} (enc:TypeId×Value→H) (w:World) (base:Nat) (spare:Nat→Bool) (held:Bool):Opn enc Tryz.prog w base spare held 173 dJ Kq:=by
 intro fuel cs x h;have hl:=jm Tryz.underlying173 h 2 (by kernel_rfl);obtain⟨a0,v0,h0⟩:=aO Tryz.underlying173 h 0 9 0 1 (by kernel_rfl) (jR Tryz.underlying9);obtain⟨a1,v1,h1⟩:=aO Tryz.underlying173 h 1 3 1 1 (by kernel_rfl) (dS Tryz.underlying3);exact⟨⟨a0,a1⟩,⟨v0,v1⟩,jo [1,1] (by rw[hl];rfl) (dR.append h0 (dR.append h1 (dR.nil w)))⟩
def zV (x:dL):Prop:=(IntKind.i64.min≤x.Kind∧x.Kind≤IntKind.i64.max)∧(IntKind.i64.min≤x.N∧x.N≤IntKind.i64.max)
set_option maxRecDepth 20000 in
theorem Ey {H:Type} (enc:TypeId×Value→H) (w:World) (base:Nat) (spare:Nat→Bool) (held:Bool):Opn enc Tryz.prog w base spare held 208 bg zV:=by
 intro fuel cs x h;have hl:=jm Tryz.underlying208 h 2 (by kernel_rfl);obtain⟨a0,v0,h0⟩:=aO Tryz.underlying208 h 0 44 0 1 (by kernel_rfl) (dS Tryz.underlying44);obtain⟨a1,v1,h1⟩:=aO Tryz.underlying208 h 1 3 1 1 (by kernel_rfl) (dS Tryz.underlying3);exact⟨⟨a0,a1⟩,⟨v0,v1⟩,jo [1,1] (by rw[hl];rfl) (dR.append h0 (dR.append h1 (dR.nil w)))⟩
def GY (x:bf):Prop:=(x.Users.length≤maxLen∧∀y1∈x.Users,Kq y1)∧(x.Kinds.length≤maxLen∧∀y2∈x.Kinds,zV y2)∧(IntKind.i64.min≤x.User∧x.User≤IntKind.i64.max)∧(IntKind.i64.min≤x.Message∧x.Message≤IntKind.i64.max)∧(IntKind.i64.min≤x.State∧x.State≤IntKind.i64.max)∧(IntKind.i64.min≤x.iZ∧x.iZ≤IntKind.i64.max)∧(IntKind.i64.min≤x.lH∧x.lH≤IntKind.i64.max)∧(IntKind.i64.min≤x.pV∧x.pV≤IntKind.i64.max)∧(IntKind.i64.min≤x.jB∧x.jB≤IntKind.i64.max)
set_option maxRecDepth 20000 in
theorem L6 {H:Type} (enc:TypeId×Value→H) (w:World) (base:Nat) (spare:Nat→Bool) (held:Bool):Opn enc Tryz.prog w base spare held 49 dP GY:=by
 intro fuel cs x h;have hl:=jm Tryz.underlying49 h 9 (by kernel_rfl);obtain⟨a0,v0,h0⟩:=aO Tryz.underlying49 h 0 46 0 1 (by kernel_rfl) (iY (sz:=2) Tryz.underlying46 (by kernel_rfl) (by decide) (fun _=>rfl) (LZ enc w base spare held));obtain⟨a1,v1,h1⟩:=aO Tryz.underlying49 h 1 47 1 1 (by kernel_rfl) (iY (sz:=2) Tryz.underlying47 (by kernel_rfl) (by decide) (fun _=>rfl) (Ey enc w base spare held));obtain⟨a2,v2,h2⟩:=aO Tryz.underlying49 h 2 3 2 1 (by kernel_rfl) (dS Tryz.underlying3);obtain⟨a3,v3,h3⟩:=aO Tryz.underlying49 h 3 3 3 1 (by kernel_rfl) (dS Tryz.underlying3);obtain⟨a4,v4,h4⟩:=aO Tryz.underlying49 h 4 3 4 1 (by kernel_rfl) (dS Tryz.underlying3);obtain⟨a5,v5,h5⟩:=aO Tryz.underlying49 h 5 3 5 1 (by kernel_rfl) (dS Tryz.underlying3);obtain⟨a6,v6,h6⟩:=aO Tryz.underlying49 h 6 3 6 1 (by kernel_rfl) (dS Tryz.underlying3);obtain⟨a7,v7,h7⟩:=aO Tryz.underlying49 h 7 3 7 1 (by kernel_rfl) (dS Tryz.underlying3);obtain⟨a8,v8,h8⟩:=aO Tryz.underlying49 h 8 3 8 1 (by kernel_rfl) (dS Tryz.underlying3);exact⟨⟨a0,a1,a2,a3,a4,a5,a6,a7,a8⟩,⟨v0,v1,v2,v3,v4,v5,v6,v7,v8⟩,jo [1,1,1,1,1,1,1,1,1] (by rw[hl];rfl) (dR.append h0 (dR.append h1 (dR.append h2 (dR.append h3 (dR.append h4 (dR.append h5 (dR.append h6 (dR.append h7 (dR.append h8 (dR.nil w))))))))))⟩
def Ez (x:aN):Prop:=x.Text.size≤maxLen∧(IntKind.i64.min≤x.N∧x.N≤IntKind.i64.max)∧(IntKind.i64.min≤x.Target∧x.Target≤IntKind.i64.max)∧True∧x.Via.size≤maxLen∧(x.Allow.length≤maxLen∧∀y3∈x.Allow,y3.size≤maxLen)∧(x.lU.length≤maxLen∧∀y4∈x.lU,y4.size≤maxLen)∧GY x.Levels
set_option maxRecDepth 20000 in
theorem Kr {H:Type} (enc:TypeId×Value→H) (w:World) (base:Nat) (spare:Nat→Bool) (held:Bool):Opn enc Tryz.prog w base spare held 51 bW Ez:=by
 intro fuel cs x h;have hl:=jm Tryz.underlying51 h 16 (by kernel_rfl);obtain⟨a0,v0,h0⟩:=aO Tryz.underlying51 h 0 9 0 1 (by kernel_rfl) (jR Tryz.underlying9);obtain⟨a1,v1,h1⟩:=aO Tryz.underlying51 h 1 3 1 1 (by kernel_rfl) (dS Tryz.underlying3);obtain⟨a2,v2,h2⟩:=aO Tryz.underlying51 h 2 3 2 1 (by kernel_rfl) (dS Tryz.underlying3);obtain⟨a3,v3,h3⟩:=aO Tryz.underlying51 h 3 4 3 1 (by kernel_rfl) (KO Tryz.underlying4);obtain⟨a4,v4,h4⟩:=aO Tryz.underlying51 h 4 9 4 1 (by kernel_rfl) (jR Tryz.underlying9);obtain⟨a5,v5,h5⟩:=aO Tryz.underlying51 h 5 45 5 1 (by kernel_rfl) (iY (sz:=1) Tryz.underlying45 (by kernel_rfl) (by decide) (fun _=>rfl) (jR Tryz.underlying9));obtain⟨a6,v6,h6⟩:=aO Tryz.underlying51 h 6 45 6 1 (by kernel_rfl) (iY (sz:=1) Tryz.underlying45 (by kernel_rfl) (by decide) (fun _=>rfl) (jR Tryz.underlying9));obtain⟨a7,v7,h7⟩:=aO Tryz.underlying51 h 7 49 7 9 (by kernel_rfl) (L6 enc w base spare held);exact⟨⟨a0,a1,a2,a3,a4,a5,a6,a7⟩,⟨v0,v1,v2,v3,v4,v5,v6,v7⟩,jo [1,1,1,1,1,1,1,9] (by rw[hl];rfl) (dR.append h0 (dR.append h1 (dR.append h2 (dR.append h3 (dR.append h4 (dR.append h5 (dR.append h6 (dR.append h7 (dR.nil w)))))))))⟩
def Sm (x:yU):Prop:=x.Server.size≤maxLen∧(IntKind.i64.min≤x.Sum∧x.Sum≤IntKind.i64.max)
set_option maxRecDepth 20000 in
theorem Vl {H:Type} (enc:TypeId×Value→H) (w:World) (base:Nat) (spare:Nat→Bool) (held:Bool):Opn enc Tryz.prog w base spare held 53 alQ Sm:=by
 intro fuel cs x h;have hl:=jm Tryz.underlying53 h 2 (by kernel_rfl);obtain⟨a0,v0,h0⟩:=aO Tryz.underlying53 h 0 9 0 1 (by kernel_rfl) (jR Tryz.underlying9);obtain⟨a1,v1,h1⟩:=aO Tryz.underlying53 h 1 3 1 1 (by kernel_rfl) (dS Tryz.underlying3);exact⟨⟨a0,a1⟩,⟨v0,v1⟩,jo [1,1] (by rw[hl];rfl) (dR.append h0 (dR.append h1 (dR.nil w)))⟩
def Bj (x:ah):Prop:=(IntKind.i64.min≤x.Id∧x.Id≤IntKind.i64.max)∧x.Room.size≤maxLen∧x.bY.size≤maxLen∧(IntKind.i64.min≤x.Kind∧x.Kind≤IntKind.i64.max)∧True∧x.Key.size≤maxLen∧(IntKind.i64.min≤x.Time∧x.Time≤IntKind.i64.max)∧(IntKind.i64.min≤x.Depth∧x.Depth≤IntKind.i64.max)∧(x.gI.length≤maxLen∧∀y5∈x.gI,(IntKind.i64.min≤y5∧y5≤IntKind.i64.max))∧(x.fO.length≤maxLen∧∀y6∈x.fO,(IntKind.i64.min≤y6∧y6≤IntKind.i64.max))∧Ez x.Content∧(IntKind.i64.min≤x.Hash∧x.Hash≤IntKind.i64.max)∧Sm x.DN
set_option maxRecDepth 20000 in
theorem BQ {H:Type} (enc:TypeId×Value→H) (w:World) (base:Nat) (spare:Nat→Bool) (held:Bool):Opn enc Tryz.prog w base spare held 55 aj Bj:=by
 intro fuel cs x h;have hl:=jm Tryz.underlying55 h 29 (by kernel_rfl);obtain⟨a0,v0,h0⟩:=aO Tryz.underlying55 h 0 3 0 1 (by kernel_rfl) (dS Tryz.underlying3);obtain⟨a1,v1,h1⟩:=aO Tryz.underlying55 h 1 9 1 1 (by kernel_rfl) (jR Tryz.underlying9);obtain⟨a2,v2,h2⟩:=aO Tryz.underlying55 h 2 9 2 1 (by kernel_rfl) (jR Tryz.underlying9);obtain⟨a3,v3,h3⟩:=aO Tryz.underlying55 h 3 44 3 1 (by kernel_rfl) (dS Tryz.underlying44);obtain⟨a4,v4,h4⟩:=aO Tryz.underlying55 h 4 4 4 1 (by kernel_rfl) (KO Tryz.underlying4);obtain⟨a5,v5,h5⟩:=aO Tryz.underlying55 h 5 9 5 1 (by kernel_rfl) (jR Tryz.underlying9);obtain⟨a6,v6,h6⟩:=aO Tryz.underlying55 h 6 3 6 1 (by kernel_rfl) (dS Tryz.underlying3);obtain⟨a7,v7,h7⟩:=aO Tryz.underlying55 h 7 3 7 1 (by kernel_rfl) (dS Tryz.underlying3);obtain⟨a8,v8,h8⟩:=aO Tryz.underlying55 h 8 24 8 1 (by kernel_rfl) (iY (sz:=1) Tryz.underlying24 (by kernel_rfl) (by decide) (fun _=>rfl) (dS Tryz.underlying3));obtain⟨a9,v9,h9⟩:=aO Tryz.underlying55 h 9 24 9 1 (by kernel_rfl) (iY (sz:=1) Tryz.underlying24 (by kernel_rfl) (by decide) (fun _=>rfl) (dS Tryz.underlying3));obtain⟨a10,v10,h10⟩:=aO Tryz.underlying55 h 10 51 10 16 (by kernel_rfl) (Kr enc w base spare held);obtain⟨a11,v11,h11⟩:=aO Tryz.underlying55 h 11 3 26 1 (by kernel_rfl) (dS Tryz.underlying3);obtain⟨a12,v12,h12⟩:=aO Tryz.underlying55 h 12 53 27 2 (by kernel_rfl) (Vl enc w base spare held);exact⟨⟨a0,a1,a2,a3,a4,a5,a6,a7,a8,a9,a10,a11,a12⟩,⟨v0,v1,v2,v3,v4,v5,v6,v7,v8,v9,v10,v11,v12⟩,jo [1,1,1,1,1,1,1,1,1,1,16,1,2] (by rw[hl];rfl) (dR.append h0 (dR.append h1 (dR.append h2 (dR.append h3 (dR.append h4 (dR.append h5 (dR.append h6 (dR.append h7 (dR.append h8 (dR.append h9 (dR.append h10 (dR.append h11 (dR.append h12 (dR.nil w))))))))))))))⟩
def Sv (x:jL):Prop:=(IntKind.i64.min≤x.Pos∧x.Pos≤IntKind.i64.max)∧(IntKind.i64.min≤x.Id∧x.Id≤IntKind.i64.max)∧(IntKind.i64.min≤x.Status∧x.Status≤IntKind.i64.max)∧True
set_option maxRecDepth 20000 in
theorem Vm {H:Type} (enc:TypeId×Value→H) (w:World) (base:Nat) (spare:Nat→Bool) (held:Bool):Opn enc Tryz.prog w base spare held 60 bJ Sv:=by
 intro fuel cs x h;have hl:=jm Tryz.underlying60 h 4 (by kernel_rfl);obtain⟨a0,v0,h0⟩:=aO Tryz.underlying60 h 0 3 0 1 (by kernel_rfl) (dS Tryz.underlying3);obtain⟨a1,v1,h1⟩:=aO Tryz.underlying60 h 1 3 1 1 (by kernel_rfl) (dS Tryz.underlying3);obtain⟨a2,v2,h2⟩:=aO Tryz.underlying60 h 2 58 2 1 (by kernel_rfl) (dS Tryz.underlying58);obtain⟨a3,v3,h3⟩:=aO Tryz.underlying60 h 3 4 3 1 (by kernel_rfl) (KO Tryz.underlying4);exact⟨⟨a0,a1,a2,a3⟩,⟨v0,v1,v2,v3⟩,jo [1,1,1,1] (by rw[hl];rfl) (dR.append h0 (dR.append h1 (dR.append h2 (dR.append h3 (dR.nil w)))))⟩
def Kt (x:au):Prop:=(IntKind.i64.min≤x.Kind∧x.Kind≤IntKind.i64.max)∧x.Key.size≤maxLen∧(IntKind.i64.min≤x.Id∧x.Id≤IntKind.i64.max)
set_option maxRecDepth 20000 in
theorem Ox {H:Type} (enc:TypeId×Value→H) (w:World) (base:Nat) (spare:Nat→Bool) (held:Bool):Opn enc Tryz.prog w base spare held 92 ay Kt:=by
 intro fuel cs x h;have hl:=jm Tryz.underlying92 h 3 (by kernel_rfl);obtain⟨a0,v0,h0⟩:=aO Tryz.underlying92 h 0 44 0 1 (by kernel_rfl) (dS Tryz.underlying44);obtain⟨a1,v1,h1⟩:=aO Tryz.underlying92 h 1 9 1 1 (by kernel_rfl) (jR Tryz.underlying9);obtain⟨a2,v2,h2⟩:=aO Tryz.underlying92 h 2 3 2 1 (by kernel_rfl) (dS Tryz.underlying3);exact⟨⟨a0,a1,a2⟩,⟨v0,v1,v2⟩,jo [1,1,1] (by rw[hl];rfl) (dR.append h0 (dR.append h1 (dR.append h2 (dR.nil w))))⟩
def EC (x:EJ):Prop:=x.User.size≤maxLen∧(IntKind.i64.min≤x.Thread∧x.Thread≤IntKind.i64.max)∧(IntKind.i64.min≤x.Id∧x.Id≤IntKind.i64.max)∧(IntKind.i64.min≤x.Time∧x.Time≤IntKind.i64.max)
set_option maxRecDepth 20000 in
theorem Ku {H:Type} (enc:TypeId×Value→H) (w:World) (base:Nat) (spare:Nat→Bool) (held:Bool):Opn enc Tryz.prog w base spare held 94 Cb EC:=by
 intro fuel cs x h;have hl:=jm Tryz.underlying94 h 4 (by kernel_rfl);obtain⟨a0,v0,h0⟩:=aO Tryz.underlying94 h 0 9 0 1 (by kernel_rfl) (jR Tryz.underlying9);obtain⟨a1,v1,h1⟩:=aO Tryz.underlying94 h 1 3 1 1 (by kernel_rfl) (dS Tryz.underlying3);obtain⟨a2,v2,h2⟩:=aO Tryz.underlying94 h 2 3 2 1 (by kernel_rfl) (dS Tryz.underlying3);obtain⟨a3,v3,h3⟩:=aO Tryz.underlying94 h 3 3 3 1 (by kernel_rfl) (dS Tryz.underlying3);exact⟨⟨a0,a1,a2,a3⟩,⟨v0,v1,v2,v3⟩,jo [1,1,1,1] (by rw[hl];rfl) (dR.append h0 (dR.append h1 (dR.append h2 (dR.append h3 (dR.nil w)))))⟩
def GZ (x:Ip):Prop:=x.User.size≤maxLen∧(IntKind.i64.min≤x.Until∧x.Until≤IntKind.i64.max)
set_option maxRecDepth 20000 in
theorem L8 {H:Type} (enc:TypeId×Value→H) (w:World) (base:Nat) (spare:Nat→Bool) (held:Bool):Opn enc Tryz.prog w base spare held 96 EK GZ:=by
 intro fuel cs x h;have hl:=jm Tryz.underlying96 h 2 (by kernel_rfl);obtain⟨a0,v0,h0⟩:=aO Tryz.underlying96 h 0 9 0 1 (by kernel_rfl) (jR Tryz.underlying9);obtain⟨a1,v1,h1⟩:=aO Tryz.underlying96 h 1 3 1 1 (by kernel_rfl) (dS Tryz.underlying3);exact⟨⟨a0,a1⟩,⟨v0,v1⟩,jo [1,1] (by rw[hl];rfl) (dR.append h0 (dR.append h1 (dR.nil w)))⟩
def Uw (x:cu):Prop:=x.Id.size≤maxLen∧(x.Events.length≤maxLen∧∀y7∈x.Events,Bj y7)∧(x.Rows.length≤maxLen∧∀y8∈x.Rows,Sv y8)∧(x.Waiting.length≤maxLen∧∀y9∈x.Waiting,Bj y9)∧(x.Pn.length≤maxLen∧∀y10∈x.Pn,(IntKind.i64.min≤y10∧y10≤IntKind.i64.max))∧(x.State.length≤maxLen∧∀y11∈x.State,Kt y11)∧(IntKind.i64.min≤x.Next∧x.Next≤IntKind.i64.max)∧(x.qW.length≤maxLen∧∀y12∈x.qW,EC y12)∧(x.yX.length≤maxLen∧∀y13∈x.yX,GZ y13)
set_option maxRecDepth 20000 in
theorem Sz {H:Type} (enc:TypeId×Value→H) (w:World) (base:Nat) (spare:Nat→Bool) (held:Bool):Opn enc Tryz.prog w base spare held 30 bM Uw:=by
 intro fuel cs x h;have hl:=jm Tryz.underlying30 h 9 (by kernel_rfl);obtain⟨a0,v0,h0⟩:=aO Tryz.underlying30 h 0 9 0 1 (by kernel_rfl) (jR Tryz.underlying9);obtain⟨a1,v1,h1⟩:=aO Tryz.underlying30 h 1 22 1 1 (by kernel_rfl) (iY (sz:=29) Tryz.underlying22 (by kernel_rfl) (by decide) (fun _=>rfl) (BQ enc w base spare held));obtain⟨a2,v2,h2⟩:=aO Tryz.underlying30 h 2 23 2 1 (by kernel_rfl) (iY (sz:=4) Tryz.underlying23 (by kernel_rfl) (by decide) (fun _=>rfl) (Vm enc w base spare held));obtain⟨a3,v3,h3⟩:=aO Tryz.underlying30 h 3 22 3 1 (by kernel_rfl) (iY (sz:=29) Tryz.underlying22 (by kernel_rfl) (by decide) (fun _=>rfl) (BQ enc w base spare held));obtain⟨a4,v4,h4⟩:=aO Tryz.underlying30 h 4 24 4 1 (by kernel_rfl) (iY (sz:=1) Tryz.underlying24 (by kernel_rfl) (by decide) (fun _=>rfl) (dS Tryz.underlying3));obtain⟨a5,v5,h5⟩:=aO Tryz.underlying30 h 5 26 5 1 (by kernel_rfl) (iY (sz:=3) Tryz.underlying26 (by kernel_rfl) (by decide) (fun _=>rfl) (Ox enc w base spare held));obtain⟨a6,v6,h6⟩:=aO Tryz.underlying30 h 6 3 6 1 (by kernel_rfl) (dS Tryz.underlying3);obtain⟨a7,v7,h7⟩:=aO Tryz.underlying30 h 7 27 7 1 (by kernel_rfl) (iY (sz:=4) Tryz.underlying27 (by kernel_rfl) (by decide) (fun _=>rfl) (Ku enc w base spare held));obtain⟨a8,v8,h8⟩:=aO Tryz.underlying30 h 8 28 8 1 (by kernel_rfl) (iY (sz:=2) Tryz.underlying28 (by kernel_rfl) (by decide) (fun _=>rfl) (L8 enc w base spare held));exact⟨⟨a0,a1,a2,a3,a4,a5,a6,a7,a8⟩,⟨v0,v1,v2,v3,v4,v5,v6,v7,v8⟩,jo [1,1,1,1,1,1,1,1,1] (by rw[hl];rfl) (dR.append h0 (dR.append h1 (dR.append h2 (dR.append h3 (dR.append h4 (dR.append h5 (dR.append h6 (dR.append h7 (dR.append h8 (dR.nil w))))))))))⟩
end Go.Proofs.YtolgdkhlelfpoaaGreat
end
section
namespace Go.Proofs.YtolgdkhlelfpoaaGreat
open Go.RowKit
theorem apK (r:cu) (a b:Int) (hr:Uw r) (ha:IntKind.i64.min≤a∧a≤IntKind.i64.max) (hb:IntKind.i64.min≤b∧b≤IntKind.i64.max):J3 r a b=some true:=by
 have hlive:(wz.bind fun x5=>some x5)=some true:=by rw[akt];rfl
 unfold J3;refine dn.eq ((Yl r).bind fun g hg=>?_);cases g with
 |true=>rw[cond_true,Option.bind_some,cond_true,hlive];exact .ret rfl
 |false=>
 rw[cond_false,Option.bind_some];refine dn.bif (fun _=>by rw[hlive];exact .ret rfl) fun hab=>?_;have hab:a≤b:=jI hab;have h:=hg rfl;have hev:=h.events;obtain⟨n,hn⟩:=aks (l:=r.Events) (by omega) h.small;rw[PY a (by omega) hn,PY b (by omega) hn,Option.bind_some,Option.bind_some]
 have hsub:∀x∈(bif decide (n≤0)then[]else iW (Sl r.Events n a)),x∈(bif decide (n≤0)then[]else iW (Sl r.Events n b)):=by
  cases decide (n≤0)with
  |true=>intro x hx;exact hx
  |false=>
   intro x hx;rw[cond_false]at hx ⊢;rw[lS,akv]at hx ⊢;obtain⟨e,he,hp,hi⟩:=hx;refine⟨e,he,?_,hi⟩;unfold Ov at hp ⊢;rw[Bool.and_eq_true]at hp ⊢;have ht:=(hr.2.1.2 e he).2.2.2.2.2.2.1;exact⟨hp.1,anM ht.1 ht.2 ha.1 hb.2 hab hp.2⟩
 have hlen:∀now,(bif decide (n≤0)then[]else iW (Sl r.Events n now)).length≤100:=fun now=>by
  obtain⟨v,hv,hl⟩:=ahH (r:=r) now (by omega) h.small;rw[PY now (by omega) hn]at hv;rw[Option.some.inj hv];exact hl
 have h1:=hlen a;have h2:=hlen b;generalize(bif decide (n≤0)then[]else iW (Sl r.Events n a))=u at hsub h1 ⊢;generalize(bif decide (n≤0)then[]else iW (Sl r.Events n b))=v at hsub h2 ⊢;rw[ZA u v (by omega) (by omega),Option.bind_some]
 have he:xu u v=[]:=List.eq_nil_iff_forall_not_mem.2 fun x hx=>by
  rw[WW]at hx;exact hx.2 (hsub x hx.1)
 rw[he];show dn ((wz).bind _) _;rw[akt];exact .ret rfl
end Go.Proofs.YtolgdkhlelfpoaaGreat
end
section
namespace Go.Proofs.YtolgdkhlelfpoaaGreat
open Go.ChangeShapes Go.WideShapes Go.ChangeAt Go.RowKit
theorem Tryz.ahc:ownKnob Tryz.prog.godebug=none:=by kernel_rfl
theorem Tryz.yc:laidOutB Tryz.prog=true:=by kernel_rfl
set_option maxHeartbeats 1600000 in
set_option maxRecDepth 100000 in
theorem aae (os:Os) (started:os.Started) (H:Type) (enc:TypeId×Value→H):
 ReturnsInHanded {} Tryz.checked os 5 .any (Rows.retainLaterSpec.pre6 enc Tryz.prog Tryz.f5 Rows.retainLaterRow.domain false) (Rows.retainLaterSpec.post enc Tryz.prog Tryz.f5 false true false false):=by
 refine returnsInHanded_of_change (C:=Tryz.checked) Tryz.ahc started (by kernel_rfl) Tryz.func5
  (ChangeSpec.witness6 (enc:=enc) (C:=Tryz.checked) false ⟨#[],#[.agg #[.string { data:=#[] },.slice none 0 0,.slice none 0 0,.slice none 0 0,.slice none 0 0,.slice none 0 0,.int .i64 0,.slice none 0 0,.slice none 0 0],.int .i64 0,.int .i64 0],[]⟩ 8 (by kernel_rfl) (by kernel_rfl) (by kernel_rfl) (by kernel_rfl)) ?_
 intro W base args ds gs before hval0 hW _ _;have hval:∀(j:Nat) t v,Tryz.f5.params[j]? =some t→args[j]? =some v→Value.okWide Tryz.prog W .any base t v:=hval0;have hW':=hW;obtain⟨p,q,hA0,hV,rfl,_,_⟩:=hW;have hA:DataW.TrodAll enc Tryz.prog W 0 (fun _=>true) true Tryz.f5.params.toList args.toList ds p:=hA0;rw[Tryz.params5]at hA hval;obtain⟨v0,v1,v2,d0,d1,d2,p0,p1,p2,rfl,rfl,rfl,h0,h1,h2⟩:=trodAll_three hA;obtain⟨rfl,rfl⟩:=trodVars_none hV;obtain⟨w0,rfl, -⟩:=okWide_struct Tryz.underlying30 (hval 0 30 v0 rfl rfl);have h0k:=h0;obtain⟨fuel0,hf0⟩:=h0;obtain⟨r0,hok0,hc0⟩:=(Sz enc W _ _ _) _ _ _ hf0;have hr0:=an8 (x:=bM r0) rfl hc0;obtain⟨w1,rfl⟩:=okWide_int Tryz.underlying3 (hval 1 3 v1 rfl rfl);have h1k:=h1;obtain⟨fuel1,hf1⟩:=h1;obtain⟨r1,hok1,hc1⟩:=(dS Tryz.underlying3) _ _ _ hf1;have hr1:=aam (x:=eI r1) rfl rfl hc1;obtain⟨w2,rfl⟩:=okWide_int Tryz.underlying3 (hval 2 3 v2 rfl rfl);have h2k:=h2;obtain⟨fuel2,hf2⟩:=h2;obtain⟨r2,hok2,hc2⟩:=(dS Tryz.underlying3) _ _ _ hf2;have hr2:=aam (x:=eI r2) rfl rfl hc2;clear hA0 hval0;simp only[List.append_nil]at hW';have hlt0:∀x∈p0,x.block<W.heap.size:=fun x hx=>by simpa using hW'.lt x (by simp[hx])
 have hargs0:∀(W':World),Below W.heap.size W W'→DataW.Trod enc Tryz.prog W' 0 (fun b=>decide (b<W.heap.size)) true 30 (.agg w0) d0 p0:=
  fun W' hn=>Below.trod Tryz.yc (by kernel_rfl) (of_decide_eq_true (by kernel_rfl)) h0k hn hlt0
 have hlt1:∀x∈p1,x.block<W.heap.size:=fun x hx=>by simpa using hW'.lt x (by simp[hx])
 have hargs1:∀(W':World),Below W.heap.size W W'→DataW.Trod enc Tryz.prog W' 0 (fun b=>decide (b<W.heap.size)) true 3 (.int .i64 w1) d1 p1:=
  fun W' hn=>Below.trod Tryz.yc (by kernel_rfl) (of_decide_eq_true (by kernel_rfl)) h1k hn hlt1
 have hlt2:∀x∈p2,x.block<W.heap.size:=fun x hx=>by simpa using hW'.lt x (by simp[hx])
 have akz:∀(W':World),Below W.heap.size W W'→DataW.Trod enc Tryz.prog W' 0 (fun b=>decide (b<W.heap.size)) true 3 (.int .i64 w2) d2 p2:=
  fun W' hn=>Below.trod Tryz.yc (by kernel_rfl) (of_decide_eq_true (by kernel_rfl)) h2k hn hlt2
 refine(Runs.law (xs:=[bM r0,eI r1,eI r2]) (W:=W) (ZY r0 r1 r2 true (apK r0 r1 r2 hok0 hok1 hok2)) rfl (fun i hi=>?_)).mono fun e W' he=>?_
 ·match i,hi with
  |0,_=>exact hr0
  |1,_=>exact hr1
  |2,_=>exact hr2
 obtain⟨rfl,hn⟩:=he;exact⟨_,rfl,_,_,_,[],(p0++(p1++p2)),[],hW',trodAll_mk1 (shut_bool Tryz.underlying4 _),trodAll_mk3 (hargs0 W' hn) (hargs1 W' hn) (akz W' hn),rfl,hn.frame _,fun h=>by cases h⟩
theorem Tryz.XP:mapsRowed Tryz.prog=true:=by kernel_rfl
theorem Tryz.aaf:Tryz.prog.inPlace 5=["internal/bytealg.IndexByteString","internal/bytealg.IndexString"]:=by kernel_rfl
theorem Tryz.Iz:Tryz.prog.unfollowed 5=true:=by kernel_rfl
theorem Tryz.YD:Tryz.prog.recurses 5=true:=by unfold Program.recurses;rw[Tryz.Iz];rfl
theorem Tryz.adq:Tryz.prog.varsNamed 5=["internal/bytealg.MaxLen"]:=by kernel_rfl
theorem Tryz.XQ:(Rows.retainLaterRow.plainKeys==Tryz.prog.plainKeys)=true:=by kernel_rfl
theorem Tryz.WI:Tryz.prog.stopsHeard=true:=by kernel_rfl
theorem Tryz.YE:Tryz.prog.mayEnter=true:=by kernel_rfl
theorem Tryz.abl:(Rows.retainLaterRow.lifted==Tryz.prog.liftsFinal)=true:=by kernel_rfl
theorem Tryz.afr:(Tryz.prog.make==some Rows.retainLaterRow.make)=true:=by kernel_rfl
theorem Tryz.abm:joinedFacts Tryz.prog 5 Tryz.f5 Rows.retainLaterSpec Rows.retainLaterRow=true:=by
 unfold joinedFacts;rw[Tryz.yc,Tryz.XP,Tryz.aaf,Tryz.Iz,Tryz.YD,Tryz.adq,Tryz.XQ,Tryz.WI,Tryz.YE,Tryz.abl,Tryz.afr];kernel_rfl
theorem retainLater_holds :Rows.RetainLaterSaid:=
 OpenClaim.holds_of_wide 5 Tryz.f5 rfl rfl rfl rfl rfl rfl rfl ⟨rfl,rfl,rfl,rfl,rfl⟩ rfl rfl rfl rfl rfl (by kernel_rfl) Tryz.func5 Tryz.abm
  (of_decide_eq_true (by kernel_rfl)) (by unfold Func.isWrapper;first|(rw[if_pos (by decide+kernel)];kernel_rfl)|(rw[if_neg (by decide+kernel)];exact⟨rfl,rfl⟩))
  (fun os started H enc _=>aae os started H enc)
end Go.Proofs.YtolgdkhlelfpoaaGreat
end
