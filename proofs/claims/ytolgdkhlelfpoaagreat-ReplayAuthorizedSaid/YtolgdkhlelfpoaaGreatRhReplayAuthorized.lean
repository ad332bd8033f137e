/- The law ReplayAuthorized holds (short forms written by wip/shrink.py; no condition). -/
import Derived.Test.YtolgdkhlelfpoaaGreatRh6
set_option linter.defProp false
set_option linter.unnecessarySimpa false
set_option linter.unusedVariables false
set_option linter.unusedSimpArgs false
section
namespace Go.Proofs.YtolgdkhlelfpoaaGreat
open Go.RowKit
def aIO (x:G7):Prop:=x.User.size≤maxLen∧(IntKind.i64.min≤x.N∧x.N≤IntKind.i64.max)
set_option maxRecDepth 20000 in
def asN {H:Type} (enc:TypeId×Value→H) (w:World) (base:Nat) (spare:Nat→Bool) (held:Bool):Oz enc Tryz.prog w base spare held 173 FW aIO:=by
 intro Ar cs x h;have f:=YQ Tryz.underlying173 h 2 A8;obtain⟨a0,j,m⟩:=F5 Tryz.underlying173 h 0 9 0 1 A8 (Sm MV);obtain⟨n,q,s⟩:=F5 Tryz.underlying173 h 1 3 1 1 A8 (IW Gp);exact⟨⟨a0,n⟩,⟨j,q⟩,ZT [1,1] Tf (Dj.append m (Dj.append s (Dj.nil w)))⟩
def aI3 (x:Gm):Prop:=(IntKind.i64.min≤x.Kind∧x.Kind≤IntKind.i64.max)∧(IntKind.i64.min≤x.N∧x.N≤IntKind.i64.max)
set_option maxRecDepth 20000 in
def anb {H:Type} (enc:TypeId×Value→H) (w:World) (base:Nat) (spare:Nat→Bool) (held:Bool):Oz enc Tryz.prog w base spare held 208 Fg aI3:=by
 intro Ar cs x h;have f:=YQ Tryz.underlying208 h 2 A8;obtain⟨a0,j,m⟩:=F5 Tryz.underlying208 h 0 44 0 1 A8 (IW Tryz.underlying44);obtain⟨n,q,s⟩:=F5 Tryz.underlying208 h 1 3 1 1 A8 (IW Gp);exact⟨⟨a0,n⟩,⟨j,q⟩,ZT [1,1] Tf (Dj.append m (Dj.append s (Dj.nil w)))⟩
def aII (x:CP):Prop:=(x.Users.length≤maxLen∧∀f∈x.Users,aIO f)∧(x.Kinds.length≤maxLen∧∀h∈x.Kinds,aI3 h)∧(IntKind.i64.min≤x.User∧x.User≤IntKind.i64.max)∧(IntKind.i64.min≤x.Message∧x.Message≤IntKind.i64.max)∧(IntKind.i64.min≤x.State∧x.State≤IntKind.i64.max)∧(IntKind.i64.min≤x.fP∧x.fP≤IntKind.i64.max)∧(IntKind.i64.min≤x.jU∧x.jU≤IntKind.i64.max)∧(IntKind.i64.min≤x.nH∧x.nH≤IntKind.i64.max)∧(IntKind.i64.min≤x.gZ∧x.gZ≤IntKind.i64.max)
set_option maxRecDepth 20000 in
def aiQ {H:Type} (enc:TypeId×Value→H) (w:World) (base:Nat) (spare:Nat→Bool) (held:Bool):Oz enc Tryz.prog w base spare held 49 FX aII:=by
 intro Ar cs x h;have f:=YQ Qr h 9 A8;obtain⟨a0,j,m⟩:=F5 Qr h 0 46 0 1 A8 (YE (sz:=2) Tryz.underlying46 A8 BP (fun _=>rfl) (asN enc w base spare held));obtain⟨n,q,s⟩:=F5 Qr h 1 47 1 1 A8 (YE (sz:=2) Tryz.underlying47 A8 BP (fun _=>rfl) (anb enc w base spare held));obtain⟨u,z,I⟩:=F5 Qr h 2 3 2 1 A8 (IW Gp);obtain⟨J,L,M⟩:=F5 Qr h 3 3 3 1 A8 (IW Gp);obtain⟨O,S,U⟩:=F5 Qr h 4 3 4 1 A8 (IW Gp);obtain⟨Y,Z,h5⟩:=F5 Qr h 5 3 5 1 A8 (IW Gp);obtain⟨a6,v6,h6⟩:=F5 Qr h 6 3 6 1 A8 (IW Gp);obtain⟨a7,v7,h7⟩:=F5 Qr h 7 3 7 1 A8 (IW Gp);obtain⟨a8,v8,h8⟩:=F5 Qr h 8 3 8 1 A8 (IW Gp);exact⟨⟨a0,n,u,J,O,Y,a6,a7,a8⟩,⟨j,q,z,L,S,Z,v6,v7,v8⟩,ZT [1,1,1,1,1,1,1,1,1] Tf (Dj.append m (Dj.append s (Dj.append I (Dj.append M (Dj.append U (Dj.append h5 (Dj.append h6 (Dj.append h7 (Dj.append h8 (Dj.nil w))))))))))⟩
def aeV (x:Bf):Prop:=x.Text.size≤maxLen∧(IntKind.i64.min≤x.N∧x.N≤IntKind.i64.max)∧(IntKind.i64.min≤x.Target∧x.Target≤IntKind.i64.max)∧True∧x.Via.size≤maxLen∧(x.Allow.length≤maxLen∧∀f∈x.Allow,f.size≤maxLen)∧(x.iq.length≤maxLen∧∀h∈x.iq,h.size≤maxLen)∧aII x.Levels
set_option maxRecDepth 20000 in
def arx {H:Type} (enc:TypeId×Value→H) (w:World) (base:Nat) (spare:Nat→Bool) (held:Bool):Oz enc Tryz.prog w base spare held 51 F8 aeV:=by
 intro Ar cs x h;have f:=YQ Tc h 16 A8;obtain⟨a0,j,m⟩:=F5 Tc h 0 9 0 1 A8 (Sm MV);obtain⟨n,q,s⟩:=F5 Tc h 1 3 1 1 A8 (IW Gp);obtain⟨u,z,I⟩:=F5 Tc h 2 3 2 1 A8 (IW Gp);obtain⟨J,L,M⟩:=F5 Tc h 3 4 3 1 A8 (adK TY);obtain⟨O,S,U⟩:=F5 Tc h 4 9 4 1 A8 (Sm MV);obtain⟨Y,Z,h5⟩:=F5 Tc h 5 45 5 1 A8 (YE (sz:=1) Tryz.underlying45 A8 BP (fun _=>rfl) (Sm MV));obtain⟨a6,v6,h6⟩:=F5 Tc h 6 45 6 1 A8 (YE (sz:=1) Tryz.underlying45 A8 BP (fun _=>rfl) (Sm MV));obtain⟨a7,v7,h7⟩:=F5 Tc h 7 49 7 9 A8 (aiQ enc w base spare held);exact⟨⟨a0,n,u,J,O,Y,a6,a7⟩,⟨j,q,z,L,S,Z,v6,v7⟩,ZT [1,1,1,1,1,1,1,9] Tf (Dj.append m (Dj.append s (Dj.append I (Dj.append M (Dj.append U (Dj.append h5 (Dj.append h6 (Dj.append h7 (Dj.nil w)))))))))⟩
def aem (x:Lh):Prop:=x.Server.size≤maxLen∧(IntKind.i64.min≤x.Sum∧x.Sum≤IntKind.i64.max)
set_option maxRecDepth 20000 in
def aju {H:Type} (enc:TypeId×Value→H) (w:World) (base:Nat) (spare:Nat→Bool) (held:Bool):Oz enc Tryz.prog w base spare held 53 anC aem:=by
 intro Ar cs x h;have f:=YQ Tryz.underlying53 h 2 A8;obtain⟨a0,j,m⟩:=F5 Tryz.underlying53 h 0 9 0 1 A8 (Sm MV);obtain⟨n,q,s⟩:=F5 Tryz.underlying53 h 1 3 1 1 A8 (IW Gp);exact⟨⟨a0,n⟩,⟨j,q⟩,ZT [1,1] Tf (Dj.append m (Dj.append s (Dj.nil w)))⟩
def zn (x:AO):Prop:=(IntKind.i64.min≤x.Id∧x.Id≤IntKind.i64.max)∧x.Room.size≤maxLen∧x.bg.size≤maxLen∧(IntKind.i64.min≤x.Kind∧x.Kind≤IntKind.i64.max)∧True∧x.Key.size≤maxLen∧(IntKind.i64.min≤x.Time∧x.Time≤IntKind.i64.max)∧(IntKind.i64.min≤x.Depth∧x.Depth≤IntKind.i64.max)∧(x.bY.length≤maxLen∧∀f∈x.bY,(IntKind.i64.min≤f∧f≤IntKind.i64.max))∧(x.dh.length≤maxLen∧∀h∈x.dh,(IntKind.i64.min≤h∧h≤IntKind.i64.max))∧aeV x.Content∧(IntKind.i64.min≤x.Hash∧x.Hash≤IntKind.i64.max)∧aem x.pX
set_option maxRecDepth 20000 in
def anZ {H:Type} (enc:TypeId×Value→H) (w:World) (base:Nat) (spare:Nat→Bool) (held:Bool):Oz enc Tryz.prog w base spare held 55 Ap zn:=by
 intro Ar cs x h;have J:=YQ MX h 29 A8;obtain⟨a0,L,M⟩:=F5 MX h 0 3 0 1 A8 (IW Gp);obtain⟨O,S,U⟩:=F5 MX h 1 9 1 1 A8 (Sm MV);obtain⟨Y,Z,h2⟩:=F5 MX h 2 9 2 1 A8 (Sm MV);obtain⟨a3,v3,h3⟩:=F5 MX h 3 44 3 1 A8 (IW Tryz.underlying44);obtain⟨a4,v4,h4⟩:=F5 MX h 4 4 4 1 A8 (adK TY);obtain⟨a5,v5,h5⟩:=F5 MX h 5 9 5 1 A8 (Sm MV);obtain⟨a6,v6,h6⟩:=F5 MX h 6 3 6 1 A8 (IW Gp);obtain⟨a7,v7,h7⟩:=F5 MX h 7 3 7 1 A8 (IW Gp);obtain⟨a8,v8,h8⟩:=F5 MX h 8 24 8 1 A8 (YE (sz:=1) zA A8 BP (fun _=>rfl) (IW Gp));obtain⟨a9,v9,h9⟩:=F5 MX h 9 24 9 1 A8 (YE (sz:=1) zA A8 BP (fun _=>rfl) (IW Gp));obtain⟨f,j,m⟩:=F5 MX h 10 51 10 16 A8 (arx enc w base spare held);obtain⟨n,q,s⟩:=F5 MX h 11 3 26 1 A8 (IW Gp);obtain⟨u,z,I⟩:=F5 MX h 12 53 27 2 A8 (aju enc w base spare held);exact⟨⟨a0,O,Y,a3,a4,a5,a6,a7,a8,a9,f,n,u⟩,⟨L,S,Z,v3,v4,v5,v6,v7,v8,v9,j,q,z⟩,ZT [1,1,1,1,1,1,1,1,1,1,16,1,2] (by rw[J];rfl) (Dj.append M (Dj.append U (Dj.append h2 (Dj.append h3 (Dj.append h4 (Dj.append h5 (Dj.append h6 (Dj.append h7 (Dj.append h8 (Dj.append h9 (Dj.append m (Dj.append s (Dj.append I (Dj.nil w))))))))))))))⟩
def anl {e:AO} (h:zn e):QF e:=by
 obtain⟨_,f,j,_,_,m,_,_,⟨n,_⟩,⟨q,_⟩,s,_,z⟩:=h;obtain⟨I,_,_,_,J,⟨L,M⟩,⟨O,S⟩,U⟩:=s;obtain⟨⟨Y,Z⟩,⟨l3,_⟩,_⟩:=U;exact⟨n,q,f,j,m,z.1,⟨L,O,Y,l3,I,J,M,S,fun u hu=>(Z u hu).1⟩⟩
def aoD {l:List AO} (h:l.length≤maxLen∧∀y∈l,zn y):∀e∈l,QF e:=fun e f=>anl (h.2 e f)
def agT (l:List AO) (h:l.length≤maxLen∧∀y∈l,zn y):uz l=some true:=aib (aoD h)
end Go.Proofs.YtolgdkhlelfpoaaGreat
end
section
namespace Go.Proofs.YtolgdkhlelfpoaaGreat
open Go.ChangeShapes Go.WideShapes Go.ChangeAt Go.RowKit
def Tryz.ZJ:ownKnob Tryz.prog.godebug=none:=A8
def Tryz.GK:laidOutB Tryz.prog=true:=A8
set_option maxHeartbeats 1600000 in
set_option maxRecDepth 100000 in
def aoZ (os:Os) (started:os.Started) (H:Type) (enc:TypeId×Value→H):
 ReturnsInHanded {} Tryz.checked os 11 .any (Rows.replayAuthorizedSpec.pre6 enc Tryz.prog Tryz.f11 Rows.replayAuthorizedRow.domain false) (Rows.replayAuthorizedSpec.post enc Tryz.prog Tryz.f11 false true false false):=by
 refine returnsInHanded_of_change (C:=Tryz.checked) Tryz.ZJ started A8 Tryz.func11
  (ChangeSpec.witness6 (enc:=enc) (C:=Tryz.checked) false ⟨#[], #[.slice none 0 0],[]⟩ 8 A8 A8 A8 A8) ?_
 intro W base args ds gs before f hW _ _;have n:∀(j:Nat) t v,Tryz.f11.params[j]? =some t→args[j]? =some v→Value.okWide Tryz.prog W .any base t v:=f;have s:=hW;obtain⟨p,q,u,hV,rfl,_,_⟩:=hW;have hA:DataW.TrodAll enc Tryz.prog W 0 (fun _=>true) true Tryz.f11.params.toList args.toList ds p:=u;rw[Tryz.params11]at hA n;obtain⟨v0,d0,rfl,rfl,h0⟩:=trodAll_one hA;obtain⟨rfl,rfl⟩:=trodVars_none hV;obtain⟨w0,M,O,rfl⟩:=okWide_slice mG (n 0 22 v0 rfl rfl);have S:=h0;obtain⟨U,Y⟩:=h0;obtain⟨J,z,Z⟩:=(YE (sz:=29) mG A8 BP (fun _=>rfl) (anZ enc W _ _ _)) _ _ _ Y;have hr0:=arG (x:=(Af Ap) J) rfl rfl Z;clear u f;simp only[QW]at s;have I:∀x∈p,x.block<W.heap.size:=fun x hx=>by simpa using s.lt x (by simp[hx])
 have m:∀(W':World),Below W.heap.size W W'→DataW.Trod enc Tryz.prog W' 0 (fun b=>decide (b<W.heap.size)) true 22 (.slice w0 M O) d0 p:=
  fun W' L=>Below.trod Tryz.GK A8 (VP A8) S L I
 refine(Aw.law (xs:=[(Af Ap) J]) (W:=W) (aia J true (agT J z)) rfl (fun i hi=>?_)).mono fun e W' he=>?_
 ·match i,hi with
  |0,_=>exact hr0
 obtain⟨rfl,L⟩:=he;exact⟨_,rfl,_,_,_,[],p,[],s,trodAll_mk1 (shut_bool TY _),trodAll_mk1 (m W' L),rfl,L.frame _,fun h=>GX⟩
def Tryz.Rk:mapsRowed Tryz.prog=true:=A8
def Tryz.UK:Tryz.prog.inPlace 11=["slices.overlaps[fedchat/api.Event]", "internal/bytealg.IndexByteString", "internal/bytealg.IndexString"]:=A8
def Tryz.C9:Tryz.prog.unfollowed 11=true:=A8
def Tryz.UC:Tryz.prog.recurses 11=true:=by unfold Program.recurses;rw[Tryz.C9];rfl
def Tryz.X7:Tryz.prog.varsNamed 11=["internal/bytealg.MaxLen"]:=A8
def Tryz.Rl:(Rows.replayAuthorizedRow.plainKeys==Tryz.prog.plainKeys)=true:=A8
def Tryz.P8:Tryz.prog.stopsHeard=true:=A8
def Tryz.UD:Tryz.prog.mayEnter=true:=A8
def Tryz.WU:(Rows.replayAuthorizedRow.lifted==Tryz.prog.liftsFinal)=true:=A8
def Tryz.Y4:(Tryz.prog.make==some Rows.replayAuthorizedRow.make)=true:=A8
def Tryz.WV:joinedFacts Tryz.prog 11 Tryz.f11 Rows.replayAuthorizedSpec Rows.replayAuthorizedRow=true:=by
 unfold joinedFacts;rw[Tryz.GK,Tryz.Rk,Tryz.UK,Tryz.C9,Tryz.UC,Tryz.X7,Tryz.Rl,Tryz.P8,Tryz.UD,Tryz.WU,Tryz.Y4];kernel_rfl
theorem replayAuthorized_holds :Rows.ReplayAuthorizedSaid:=
 OpenClaim.holds_of_wide 11 Tryz.f11 rfl rfl rfl rfl rfl rfl rfl ⟨rfl,rfl,rfl,rfl,rfl⟩ rfl rfl rfl rfl rfl A8 Tryz.func11 Tryz.WV
  (VP A8) (by unfold Func.isWrapper;first|(rw[CG JV];kernel_rfl)|(rw[CV JV];exact⟨rfl,rfl⟩))
  (fun os f H enc _=>aoZ os f H enc)
end Go.Proofs.YtolgdkhlelfpoaaGreat
end
