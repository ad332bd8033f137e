/- The law BuildJoins holds (short forms written by wip/shrink.py; no condition). -/
import Derived.Test.YtkkdimcnpacjhaaGreatRd7
set_option linter.defProp false
set_option linter.unnecessarySimpa false
set_option linter.unusedVariables false
set_option linter.unusedSimpArgs false
section
namespace Go.Proofs.YtkkdimcnpacjhaaGreat
open Go.RowKit
def sF (x:Hz):Prop:=x.User.size≤maxLen∧(IntKind.i64.min≤x.N∧x.N≤IntKind.i64.max)
set_option maxRecDepth 20000 in
def aP4 {H:Type} (enc:TypeId×Value→H) (w:World) (base:Nat) (spare:Nat→Bool) (held:Bool):L6 enc Tryz.prog w base spare held 108 FN sF:=by
 intro Ag cs x h;have hl:=Q7 eK h 2 A8;obtain⟨a0,j,q⟩:=DF eK h 0 9 0 1 A8 (KC Ir);obtain⟨u,z,I⟩:=DF eK h 1 3 1 1 A8 (FZ FX);exact⟨⟨a0,u⟩,⟨j,z⟩,PW [1,1] Pv (CO.append q (CO.append I (CO.nil w)))⟩
def pR (x:J8):Prop:=(IntKind.i64.min≤x.Kind∧x.Kind≤IntKind.i64.max)∧(IntKind.i64.min≤x.N∧x.N≤IntKind.i64.max)
set_option maxRecDepth 20000 in
def aKm {H:Type} (enc:TypeId×Value→H) (w:World) (base:Nat) (spare:Nat→Bool) (held:Bool):L6 enc Tryz.prog w base spare held 111 Fp pR:=by
 intro Ag cs x h;have hl:=Q7 jB h 2 A8;obtain⟨a0,j,q⟩:=DF jB h 0 23 0 1 A8 (FZ iM);obtain⟨u,z,I⟩:=DF jB h 1 3 1 1 A8 (FZ FX);exact⟨⟨a0,u⟩,⟨j,z⟩,PW [1,1] Pv (CO.append q (CO.append I (CO.nil w)))⟩
def yA (x:Bf):Prop:=(x.Users.length≤maxLen∧∀j∈x.Users,sF j)∧(x.Kinds.length≤maxLen∧∀q∈x.Kinds,pR q)∧(IntKind.i64.min≤x.User∧x.User≤IntKind.i64.max)∧(IntKind.i64.min≤x.Message∧x.Message≤IntKind.i64.max)∧(IntKind.i64.min≤x.State∧x.State≤IntKind.i64.max)∧(IntKind.i64.min≤x.fG∧x.fG≤IntKind.i64.max)∧(IntKind.i64.min≤x.jR∧x.jR≤IntKind.i64.max)∧(IntKind.i64.min≤x.mZ∧x.mZ≤IntKind.i64.max)∧(IntKind.i64.min≤x.gB∧x.gB≤IntKind.i64.max)
set_option maxRecDepth 20000 in
def aHF {H:Type} (enc:TypeId×Value→H) (w:World) (base:Nat) (spare:Nat→Bool) (held:Bool):L6 enc Tryz.prog w base spare held 28 Gm yA:=by
 intro Ag cs x h;have hl:=Q7 KY h 9 A8;obtain⟨a0,j,q⟩:=DF KY h 0 25 0 1 A8 (QG (sz:=2) Tryz.underlying25 A8 BK (fun _=>rfl) (aP4 enc w base spare held));obtain⟨u,z,I⟩:=DF KY h 1 26 1 1 A8 (QG (sz:=2) Tryz.underlying26 A8 BK (fun _=>rfl) (aKm enc w base spare held));obtain⟨J,L,M⟩:=DF KY h 2 3 2 1 A8 (FZ FX);obtain⟨O,U,Y⟩:=DF KY h 3 3 3 1 A8 (FZ FX);obtain⟨Z,v4,h4⟩:=DF KY h 4 3 4 1 A8 (FZ FX);obtain⟨a5,v5,h5⟩:=DF KY h 5 3 5 1 A8 (FZ FX);obtain⟨a6,v6,h6⟩:=DF KY h 6 3 6 1 A8 (FZ FX);obtain⟨a7,v7,h7⟩:=DF KY h 7 3 7 1 A8 (FZ FX);obtain⟨a8,v8,h8⟩:=DF KY h 8 3 8 1 A8 (FZ FX);exact⟨⟨a0,u,J,O,Z,a5,a6,a7,a8⟩,⟨j,z,L,U,v4,v5,v6,v7,v8⟩,PW [1,1,1,1,1,1,1,1,1] Pv (CO.append q (CO.append I (CO.append M (CO.append Y (CO.append h4 (CO.append h5 (CO.append h6 (CO.append h7 (CO.append h8 (CO.nil w))))))))))⟩
def Zw (x:Bj):Prop:=x.Text.size≤maxLen∧(IntKind.i64.min≤x.N∧x.N≤IntKind.i64.max)∧(IntKind.i64.min≤x.Target∧x.Target≤IntKind.i64.max)∧True∧x.Via.size≤maxLen∧(x.Allow.length≤maxLen∧∀j∈x.Allow,j.size≤maxLen)∧(x.gJ.length≤maxLen∧∀q∈x.gJ,q.size≤maxLen)∧yA x.Levels
set_option maxRecDepth 20000 in
def mQ {H:Type} (enc:TypeId×Value→H) (w:World) (base:Nat) (spare:Nat→Bool) (held:Bool):L6 enc Tryz.prog w base spare held 30 GU Zw:=by
 intro Ag cs x h;have hl:=Q7 N8 h 16 A8;obtain⟨a0,j,q⟩:=DF N8 h 0 9 0 1 A8 (KC Ir);obtain⟨u,z,I⟩:=DF N8 h 1 3 1 1 A8 (FZ FX);obtain⟨J,L,M⟩:=DF N8 h 2 3 2 1 A8 (FZ FX);obtain⟨O,U,Y⟩:=DF N8 h 3 4 3 1 A8 (aAI Tv);obtain⟨Z,v4,h4⟩:=DF N8 h 4 9 4 1 A8 (KC Ir);obtain⟨a5,v5,h5⟩:=DF N8 h 5 24 5 1 A8 (QG (sz:=1) aCe A8 BK (fun _=>rfl) (KC Ir));obtain⟨a6,v6,h6⟩:=DF N8 h 6 24 6 1 A8 (QG (sz:=1) aCe A8 BK (fun _=>rfl) (KC Ir));obtain⟨a7,v7,h7⟩:=DF N8 h 7 28 7 9 A8 (aHF enc w base spare held);exact⟨⟨a0,u,J,O,Z,a5,a6,a7⟩,⟨j,z,L,U,v4,v5,v6,v7⟩,PW [1,1,1,1,1,1,1,9] Pv (CO.append q (CO.append I (CO.append M (CO.append Y (CO.append h4 (CO.append h5 (CO.append h6 (CO.append h7 (CO.nil w)))))))))⟩
def yY (x:Nu):Prop:=x.Server.size≤maxLen∧(IntKind.i64.min≤x.Sum∧x.Sum≤IntKind.i64.max)
set_option maxRecDepth 20000 in
def aG6 {H:Type} (enc:TypeId×Value→H) (w:World) (base:Nat) (spare:Nat→Bool) (held:Bool):L6 enc Tryz.prog w base spare held 37 aVT yY:=by
 intro Ag cs x h;have hl:=Q7 jQ h 2 A8;obtain⟨a0,j,q⟩:=DF jQ h 0 9 0 1 A8 (KC Ir);obtain⟨u,z,I⟩:=DF jQ h 1 3 1 1 A8 (FZ FX);exact⟨⟨a0,u⟩,⟨j,z⟩,PW [1,1] Pv (CO.append q (CO.append I (CO.nil w)))⟩
def aNk (x:AL):Prop:=(IntKind.i64.min≤x.Id∧x.Id≤IntKind.i64.max)∧x.Room.size≤maxLen∧x.aQ.size≤maxLen∧(IntKind.i64.min≤x.Kind∧x.Kind≤IntKind.i64.max)∧True∧x.Key.size≤maxLen∧(IntKind.i64.min≤x.Time∧x.Time≤IntKind.i64.max)∧(IntKind.i64.min≤x.Depth∧x.Depth≤IntKind.i64.max)∧(x.aU.length≤maxLen∧∀j∈x.aU,(IntKind.i64.min≤j∧j≤IntKind.i64.max))∧(x.aZ.length≤maxLen∧∀q∈x.aZ,(IntKind.i64.min≤q∧q≤IntKind.i64.max))∧Zw x.Content∧(IntKind.i64.min≤x.Hash∧x.Hash≤IntKind.i64.max)∧yY x.ng
set_option maxRecDepth 20000 in
def aJs {H:Type} (enc:TypeId×Value→H) (w:World) (base:Nat) (spare:Nat→Bool) (held:Bool):L6 enc Tryz.prog w base spare held 39 BH aNk:=by
 intro Ag cs x h;have hl:=Q7 Ig h 29 A8;obtain⟨a0,U,Y⟩:=DF Ig h 0 3 0 1 A8 (FZ FX);obtain⟨Z,v1,h1⟩:=DF Ig h 1 9 1 1 A8 (KC Ir);obtain⟨a2,v2,h2⟩:=DF Ig h 2 9 2 1 A8 (KC Ir);obtain⟨a3,v3,h3⟩:=DF Ig h 3 23 3 1 A8 (FZ iM);obtain⟨a4,v4,h4⟩:=DF Ig h 4 4 4 1 A8 (aAI Tv);obtain⟨a5,v5,h5⟩:=DF Ig h 5 9 5 1 A8 (KC Ir);obtain⟨a6,v6,h6⟩:=DF Ig h 6 3 6 1 A8 (FZ FX);obtain⟨a7,v7,h7⟩:=DF Ig h 7 3 7 1 A8 (FZ FX);obtain⟨a8,v8,h8⟩:=DF Ig h 8 35 8 1 A8 (QG (sz:=1) jd A8 BK (fun _=>rfl) (FZ FX));obtain⟨a9,v9,h9⟩:=DF Ig h 9 35 9 1 A8 (QG (sz:=1) jd A8 BK (fun _=>rfl) (FZ FX));obtain⟨j,q,u⟩:=DF Ig h 10 30 10 16 A8 (mQ enc w base spare held);obtain⟨z,I,J⟩:=DF Ig h 11 3 26 1 A8 (FZ FX);obtain⟨L,M,O⟩:=DF Ig h 12 37 27 2 A8 (aG6 enc w base spare held);exact⟨⟨a0,Z,a2,a3,a4,a5,a6,a7,a8,a9,j,z,L⟩,⟨U,v1,v2,v3,v4,v5,v6,v7,v8,v9,q,I,M⟩,PW [1,1,1,1,1,1,1,1,1,1,16,1,2] Pv (CO.append Y (CO.append h1 (CO.append h2 (CO.append h3 (CO.append h4 (CO.append h5 (CO.append h6 (CO.append h7 (CO.append h8 (CO.append h9 (CO.append u (CO.append J (CO.append O (CO.nil w))))))))))))))⟩
def aMH (x:Sz):Prop:=x.User.size≤maxLen∧(IntKind.i64.min≤x.Kind∧x.Kind≤IntKind.i64.max)∧x.Key.size≤maxLen∧Zw x.Content∧(IntKind.i64.min≤x.Time∧x.Time≤IntKind.i64.max)
set_option maxRecDepth 20000 in
def aLi {H:Type} (enc:TypeId×Value→H) (w:World) (base:Nat) (spare:Nat→Bool) (held:Bool):L6 enc Tryz.prog w base spare held 32 Wu aMH:=by
 intro Ag cs x h;have hl:=Q7 Po h 20 A8;obtain⟨a0,j,q⟩:=DF Po h 0 9 0 1 A8 (KC Ir);obtain⟨u,z,I⟩:=DF Po h 1 23 1 1 A8 (FZ iM);obtain⟨J,L,M⟩:=DF Po h 2 9 2 1 A8 (KC Ir);obtain⟨O,U,Y⟩:=DF Po h 3 30 3 16 A8 (mQ enc w base spare held);obtain⟨Z,v4,h4⟩:=DF Po h 4 3 19 1 A8 (FZ FX);exact⟨⟨a0,u,J,O,Z⟩,⟨j,z,L,U,v4⟩,PW [1,1,1,16,1] Pv (CO.append q (CO.append I (CO.append M (CO.append Y (CO.append h4 (CO.nil w))))))⟩
end Go.Proofs.YtkkdimcnpacjhaaGreat
end
section
namespace Go.Proofs.YtkkdimcnpacjhaaGreat
open Go.ChangeShapes Go.WideShapes Go.ChangeAt Go.RowKit
def Tryz.aro:ownKnob Tryz.prog.godebug=none:=A8
def Tryz.Mc:laidOutB Tryz.prog=true:=A8
set_option maxHeartbeats 1600000 in
set_option maxRecDepth 100000 in
def zJ14 (os:Os) (started:os.Started) (H:Type) (enc:TypeId×Value→H):
 ReturnsInHanded {} Tryz.checked os 7 .any (Rows.buildJoinsSpec.pre6 enc Tryz.prog Tryz.f7 Rows.buildJoinsRow.domain false) (Rows.buildJoinsSpec.post enc Tryz.prog Tryz.f7 false true false false):=by
 refine returnsInHanded_of_change (C:=Tryz.checked) Tryz.aro started A8 Tryz.func7
  (ChangeSpec.witness6 (enc:=enc) (C:=Tryz.checked) false ⟨#[], #[.slice none 0 0,(.agg #[.string BP,.int .i64 0,.string BP,.string BP,.int .i64 0,.int .i64 0,.bool false,.string BP,.slice none 0 0,.slice none 0 0,.slice none 0 0,.slice none 0 0,.int .i64 0,.int .i64 0,.int .i64 0,.int .i64 0,.int .i64 0,.int .i64 0,.int .i64 0,.int .i64 0])],[]⟩ 8 A8 A8 A8 A8) ?_
 intro W base args ds gs before u hW _ _;have z:∀(j:Nat) t v,Tryz.f7.params[j]? =some t→args[j]? =some v→Value.okWide Tryz.prog W .any base t v:=u;have I:=hW;obtain⟨p,q,O,hV,rfl,_,_⟩:=hW;have hA:DataW.TrodAll enc Tryz.prog W 0 (fun _=>true) true Tryz.f7.params.toList args.toList ds p:=O;rw[Tryz.params7]at hA z;obtain⟨v0,v1,d0,d1,p0,p1,rfl,rfl,rfl,h0,h1⟩:=trodAll_two hA;obtain⟨rfl,rfl⟩:=trodVars_none hV;obtain⟨w0,u0n,u0c,rfl⟩:=okWide_slice Xf (z 0 22 v0 rfl rfl);have h0k:=h0;obtain⟨fuel0,hf0⟩:=h0;obtain⟨Z,hok0,hc0⟩:=(QG (sz:=29) Xf A8 BK (fun _=>rfl) (aJs enc W _ _ _)) _ _ _ hf0;have hr0:=aXo (x:=(BL BH) Z) rfl rfl hc0;obtain⟨w1,rfl, -⟩:=okWide_struct Po (z 1 32 v1 rfl rfl);have h1k:=h1;obtain⟨fuel1,hf1⟩:=h1;obtain⟨r1,hok1,hc1⟩:=(aLi enc W _ _ _) _ _ _ hf1;have hr1:=aYG (x:=Wu r1) rfl hc1;clear O u;simp only[Oe]at I;have U:∀x∈p0,x.block<W.heap.size:=fun x hx=>aE2
 have J:∀(W':World),Below W.heap.size W W'→DataW.Trod enc Tryz.prog W' 0 (fun b=>decide (b<W.heap.size)) true 22 (.slice w0 u0n u0c) d0 p0:=
  fun W' M=>Below.trod Tryz.Mc A8 (Rk A8) h0k M U
 have Y:∀x∈p1,x.block<W.heap.size:=fun x hx=>aE2
 have L:∀(W':World),Below W.heap.size W W'→DataW.Trod enc Tryz.prog W' 0 (fun b=>decide (b<W.heap.size)) true 32 (.agg w1) d1 p1:=
  fun W' M=>Below.trod Tryz.Mc A8 (Rk A8) h1k M Y
 refine(Ar.law (xs:=[(BL BH) Z,Wu r1]) (W:=W) (alh Z r1 true (afd Z r1)) rfl (fun i hi=>?_)).mono fun e W' he=>?_
 ·match i,hi with
  |0,_=>exact hr0
  |1,_=>exact hr1
 obtain⟨rfl,M⟩:=he;exact⟨_,rfl,_,_,_,[],(p0++p1),[],I,trodAll_mk1 (shut_bool Tv _),trodAll_mk2 (J W' M) (L W' M),rfl,M.frame _,fun h=>Gy⟩
def Tryz.ag3:mapsRowed Tryz.prog=true:=A8
def Tryz.akr:Tryz.prog.inPlace 7=["internal/bytealg.IndexByteString", "internal/bytealg.IndexString", "slices.overlaps[fedchat/api.Event]"]:=A8
def Tryz.Rj:Tryz.prog.unfollowed 7=true:=A8
def Tryz.ajv:Tryz.prog.recurses 7=true:=by unfold Program.recurses;rw[Tryz.Rj];rfl
def Tryz.aos:Tryz.prog.varsNamed 7=["internal/bytealg.MaxLen"]:=A8
def Tryz.ag4:(Rows.buildJoinsRow.plainKeys==Tryz.prog.plainKeys)=true:=A8
def Tryz.agc:Tryz.prog.stopsHeard=true:=A8
def Tryz.ajw:Tryz.prog.mayEnter=true:=A8
def Tryz.amN:(Rows.buildJoinsRow.lifted==Tryz.prog.liftsFinal)=true:=A8
def Tryz.apC:(Tryz.prog.make==some Rows.buildJoinsRow.make)=true:=A8
def Tryz.amO:joinedFacts Tryz.prog 7 Tryz.f7 Rows.buildJoinsSpec Rows.buildJoinsRow=true:=by
 unfold joinedFacts;rw[Tryz.Mc,Tryz.ag3,Tryz.akr,Tryz.Rj,Tryz.ajv,Tryz.aos,Tryz.ag4,Tryz.agc,Tryz.ajw,Tryz.amN,Tryz.apC];kernel_rfl
theorem buildJoins_holds :Rows.BuildJoinsSaid:=
 OpenClaim.holds_of_wide 7 Tryz.f7 rfl rfl rfl rfl rfl rfl rfl ⟨rfl,rfl,rfl,rfl,rfl⟩ rfl rfl rfl rfl rfl A8 Tryz.func7 Tryz.amO
  (Rk A8) aRt
  (fun os j H enc _=>zJ14 os j H enc)
end Go.Proofs.YtkkdimcnpacjhaaGreat
end
