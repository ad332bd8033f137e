/- The law BuildTemplates holds (short forms written by wip/shrink.py; no condition). -/
import Derived.Test.YtkkdimcnpacjhaaGreatRh8
set_option linter.defProp false
set_option linter.unnecessarySimpa false
set_option linter.unusedSectionVars false
set_option linter.unusedVariables false
set_option linter.unusedSimpArgs false
namespace Go.Proofs.YtkkdimcnpacjhaaGreat
open Go.RowKit Go.Proofs.Tryz
section
def qN (x:IJ):Prop:=x.User.size<=maxLen/\(IntKind.i64.min<=x.N/\x.N<=IntKind.i64.max)
set_option maxRecDepth 20000 in
def aJZ {H:Type} (enc:CG×Au->H) (w:BU) (base:Nat) (spare:Nat->AZ) (held:AZ):Lu enc Am w base spare held 108 Eb qN:=by
 intro Ap cs x h;have hl:=Q7 jE h 2 AA;obtain⟨a0,j,q⟩:=EI jE h 0 9 0 1 AA (KT JB);obtain⟨u,z,I⟩:=EI jE h 1 3 1 1 AA (GX GR);exact⟨⟨a0,u⟩,⟨j,z⟩,QB [1,1] QF (DY.append q (DY.append I (DY.nil w)))⟩
def sW (x:Jc):Prop:=(IntKind.i64.min<=x.Kind/\x.Kind<=IntKind.i64.max)/\(IntKind.i64.min<=x.N/\x.N<=IntKind.i64.max)
set_option maxRecDepth 20000 in
def aH9 {H:Type} (enc:CG×Au->H) (w:BU) (base:Nat) (spare:Nat->AZ) (held:AZ):Lu enc Am w base spare held 111 Ei sW:=by
 intro Ap cs x h;have hl:=Q7 mF h 2 AA;obtain⟨a0,j,q⟩:=EI mF h 0 23 0 1 AA (GX jS);obtain⟨u,z,I⟩:=EI mF h 1 3 1 1 AA (GX GR);exact⟨⟨a0,u⟩,⟨j,z⟩,QB [1,1] QF (DY.append q (DY.append I (DY.nil w)))⟩
def zh (x:Cc):Prop:=(x.Users.length<=maxLen/\∀j∈x.Users,qN j)/\(x.Kinds.length<=maxLen/\∀q∈x.Kinds,sW q)/\(IntKind.i64.min<=x.User/\x.User<=IntKind.i64.max)/\(IntKind.i64.min<=x.Message/\x.Message<=IntKind.i64.max)/\(IntKind.i64.min<=x.State/\x.State<=IntKind.i64.max)/\(IntKind.i64.min<=x.gy/\x.gy<=IntKind.i64.max)/\(IntKind.i64.min<=x.jL/\x.jL<=IntKind.i64.max)/\(IntKind.i64.min<=x.lV/\x.lV<=IntKind.i64.max)/\(IntKind.i64.min<=x.gW/\x.gW<=IntKind.i64.max)
set_option maxRecDepth 20000 in
def aNI {H:Type} (enc:CG×Au->H) (w:BU) (base:Nat) (spare:Nat->AZ) (held:AZ):Lu enc Am w base spare held 28 Ez zh:=by
 intro Ap cs x h;have hl:=Q7 Lj h 9 AA;obtain⟨a0,j,q⟩:=EI Lj h 0 25 0 1 AA (QX (sz:=2) Tryz.underlying25 AA Bj (fun _=>rfl) (aJZ enc w base spare held));obtain⟨u,z,I⟩:=EI Lj h 1 26 1 1 AA (QX (sz:=2) Tryz.underlying26 AA Bj (fun _=>rfl) (aH9 enc w base spare held));obtain⟨J,L,M⟩:=EI Lj h 2 3 2 1 AA (GX GR);obtain⟨O,U,Y⟩:=EI Lj h 3 3 3 1 AA (GX GR);obtain⟨Z,v4,h4⟩:=EI Lj h 4 3 4 1 AA (GX GR);obtain⟨a5,v5,h5⟩:=EI Lj h 5 3 5 1 AA (GX GR);obtain⟨a6,v6,h6⟩:=EI Lj h 6 3 6 1 AA (GX GR);obtain⟨a7,v7,h7⟩:=EI Lj h 7 3 7 1 AA (GX GR);obtain⟨a8,v8,h8⟩:=EI Lj h 8 3 8 1 AA (GX GR);exact⟨⟨a0,u,J,O,Z,a5,a6,a7,a8⟩,⟨j,z,L,U,v4,v5,v6,v7,v8⟩,QB [1,1,1,1,1,1,1,1,1] QF (DY.append q (DY.append I (DY.append M (DY.append Y (DY.append h4 (DY.append h5 (DY.append h6 (DY.append h7 (DY.append h8 (DY.nil w))))))))))⟩
def bV (x:D6):Prop:=x.Text.size<=maxLen/\(IntKind.i64.min<=x.N/\x.N<=IntKind.i64.max)/\(IntKind.i64.min<=x.Target/\x.Target<=IntKind.i64.max)/\True/\x.Via.size<=maxLen/\(x.Allow.length<=maxLen/\∀j∈x.Allow,j.size<=maxLen)/\(x.gJ.length<=maxLen/\∀q∈x.gJ,q.size<=maxLen)/\zh x.Levels
set_option maxRecDepth 20000 in
def zF {H:Type} (enc:CG×Au->H) (w:BU) (base:Nat) (spare:Nat->AZ) (held:AZ):Lu enc Am w base spare held 30 Fg bV:=by
 intro Ap cs x h;have hl:=Q7 NP h 16 AA;obtain⟨a0,j,q⟩:=EI NP h 0 9 0 1 AA (KT JB);obtain⟨u,z,I⟩:=EI NP h 1 3 1 1 AA (GX GR);obtain⟨J,L,M⟩:=EI NP h 2 3 2 1 AA (GX GR);obtain⟨O,U,Y⟩:=EI NP h 3 4 3 1 AA (aF0 U6);obtain⟨Z,v4,h4⟩:=EI NP h 4 9 4 1 AA (KT JB);obtain⟨a5,v5,h5⟩:=EI NP h 5 24 5 1 AA (QX (sz:=1) a1e AA Bj (fun _=>rfl) (KT JB));obtain⟨a6,v6,h6⟩:=EI NP h 6 24 6 1 AA (QX (sz:=1) a1e AA Bj (fun _=>rfl) (KT JB));obtain⟨a7,v7,h7⟩:=EI NP h 7 28 7 9 AA (aNI enc w base spare held);exact⟨⟨a0,u,J,O,Z,a5,a6,a7⟩,⟨j,z,L,U,v4,v5,v6,v7⟩,QB [1,1,1,1,1,1,1,9] QF (DY.append q (DY.append I (DY.append M (DY.append Y (DY.append h4 (DY.append h5 (DY.append h6 (DY.append h7 (DY.nil w)))))))))⟩
def yA (x:Ny):Prop:=x.Server.size<=maxLen/\(IntKind.i64.min<=x.Sum/\x.Sum<=IntKind.i64.max)
set_option maxRecDepth 20000 in
def aGG {H:Type} (enc:CG×Au->H) (w:BU) (base:Nat) (spare:Nat->AZ) (held:AZ):Lu enc Am w base spare held 37 aOi yA:=by
 intro Ap cs x h;have hl:=Q7 gZ h 2 AA;obtain⟨a0,j,q⟩:=EI gZ h 0 9 0 1 AA (KT JB);obtain⟨u,z,I⟩:=EI gZ h 1 3 1 1 AA (GX GR);exact⟨⟨a0,u⟩,⟨j,z⟩,QB [1,1] QF (DY.append q (DY.append I (DY.nil w)))⟩
def aKI (x:AV):Prop:=(IntKind.i64.min<=x.Id/\x.Id<=IntKind.i64.max)/\x.Room.size<=maxLen/\x.bF.size<=maxLen/\(IntKind.i64.min<=x.Kind/\x.Kind<=IntKind.i64.max)/\True/\x.Key.size<=maxLen/\(IntKind.i64.min<=x.Time/\x.Time<=IntKind.i64.max)/\(IntKind.i64.min<=x.Depth/\x.Depth<=IntKind.i64.max)/\(x.bI.length<=maxLen/\∀j∈x.bI,(IntKind.i64.min<=j/\j<=IntKind.i64.max))/\(x.bQ.length<=maxLen/\∀q∈x.bQ,(IntKind.i64.min<=q/\q<=IntKind.i64.max))/\bV x.Content/\(IntKind.i64.min<=x.Hash/\x.Hash<=IntKind.i64.max)/\yA x.nU
set_option maxRecDepth 20000 in
def aGZ {H:Type} (enc:CG×Au->H) (w:BU) (base:Nat) (spare:Nat->AZ) (held:AZ):Lu enc Am w base spare held 39 BI aKI:=by
 intro Ap cs x h;have hl:=Q7 J6 h 29 AA;obtain⟨a0,U,Y⟩:=EI J6 h 0 3 0 1 AA (GX GR);obtain⟨Z,v1,h1⟩:=EI J6 h 1 9 1 1 AA (KT JB);obtain⟨a2,v2,h2⟩:=EI J6 h 2 9 2 1 AA (KT JB);obtain⟨a3,v3,h3⟩:=EI J6 h 3 23 3 1 AA (GX jS);obtain⟨a4,v4,h4⟩:=EI J6 h 4 4 4 1 AA (aF0 U6);obtain⟨a5,v5,h5⟩:=EI J6 h 5 9 5 1 AA (KT JB);obtain⟨a6,v6,h6⟩:=EI J6 h 6 3 6 1 AA (GX GR);obtain⟨a7,v7,h7⟩:=EI J6 h 7 3 7 1 AA (GX GR);obtain⟨a8,v8,h8⟩:=EI J6 h 8 35 8 1 AA (QX (sz:=1) iW AA Bj (fun _=>rfl) (GX GR));obtain⟨a9,v9,h9⟩:=EI J6 h 9 35 9 1 AA (QX (sz:=1) iW AA Bj (fun _=>rfl) (GX GR));obtain⟨j,q,u⟩:=EI J6 h 10 30 10 16 AA (zF enc w base spare held);obtain⟨z,I,J⟩:=EI J6 h 11 3 26 1 AA (GX GR);obtain⟨L,M,O⟩:=EI J6 h 12 37 27 2 AA (aGG enc w base spare held);exact⟨⟨a0,Z,a2,a3,a4,a5,a6,a7,a8,a9,j,z,L⟩,⟨U,v1,v2,v3,v4,v5,v6,v7,v8,v9,q,I,M⟩,QB [1,1,1,1,1,1,1,1,1,1,16,1,2] QF (DY.append Y (DY.append h1 (DY.append h2 (DY.append h3 (DY.append h4 (DY.append h5 (DY.append h6 (DY.append h7 (DY.append h8 (DY.append h9 (DY.append u (DY.append J (DY.append O (DY.nil w))))))))))))))⟩
def aIm (x:UK):Prop:=x.User.size<=maxLen/\(IntKind.i64.min<=x.Kind/\x.Kind<=IntKind.i64.max)/\x.Key.size<=maxLen/\bV x.Content/\(IntKind.i64.min<=x.Time/\x.Time<=IntKind.i64.max)
set_option maxRecDepth 20000 in
def aJC {H:Type} (enc:CG×Au->H) (w:BU) (base:Nat) (spare:Nat->AZ) (held:AZ):Lu enc Am w base spare held 32 X9 aIm:=by
 intro Ap cs x h;have hl:=Q7 Qa h 20 AA;obtain⟨a0,j,q⟩:=EI Qa h 0 9 0 1 AA (KT JB);obtain⟨u,z,I⟩:=EI Qa h 1 23 1 1 AA (GX jS);obtain⟨J,L,M⟩:=EI Qa h 2 9 2 1 AA (KT JB);obtain⟨O,U,Y⟩:=EI Qa h 3 30 3 16 AA (zF enc w base spare held);obtain⟨Z,v4,h4⟩:=EI Qa h 4 3 19 1 AA (GX GR);exact⟨⟨a0,u,J,O,Z⟩,⟨j,z,L,U,v4⟩,QB [1,1,1,16,1] QF (DY.append q (DY.append I (DY.append M (DY.append Y (DY.append h4 (DY.nil w))))))⟩
end
section
open Go.ChangeShapes Go.WideShapes Go.ChangeAt Go.RowKit
def Tryz.ak6:ownKnob Am.godebug=none:=AA
def Tryz.Fb:laidOutB Am=true:=AA
set_option maxHeartbeats 1600000 in
set_option maxRecDepth 100000 in
def ahf (os:Os) (started:os.Started) (H:Type) (enc:CG×Au->H):
 ReturnsInHanded {} Tryz.checked os 4 .any (Rows.buildTemplatesSpec.pre6 enc Am Tryz.f4 Rows.buildTemplatesRow.domain false) (Rows.buildTemplatesSpec.post enc Am Tryz.f4 false true false false):=by
 refine returnsInHanded_of_change (C:=Tryz.checked) Tryz.ak6 started AA func4
  (ChangeSpec.witness6 (enc:=enc) (C:=Tryz.checked) false ⟨#[], #[.slice none 0 0,(.agg #[.string CS,.int .i64 0,.string CS,.string CS,.int .i64 0,.int .i64 0,.bool false,.string CS,.slice none 0 0,.slice none 0 0,.slice none 0 0,.slice none 0 0,.int .i64 0,.int .i64 0,.int .i64 0,.int .i64 0,.int .i64 0,.int .i64 0,.int .i64 0,.int .i64 0])],[]⟩ 8 AA AA AA AA) ?_
 intro W base args ds gs before u hW _ _;have z:∀(j:Nat) t v,Tryz.f4.params[j]? =some t->args[j]? =some v->Value.okWide Am W .any base t v:=u;have I:=hW;obtain⟨p,q,O,hV,rfl,_,_⟩:=hW;have hA:DataW.TrodAll enc Am W 0 (fun _=>true) true Tryz.f4.params.toList args.toList ds p:=O;rw[Tryz.params4]at hA z;obtain⟨v0,v1,d0,d1,p0,p1,rfl,rfl,rfl,h0,h1⟩:=trodAll_two hA;obtain⟨rfl,rfl⟩:=trodVars_none hV;obtain⟨w0,u0n,u0c,rfl⟩:=okWide_slice sJ (z 0 22 v0 rfl rfl);have h0k:=h0;obtain⟨fuel0,hf0⟩:=h0;obtain⟨Z,hok0,hc0⟩:=(QX (sz:=29) sJ AA Bj (fun _=>rfl) (aGZ enc W _ _ _)) _ _ _ hf0;have hr0:=aWH (x:=(Bo BI) Z) rfl rfl hc0;obtain⟨w1,rfl, -⟩:=okWide_struct Qa (z 1 32 v1 rfl rfl);have h1k:=h1;obtain⟨fuel1,hf1⟩:=h1;obtain⟨r1,hok1,hc1⟩:=(aJC enc W _ _ _) _ _ _ hf1;have hr1:=aP8 (x:=X9 r1) rfl hc1;clear O u;simp only[PK]at I;have U:∀x∈p0,x.block<W.heap.size:=fun x hx=>a0j
 have J:∀(W':BU),Below W.heap.size W W'->DataW.Trod enc Am W' 0 (fun b=>b<W.heap.size) true 22 (.slice w0 u0n u0c) d0 p0:=
  fun W' M=>Below.trod Tryz.Fb AA (SG AA) h0k M U
 have Y:∀x∈p1,x.block<W.heap.size:=fun x hx=>a0j
 have L:∀(W':BU),Below W.heap.size W W'->DataW.Trod enc Am W' 0 (fun b=>b<W.heap.size) true 32 (.agg w1) d1 p1:=
  fun W' M=>Below.trod Tryz.Fb AA (SG AA) h1k M Y
 refine(Ed.law (xs:=[(Bo BI) Z,X9 r1]) (W:=W) (aeZ Z r1 true (am0 Z r1)) rfl (fun i hi=>?_)).mono fun e W' he=>?_
 ·match i,hi with
  |0,_=>exact hr0
  |1,_=>exact hr1
 obtain⟨rfl,M⟩:=he;exact⟨_,rfl,_,_,_,[],(p0++p1),[],I,trodAll_mk1 (shut_bool U6 _),trodAll_mk2 (J W' M) (L W' M),rfl,M.frame _,fun h=>Ib⟩
def Tryz.aa8:mapsRowed Am=true:=AA
def Tryz.afr:Am.inPlace 4=["internal/bytealg.IndexByteString", "internal/bytealg.IndexString"]:=AA
def Tryz.JL:Am.unfollowed 4=true:=AA
def Tryz.adU:Am.recurses 4=true:=by unfold Program.recurses;rw[Tryz.JL];rfl
def Tryz.ahL:Am.varsNamed 4=["internal/bytealg.MaxLen"]:=AA
def Tryz.aa9:(Rows.buildTemplatesRow.plainKeys==Am.plainKeys)=true:=AA
def Tryz.aa4:Am.stopsHeard=true:=AA
def Tryz.adV:Am.mayEnter=true:=AA
def Tryz.agW:(Rows.buildTemplatesRow.lifted==Am.liftsFinal)=true:=AA
def Tryz.akb:(Am.make==some Rows.buildTemplatesRow.make)=true:=AA
def Tryz.agX:joinedFacts Am 4 Tryz.f4 Rows.buildTemplatesSpec Rows.buildTemplatesRow=true:=by
 unfold joinedFacts;rw[Tryz.Fb,Tryz.aa8,Tryz.afr,Tryz.JL,Tryz.adU,Tryz.ahL,Tryz.aa9,Tryz.aa4,Tryz.adV,Tryz.agW,Tryz.akb];kernel_rfl
theorem buildTemplates_holds :Rows.BuildTemplatesSaid:=
 OpenClaim.holds_of_wide 4 Tryz.f4 rfl rfl rfl rfl rfl rfl rfl ⟨rfl,rfl,rfl,rfl,rfl⟩ rfl rfl rfl rfl rfl AA func4 Tryz.agX
  (SG AA) aRP
  (fun os j H enc _=>ahf os j H enc)
end
end Go.Proofs.YtkkdimcnpacjhaaGreat
