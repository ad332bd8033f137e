/- The law TimelineShows holds (short forms written by wip/shrink.py; no condition). -/
import Derived.Test.YteiakhlfaaifnaaGreatTb7
set_option linter.defProp false
set_option linter.unnecessarySimpa false
set_option linter.unusedSectionVars false
set_option linter.unusedVariables false
set_option linter.unusedSimpArgs false
namespace Go.Proofs.YteiakhlfaaifnaaGreat
open Go.Proofs.Tryz
section
open Go.ChangeShapes Go.WideShapes Go.ChangeAt Go.RowKit
def Tryz.asE:ownKnob Ap.godebug=none:=A8
def Tryz.I7:laidOutB Ap=true:=A8
set_option maxHeartbeats 1600000 in
set_option maxRecDepth 100000 in
def ahx (os:Os)(started:os.Started)(H:Type)(enc:Bq×BJ->H):
 ReturnsInHanded {} Tryz.checked os 5 .any (Rows.timelineShowsSpec.pre6 enc Ap Tryz.f5 Rows.timelineShowsRow.domain false) (Rows.timelineShowsSpec.post enc Ap Tryz.f5 false true false false):=by
 refine a1o (C:=Tryz.checked) Tryz.asE started A8 func5
  (zT (enc:=enc) (C:=Tryz.checked) false ⟨#[], #[(.agg #[.string CS,.slice none 0 0,.slice none 0 0,.slice none 0 0,.slice none 0 0,.slice none 0 0,.int .i64 0,.slice none 0 0,.slice none 0 0]),(.agg #[.int .i64 0,.string CS,.string CS,.int .i64 0,.bool false,.string CS,.int .i64 0,.int .i64 0,.slice none 0 0,.slice none 0 0,.string CS,.int .i64 0,.int .i64 0,.bool false,.string CS,.slice none 0 0,.slice none 0 0,.slice none 0 0,.slice none 0 0,.int .i64 0,.int .i64 0,.int .i64 0,.int .i64 0,.int .i64 0,.int .i64 0,.int .i64 0,.int .i64 0,.string CS,.int .i64 0])],[]⟩ 8 A8 A8 A8 A8) ?_
 intro W base args ds gs before I hW _ _;have J:∀(j:Nat) t v,Tryz.f5.params[j]? =some t->args[j]? =some v->Value.okWide Ap W .any base t v:=I;have L:=hW;obtain⟨p,q,Y,hV,rfl,_,_⟩:=hW;have hA:DataW.TrodAll enc Ap W 0 (λ_=>true) true Tryz.f5.params.toList args.toList ds p:=Y;rw[Tryz.params5]at hA J;obtain⟨v0,v1,d0,d1,p0,p1,rfl,rfl,rfl,h0,h1⟩:=trodAll_two hA;obtain⟨rfl,rfl⟩:=trodVars_none hV;obtain⟨w0,rfl, -⟩:=okWide_struct rD (J 0 30 v0 rfl rfl);have h0k:=h0;obtain⟨fuel0,hf0⟩:=h0;obtain⟨r0,Z,hc0⟩:=(qQ enc W _ _ _) _ _ _ hf0;have hr0:=Wu (x:=EG r0) rfl hc0;obtain⟨w1,rfl, -⟩:=okWide_struct Tryz.underlying56 (J 1 56 v1 rfl rfl);have h1k:=h1;obtain⟨fuel1,hf1⟩:=h1;obtain⟨r1,hok1,hc1⟩:=(aFI enc W _ _ _) _ _ _ hf1;have hr1:=Wu (x:=Au r1) rfl hc1;clear Y I;simp only[MH]at L;have hlt0:∀x∈p0,x.block<W.heap.size:=λx hx=>Vj
 have M:∀(W':BU),Below W.heap.size W W'->DataW.Trod enc Ap W' 0 (λb=>b<W.heap.size) true 30 (.agg w0) d0 p0:=
  λW' U=>Vh Tryz.I7 A8 (LW A8) h0k U hlt0
 have hlt1:∀x∈p1,x.block<W.heap.size:=λx hx=>Vj
 have O:∀(W':BU),Below W.heap.size W W'->DataW.Trod enc Ap W' 0 (λb=>b<W.heap.size) true 56 (.agg w1) d1 p1:=
  λW' U=>Vh Tryz.I7 A8 (LW A8) h1k U hlt1
 refine(EU.law (xs:=[EG r0,Au r1]) (W:=W) (anO r0 r1 true (aYZ r0 r1 Z hok1)) rfl (λi hi=>?_)).mono λe W' he=>?_
 ·match i,hi with
  |0,_=>exact hr0
  |1,_=>exact hr1
 obtain⟨rfl,U⟩:=he;exact⟨_,rfl,_,_,_,[],(p0++p1),[],L,trodAll_mk1 (shut_bool SG _),trodAll_mk2 (M W' U) (O W' U),rfl,U.frame _,λh=>GN⟩
def Tryz.ah0:mapsRowed Ap=true:=A8
def Tryz.alf:Ap.inPlace 5=["internal/bytealg.IndexByteString", "internal/bytealg.IndexString", "slices.overlaps[fedchat/api.Event]"]:=A8
def Tryz.Ph:Ap.unfollowed 5=true:=A8
def Tryz.ajv:Ap.recurses 5=true:=by unfold Program.recurses;rw[Tryz.Ph];rfl
def Tryz.aoY:Ap.varsNamed 5=["internal/bytealg.MaxLen"]:=A8
def Tryz.ah1:(Rows.timelineShowsRow.plainKeys==Ap.plainKeys)=true:=A8
def Tryz.ae5:Ap.stopsHeard=true:=A8
def Tryz.ajw:Ap.mayEnter=true:=A8
def Tryz.ami:(Rows.timelineShowsRow.lifted==Ap.liftsFinal)=true:=A8
def Tryz.apX:(Ap.make==some Rows.timelineShowsRow.make)=true:=A8
def Tryz.amj:joinedFacts Ap 5 Tryz.f5 Rows.timelineShowsSpec Rows.timelineShowsRow=true:=by
 unfold joinedFacts;rw[Tryz.I7,Tryz.ah0,Tryz.alf,Tryz.Ph,Tryz.ajv,Tryz.aoY,Tryz.ah1,Tryz.ae5,Tryz.ajw,Tryz.ami,Tryz.apX];kernel_rfl
theorem timelineShows_holds :Rows.TimelineShowsSaid:=
 a0S 5 Tryz.f5 rfl rfl rfl rfl rfl rfl rfl ⟨rfl,rfl,rfl,rfl,rfl⟩ rfl rfl rfl rfl rfl A8 func5 Tryz.amj
  (LW A8) vF
  (λos j H enc _=>ahx os j H enc)
end
end Go.Proofs.YteiakhlfaaifnaaGreat
