/- The law TimelinePages holds (short forms written by wip/shrink.py; no condition). -/
import Derived.Test.YteiakhlfaaifnaaGreatTb7
set_option linter.defProp false
set_option linter.unnecessarySimpa false
set_option linter.unusedSectionVars false
set_option linter.unusedVariables false
set_option linter.unusedSimpArgs false
namespace Go.Proofs.YteiakhlfaaifnaaGreat
open Go.RowKit Go.Proofs.Tryz
section
open Go.ChangeShapes Go.WideShapes Go.ChangeAt Go.RowKit
def Tryz.asD:ownKnob Ap.godebug=none:=A8
def Tryz.I5:laidOutB Ap=true:=A8
set_option maxHeartbeats 1600000 in
set_option maxRecDepth 100000 in
def aiP (os:Os)(started:os.Started)(H:Type)(enc:Bq×BJ->H):
 ReturnsInHanded {} Tryz.checked os 3 .any (Rows.timelinePagesSpec.pre6 enc Ap Tryz.f3 Rows.timelinePagesRow.domain false) (Rows.timelinePagesSpec.post enc Ap Tryz.f3 false true false false):=by
 refine a1o (C:=Tryz.checked) Tryz.asD started A8 func3
  (zT (enc:=enc) (C:=Tryz.checked) false ⟨#[], #[(.agg #[.string CS,.slice none 0 0,.slice none 0 0,.slice none 0 0,.slice none 0 0,.slice none 0 0,.int .i64 0,.slice none 0 0,.slice none 0 0]),(.agg #[.string CS,.int .i64 0,.int .i64 0])],[]⟩ 8 A8 A8 A8 A8) ?_
 intro W base args ds gs before I hW _ _;have J:∀(j:Nat) t v,Tryz.f3.params[j]? =some t->args[j]? =some v->Value.okWide Ap W .any base t v:=I;have L:=hW;obtain⟨p,q,Y,hV,rfl,_,_⟩:=hW;have hA:DataW.TrodAll enc Ap W 0 (λ_=>true) true Tryz.f3.params.toList args.toList ds p:=Y;rw[Tryz.params3]at hA J;obtain⟨v0,v1,d0,d1,p0,p1,rfl,rfl,rfl,h0,h1⟩:=trodAll_two hA;obtain⟨rfl,rfl⟩:=trodVars_none hV;obtain⟨w0,rfl, -⟩:=okWide_struct rD (J 0 30 v0 rfl rfl);have h0k:=h0;obtain⟨fuel0,hf0⟩:=h0;obtain⟨r0,Z,hc0⟩:=(qQ enc W _ _ _) _ _ _ hf0;have hr0:=Wu (x:=EG r0) rfl hc0;obtain⟨w1,rfl, -⟩:=okWide_struct yP (J 1 32 v1 rfl rfl);have h1k:=h1;obtain⟨fuel1,hf1⟩:=h1;obtain⟨r1,hok1,hc1⟩:=(a3x enc W _ _ _) _ _ _ hf1;have hr1:=Wu (x:=OT r1) rfl hc1;clear Y I;simp only[MH]at L;have hlt0:∀x∈p0,x.block<W.heap.size:=λx hx=>Vj
 have M:∀(W':BU),Below W.heap.size W W'->DataW.Trod enc Ap W' 0 (λb=>b<W.heap.size) true 30 (.agg w0) d0 p0:=
  λW' U=>Vh Tryz.I5 A8 (LW A8) h0k U hlt0
 have hlt1:∀x∈p1,x.block<W.heap.size:=λx hx=>Vj
 have O:∀(W':BU),Below W.heap.size W W'->DataW.Trod enc Ap W' 0 (λb=>b<W.heap.size) true 32 (.agg w1) d1 p1:=
  λW' U=>Vh Tryz.I5 A8 (LW A8) h1k U hlt1
 refine(EU.law (xs:=[EG r0,OT r1]) (W:=W) (alr r0 r1 true (ajU r0 r1 Z hok1)) rfl (λi hi=>?_)).mono λe W' he=>?_
 ·match i,hi with
  |0,_=>exact hr0
  |1,_=>exact hr1
 obtain⟨rfl,U⟩:=he;exact⟨_,rfl,_,_,_,[],(p0++p1),[],L,trodAll_mk1 (shut_bool SG _),trodAll_mk2 (M W' U) (O W' U),rfl,U.frame _,λh=>GN⟩
def Tryz.ahW:mapsRowed Ap=true:=A8
def Tryz.alc:Ap.inPlace 3=["internal/bytealg.IndexByteString", "internal/bytealg.IndexString", "slices.overlaps[fedchat/api.Event]"]:=A8
def Tryz.Pg:Ap.unfollowed 3=true:=A8
def Tryz.ajr:Ap.recurses 3=true:=by unfold Program.recurses;rw[Tryz.Pg];rfl
def Tryz.aoW:Ap.varsNamed 3=["internal/bytealg.MaxLen"]:=A8
def Tryz.ahX:(Rows.timelinePagesRow.plainKeys==Ap.plainKeys)=true:=A8
def Tryz.ae2:Ap.stopsHeard=true:=A8
def Tryz.ajs:Ap.mayEnter=true:=A8
def Tryz.amf:(Rows.timelinePagesRow.lifted==Ap.liftsFinal)=true:=A8
def Tryz.apW:(Ap.make==some Rows.timelinePagesRow.make)=true:=A8
def Tryz.amg:joinedFacts Ap 3 Tryz.f3 Rows.timelinePagesSpec Rows.timelinePagesRow=true:=by
 unfold joinedFacts;rw[Tryz.I5,Tryz.ahW,Tryz.alc,Tryz.Pg,Tryz.ajr,Tryz.aoW,Tryz.ahX,Tryz.ae2,Tryz.ajs,Tryz.amf,Tryz.apW];kernel_rfl
theorem timelinePages_holds :Rows.TimelinePagesSaid:=
 a0S 3 Tryz.f3 rfl rfl rfl rfl rfl rfl rfl ⟨rfl,rfl,rfl,rfl,rfl⟩ rfl rfl rfl rfl rfl A8 func3 Tryz.amg
  (LW A8) vF
  (λos j H enc _=>aiP os j H enc)
end
end Go.Proofs.YteiakhlfaaifnaaGreat
