/- The law BuildFounded holds (short forms written by wip/shrink.py; no condition). -/
import Derived.Test.YtkkdimcnpacjhaaGreatRf7
set_option linter.defProp false
set_option linter.unnecessarySimpa false
set_option linter.unusedVariables false
set_option linter.unusedSimpArgs false
section
namespace Go.Proofs.YtkkdimcnpacjhaaGreat
open Go.RowKit
def agR (x:ZA):Prop:=x.Room.size≤maxLen∧x.User.size≤maxLen∧(IntKind.i64.min≤x.Time∧x.Time≤IntKind.i64.max)∧(IntKind.i64.min≤x.Rule∧x.Rule≤IntKind.i64.max)∧(IntKind.i64.min≤x.Visibility∧x.Visibility≤IntKind.i64.max)
set_option maxRecDepth 20000 in
def aht {H:Type} (enc:TypeId×Value→H) (w:World) (base:Nat) (spare:Nat→Bool) (held:Bool):aCQ enc Tryz.prog w base spare held 73 vP agR:=by
 intro Aj cs x h;have hl:=abq Zz h 5 A8;obtain⟨a0,j,q⟩:=wX Zz h 0 9 0 1 A8 (aUJ dR);obtain⟨u,z,I⟩:=wX Zz h 1 9 1 1 A8 (aUJ dR);obtain⟨J,L,M⟩:=wX Zz h 2 3 2 1 A8 (aIV XB);obtain⟨O,U,Y⟩:=wX Zz h 3 3 3 1 A8 (aIV XB);obtain⟨Z,v4,h4⟩:=wX Zz h 4 3 4 1 A8 (aIV XB);exact⟨⟨a0,u,J,O,Z⟩,⟨j,z,L,U,v4⟩,amA [1,1,1,1,1] (by rw[hl];rfl) (Kt.append q (Kt.append I (Kt.append M (Kt.append Y (Kt.append h4 (Kt.nil w))))))⟩
end Go.Proofs.YtkkdimcnpacjhaaGreat
end
section
namespace Go.Proofs.YtkkdimcnpacjhaaGreat
open Go.ChangeShapes Go.WideShapes Go.ChangeAt Go.RowKit
def Tryz.aoi:ownKnob Tryz.prog.godebug=none:=A8
def Tryz.RV:laidOutB Tryz.prog=true:=A8
set_option maxHeartbeats 1600000 in
set_option maxRecDepth 100000 in
def aju (os:Os) (started:os.Started) (H:Type) (enc:TypeId×Value→H):
 ReturnsInHanded {} Tryz.checked os 9 .any (Rows.buildFoundedSpec.pre6 enc Tryz.prog Tryz.f9 Rows.buildFoundedRow.domain false) (Rows.buildFoundedSpec.post enc Tryz.prog Tryz.f9 false true false false):=by
 refine returnsInHanded_of_change (C:=Tryz.checked) Tryz.aoi started A8 Tryz.func9
  (ChangeSpec.witness6 (enc:=enc) (C:=Tryz.checked) false ⟨#[], #[(.agg #[.string BK,.string BK,.int .i64 0,.int .i64 0,.int .i64 0])],[]⟩ 8 A8 A8 A8 A8) ?_
 intro W base args ds gs before u hW _ _;have I:∀(j:Nat) t v,Tryz.f9.params[j]? =some t→args[j]? =some v→Value.okWide Tryz.prog W .any base t v:=u;have J:=hW;obtain⟨p,q,L,hV,rfl,_,_⟩:=hW;have hA:DataW.TrodAll enc Tryz.prog W 0 (fun _=>true) true Tryz.f9.params.toList args.toList ds p:=L;rw[Tryz.params9]at hA I;obtain⟨v0,d0,rfl,rfl,h0⟩:=trodAll_one hA;obtain⟨rfl,rfl⟩:=trodVars_none hV;obtain⟨w0,rfl, -⟩:=okWide_struct Zz (I 0 73 v0 rfl rfl);have Y:=h0;obtain⟨Z,hf0⟩:=h0;obtain⟨O,hok0,hc0⟩:=(aht enc W _ _ _) _ _ _ hf0;have hr0:=ahY (x:=vP O) rfl hc0;clear L u;simp only[Oc]at J;have M:∀x∈p,x.block<W.heap.size:=fun x hx=>by simpa using J.lt x (by simp[hx])
 have z:∀(W':World),Below W.heap.size W W'→DataW.Trod enc Tryz.prog W' 0 (fun b=>decide (b<W.heap.size)) true 73 (.agg w0) d0 p:=
  fun W' U=>Below.trod Tryz.RV A8 (YR A8) Y U M
 refine(Aq.law (xs:=[vP O]) (W:=W) (ap3 O true (agj O)) rfl (fun i hi=>?_)).mono fun e W' he=>?_
 ·match i,hi with
  |0,_=>exact hr0
 obtain⟨rfl,U⟩:=he;exact⟨_,rfl,_,_,_,[],p,[],J,trodAll_mk1 (shut_bool fO _),trodAll_mk1 (z W' U),rfl,U.frame _,fun h=>Ie⟩
def Tryz.aeP:mapsRowed Tryz.prog=true:=A8
def Tryz.ahd:Tryz.prog.inPlace 9=["internal/bytealg.IndexByteString", "internal/bytealg.IndexString", "slices.overlaps[fedchat/api.Event]"]:=A8
def Tryz.Nj:Tryz.prog.unfollowed 9=true:=A8
def Tryz.ags:Tryz.prog.recurses 9=true:=by unfold Program.recurses;rw[Tryz.Nj];rfl
def Tryz.akj:Tryz.prog.varsNamed 9=["internal/bytealg.MaxLen"]:=A8
def Tryz.aeQ:(Rows.buildFoundedRow.plainKeys==Tryz.prog.plainKeys)=true:=A8
def Tryz.adv:Tryz.prog.stopsHeard=true:=A8
def Tryz.agt:Tryz.prog.mayEnter=true:=A8
def Tryz.ajv:(Rows.buildFoundedRow.lifted==Tryz.prog.liftsFinal)=true:=A8
def Tryz.amw:(Tryz.prog.make==some Rows.buildFoundedRow.make)=true:=A8
def Tryz.ajw:joinedFacts Tryz.prog 9 Tryz.f9 Rows.buildFoundedSpec Rows.buildFoundedRow=true:=by
 unfold joinedFacts;rw[Tryz.RV,Tryz.aeP,Tryz.ahd,Tryz.Nj,Tryz.ags,Tryz.akj,Tryz.aeQ,Tryz.adv,Tryz.agt,Tryz.ajv,Tryz.amw];kernel_rfl
theorem buildFounded_holds :Rows.BuildFoundedSaid:=
 OpenClaim.holds_of_wide 9 Tryz.f9 rfl rfl rfl rfl rfl rfl rfl ⟨rfl,rfl,rfl,rfl,rfl⟩ rfl rfl rfl rfl rfl A8 Tryz.func9 Tryz.ajw
  (YR A8) (by unfold Func.isWrapper;first|(rw[CP NC];kernel_rfl)|(rw[CU NC];exact⟨rfl,rfl⟩))
  (fun os j H enc _=>aju os j H enc)
end Go.Proofs.YtkkdimcnpacjhaaGreat
end
