/- The law BuildRooms holds (short forms written by wip/shrink.py; no condition). -/
import Derived.Test.YtkkdimcnpacjhaaGreatRe8
set_option linter.defProp false
set_option linter.unnecessarySimpa false
set_option linter.unusedSectionVars false
set_option linter.unusedVariables false
set_option linter.unusedSimpArgs false
namespace Go.Proofs.YtkkdimcnpacjhaaGreat
open Go.RowKit Go.Proofs.Tryz
section
def aZW (x:nY):Prop:=x.Room.size<=maxLen/\x.User.size<=maxLen/\(IntKind.i64.min<=x.Time/\x.Time<=IntKind.i64.max)/\(IntKind.i64.min<=x.Rule/\x.Rule<=IntKind.i64.max)/\(IntKind.i64.min<=x.Visibility/\x.Visibility<=IntKind.i64.max)
set_option maxRecDepth 20000 in
def ajR {H:Type} (enc:CO×Aw->H) (w:Bc) (base:Nat) (spare:Nat->Ad) (held:Ad):a2X enc Au w base spare held 73 aCd aZW:=by
 intro Az cs x h;have hl:=abP gy h 5 AA;obtain⟨a0,j,q⟩:=zM gy h 0 9 0 1 AA (aXA er);obtain⟨u,z,I⟩:=zM gy h 1 9 1 1 AA (aXA er);obtain⟨J,L,M⟩:=zM gy h 2 3 2 1 AA (aM2 Ws);obtain⟨O,U,Y⟩:=zM gy h 3 3 3 1 AA (aM2 Ws);obtain⟨Z,v4,h4⟩:=zM gy h 4 3 4 1 AA (aM2 Ws);exact⟨⟨a0,u,J,O,Z⟩,⟨j,z,L,U,v4⟩,adF [1,1,1,1,1] (by rw[hl];rfl) (MO.append q (MO.append I (MO.append M (MO.append Y (MO.append h4 (MO.nil w))))))⟩
end
section
open Go.ChangeShapes Go.WideShapes Go.ChangeAt Go.RowKit
def Tryz.asu:ownKnob Au.godebug=none:=AA
def Tryz.Yq:laidOutB Au=true:=AA
set_option maxHeartbeats 1600000 in
set_option maxRecDepth 100000 in
def aa6 (os:Os) (started:os.Started) (H:Type) (enc:CO×Aw->H):
 ReturnsInHanded {} Tryz.checked os 8 .any (Rows.buildRoomsSpec.pre6 enc Au Tryz.f8 Rows.buildRoomsRow.domain false) (Rows.buildRoomsSpec.post enc Au Tryz.f8 false true false false):=by
 refine returnsInHanded_of_change (C:=Tryz.checked) Tryz.asu started AA func8
  (ChangeSpec.witness6 (enc:=enc) (C:=Tryz.checked) false ⟨#[], #[(.agg #[.string CU,.string CU,.int .i64 0,.int .i64 0,.int .i64 0])],[]⟩ 8 AA AA AA AA) ?_
 intro W base args ds gs before u hW _ _;have I:∀(j:Nat) t v,Tryz.f8.params[j]? =some t->args[j]? =some v->Value.okWide Au W .any base t v:=u;have J:=hW;obtain⟨p,q,L,hV,rfl,_,_⟩:=hW;have hA:DataW.TrodAll enc Au W 0 (fun _=>true) true Tryz.f8.params.toList args.toList ds p:=L;rw[Tryz.params8]at hA I;obtain⟨v0,d0,rfl,rfl,h0⟩:=trodAll_one hA;obtain⟨rfl,rfl⟩:=trodVars_none hV;obtain⟨w0,rfl, -⟩:=okWide_struct gy (I 0 73 v0 rfl rfl);have Y:=h0;obtain⟨Z,hf0⟩:=h0;obtain⟨O,hok0,hc0⟩:=(ajR enc W _ _ _) _ _ _ hf0;have hr0:=ahs (x:=aCd O) rfl hc0;clear L u;simp only[P8]at J;have M:∀x∈p,x.block<W.heap.size:=fun x hx=>by simpa using J.lt x (by simp[hx])
 have z:∀(W':Bc),Below W.heap.size W W'->DataW.Trod enc Au W' 0 (fun b=>b<W.heap.size) true 73 (.agg w0) d0 p:=
  fun W' U=>Below.trod Tryz.Yq AA (YN AA) Y U M
 refine(El.law (xs:=[aCd O]) (W:=W) (ajp O true (amO O)) rfl (fun i hi=>?_)).mono fun e W' he=>?_
 ·match i,hi with
  |0,_=>exact hr0
 obtain⟨rfl,U⟩:=he;exact⟨_,rfl,_,_,_,[],p,[],J,trodAll_mk1 (shut_bool kX _),trodAll_mk1 (z W' U),rfl,U.frame _,fun h=>JD⟩
def Tryz.ah2:mapsRowed Au=true:=AA
def Tryz.ald:Au.inPlace 8=["internal/bytealg.IndexByteString", "internal/bytealg.IndexString", "slices.overlaps[fedchat/api.Event]"]:=AA
def Tryz.Tm:Au.unfollowed 8=true:=AA
def Tryz.akk:Au.recurses 8=true:=by unfold Program.recurses;rw[Tryz.Tm];rfl
def Tryz.apd:Au.varsNamed 8=["internal/bytealg.MaxLen"]:=AA
def Tryz.ah3:(Rows.buildRoomsRow.plainKeys==Au.plainKeys)=true:=AA
def Tryz.ahk:Au.stopsHeard=true:=AA
def Tryz.akl:Au.mayEnter=true:=AA
def Tryz.ant:(Rows.buildRoomsRow.lifted==Au.liftsFinal)=true:=AA
def Tryz.aqr:(Au.make==some Rows.buildRoomsRow.make)=true:=AA
def Tryz.anu:joinedFacts Au 8 Tryz.f8 Rows.buildRoomsSpec Rows.buildRoomsRow=true:=by
 unfold joinedFacts;rw[Tryz.Yq,Tryz.ah2,Tryz.ald,Tryz.Tm,Tryz.akk,Tryz.apd,Tryz.ah3,Tryz.ahk,Tryz.akl,Tryz.ant,Tryz.aqr];kernel_rfl
theorem buildRooms_holds :Rows.BuildRoomsSaid:=
 OpenClaim.holds_of_wide 8 Tryz.f8 rfl rfl rfl rfl rfl rfl rfl ⟨rfl,rfl,rfl,rfl,rfl⟩ rfl rfl rfl rfl rfl AA func8 Tryz.anu
  (YN AA) (by unfold Func.isWrapper;first|(rw[DX NY];kernel_rfl)|(rw[Dk NY];exact⟨rfl,rfl⟩))
  (fun os j H enc _=>aa6 os j H enc)
end
end Go.Proofs.YtkkdimcnpacjhaaGreat
