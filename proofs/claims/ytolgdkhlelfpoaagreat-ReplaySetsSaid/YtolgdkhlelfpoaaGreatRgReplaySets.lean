/- The law ReplaySets holds (short forms written by wip/shrink.py; no condition). -/
import Derived.Test.YtolgdkhlelfpoaaGreatRg7
set_option linter.defProp false
set_option linter.unnecessarySimpa false
set_option linter.unusedVariables false
set_option linter.unusedSimpArgs false
section
namespace Go.Proofs.YtolgdkhlelfpoaaGreat
open Go.RowKit
def mZ (x:Gl):Prop:=x.User.size≤maxLen∧(IntKind.i64.min≤x.N∧x.N≤IntKind.i64.max)
set_option maxRecDepth 20000 in
def aLT {H:Type} (enc:TypeId×Value→H) (w:World) (base:Nat) (spare:Nat→Bool) (held:Bool):Ld enc Tryz.prog w base spare held 173 EN mZ:=by
 intro Az cs x h;have f:=Qd iP h 2 A8;obtain⟨a0,j,m⟩:=E5 iP h 0 9 0 1 A8 (Lc JV);obtain⟨n,q,s⟩:=E5 iP h 1 3 1 1 A8 (FX FB);exact⟨⟨a0,n⟩,⟨j,q⟩,Qh [1,1] O9 (D9.append m (D9.append s (D9.nil w)))⟩
def sK (x:Ij):Prop:=(IntKind.i64.min≤x.Kind∧x.Kind≤IntKind.i64.max)∧(IntKind.i64.min≤x.N∧x.N≤IntKind.i64.max)
set_option maxRecDepth 20000 in
def aKY {H:Type} (enc:TypeId×Value→H) (w:World) (base:Nat) (spare:Nat→Bool) (held:Bool):Ld enc Tryz.prog w base spare held 208 EK sK:=by
 intro Az cs x h;have f:=Qd jr h 2 A8;obtain⟨a0,j,m⟩:=E5 jr h 0 44 0 1 A8 (FX aC2);obtain⟨n,q,s⟩:=E5 jr h 1 3 1 1 A8 (FX FB);exact⟨⟨a0,n⟩,⟨j,q⟩,Qh [1,1] O9 (D9.append m (D9.append s (D9.nil w)))⟩
def nC (x:CO):Prop:=(x.Users.length≤maxLen∧∀f∈x.Users,mZ f)∧(x.Kinds.length≤maxLen∧∀h∈x.Kinds,sK h)∧(IntKind.i64.min≤x.User∧x.User≤IntKind.i64.max)∧(IntKind.i64.min≤x.Message∧x.Message≤IntKind.i64.max)∧(IntKind.i64.min≤x.State∧x.State≤IntKind.i64.max)∧(IntKind.i64.min≤x.gB∧x.gB≤IntKind.i64.max)∧(IntKind.i64.min≤x.jI∧x.jI≤IntKind.i64.max)∧(IntKind.i64.min≤x.lV∧x.lV≤IntKind.i64.max)∧(IntKind.i64.min≤x.gQ∧x.gQ≤IntKind.i64.max)
set_option maxRecDepth 20000 in
def aOR {H:Type} (enc:TypeId×Value→H) (w:World) (base:Nat) (spare:Nat→Bool) (held:Bool):Ld enc Tryz.prog w base spare held 49 Dz nC:=by
 intro Az cs x h;have f:=Qd Ky h 9 A8;obtain⟨a0,j,m⟩:=E5 Ky h 0 46 0 1 A8 (PI (sz:=2) Tryz.underlying46 A8 Bd (fun _=>rfl) (aLT enc w base spare held));obtain⟨n,q,s⟩:=E5 Ky h 1 47 1 1 A8 (PI (sz:=2) Tryz.underlying47 A8 Bd (fun _=>rfl) (aKY enc w base spare held));obtain⟨u,z,I⟩:=E5 Ky h 2 3 2 1 A8 (FX FB);obtain⟨J,L,M⟩:=E5 Ky h 3 3 3 1 A8 (FX FB);obtain⟨O,S,U⟩:=E5 Ky h 4 3 4 1 A8 (FX FB);obtain⟨Y,Z,h5⟩:=E5 Ky h 5 3 5 1 A8 (FX FB);obtain⟨a6,v6,h6⟩:=E5 Ky h 6 3 6 1 A8 (FX FB);obtain⟨a7,v7,h7⟩:=E5 Ky h 7 3 7 1 A8 (FX FB);obtain⟨a8,v8,h8⟩:=E5 Ky h 8 3 8 1 A8 (FX FB);exact⟨⟨a0,n,u,J,O,Y,a6,a7,a8⟩,⟨j,q,z,L,S,Z,v6,v7,v8⟩,Qh [1,1,1,1,1,1,1,1,1] O9 (D9.append m (D9.append s (D9.append I (D9.append M (D9.append U (D9.append h5 (D9.append h6 (D9.append h7 (D9.append h8 (D9.nil w))))))))))⟩
def xE (x:CW):Prop:=x.Text.size≤maxLen∧(IntKind.i64.min≤x.N∧x.N≤IntKind.i64.max)∧(IntKind.i64.min≤x.Target∧x.Target≤IntKind.i64.max)∧True∧x.Via.size≤maxLen∧(x.Allow.length≤maxLen∧∀f∈x.Allow,f.size≤maxLen)∧(x.iE.length≤maxLen∧∀h∈x.iE,h.size≤maxLen)∧nC x.Levels
set_option maxRecDepth 20000 in
def aLc {H:Type} (enc:TypeId×Value→H) (w:World) (base:Nat) (spare:Nat→Bool) (held:Bool):Ld enc Tryz.prog w base spare held 51 Ec xE:=by
 intro Az cs x h;have f:=Qd MF h 16 A8;obtain⟨a0,j,m⟩:=E5 MF h 0 9 0 1 A8 (Lc JV);obtain⟨n,q,s⟩:=E5 MF h 1 3 1 1 A8 (FX FB);obtain⟨u,z,I⟩:=E5 MF h 2 3 2 1 A8 (FX FB);obtain⟨J,L,M⟩:=E5 MF h 3 4 3 1 A8 (aB7 Qr);obtain⟨O,S,U⟩:=E5 MF h 4 9 4 1 A8 (Lc JV);obtain⟨Y,Z,h5⟩:=E5 MF h 5 45 5 1 A8 (PI (sz:=1) aF4 A8 Bd (fun _=>rfl) (Lc JV));obtain⟨a6,v6,h6⟩:=E5 MF h 6 45 6 1 A8 (PI (sz:=1) aF4 A8 Bd (fun _=>rfl) (Lc JV));obtain⟨a7,v7,h7⟩:=E5 MF h 7 49 7 9 A8 (aOR enc w base spare held);exact⟨⟨a0,n,u,J,O,Y,a6,a7⟩,⟨j,q,z,L,S,Z,v6,v7⟩,Qh [1,1,1,1,1,1,1,9] O9 (D9.append m (D9.append s (D9.append I (D9.append M (D9.append U (D9.append h5 (D9.append h6 (D9.append h7 (D9.nil w)))))))))⟩
def xB (x:Nk):Prop:=x.Server.size≤maxLen∧(IntKind.i64.min≤x.Sum∧x.Sum≤IntKind.i64.max)
set_option maxRecDepth 20000 in
def aNc {H:Type} (enc:TypeId×Value→H) (w:World) (base:Nat) (spare:Nat→Bool) (held:Bool):Ld enc Tryz.prog w base spare held 53 aRU xB:=by
 intro Az cs x h;have f:=Qd bg h 2 A8;obtain⟨a0,j,m⟩:=E5 bg h 0 9 0 1 A8 (Lc JV);obtain⟨n,q,s⟩:=E5 bg h 1 3 1 1 A8 (FX FB);exact⟨⟨a0,n⟩,⟨j,q⟩,Qh [1,1] O9 (D9.append m (D9.append s (D9.nil w)))⟩
def WQ (x:AY):Prop:=(IntKind.i64.min≤x.Id∧x.Id≤IntKind.i64.max)∧x.Room.size≤maxLen∧x.bG.size≤maxLen∧(IntKind.i64.min≤x.Kind∧x.Kind≤IntKind.i64.max)∧True∧x.Key.size≤maxLen∧(IntKind.i64.min≤x.Time∧x.Time≤IntKind.i64.max)∧(IntKind.i64.min≤x.Depth∧x.Depth≤IntKind.i64.max)∧(x.bK.length≤maxLen∧∀f∈x.bK,(IntKind.i64.min≤f∧f≤IntKind.i64.max))∧(x.bM.length≤maxLen∧∀h∈x.bM,(IntKind.i64.min≤h∧h≤IntKind.i64.max))∧xE x.Content∧(IntKind.i64.min≤x.Hash∧x.Hash≤IntKind.i64.max)∧xB x.qR
set_option maxRecDepth 20000 in
def aO6 {H:Type} (enc:TypeId×Value→H) (w:World) (base:Nat) (spare:Nat→Bool) (held:Bool):Ld enc Tryz.prog w base spare held 55 Ak WQ:=by
 intro Az cs x h;have J:=Qd IC h 29 A8;obtain⟨a0,L,M⟩:=E5 IC h 0 3 0 1 A8 (FX FB);obtain⟨O,S,U⟩:=E5 IC h 1 9 1 1 A8 (Lc JV);obtain⟨Y,Z,h2⟩:=E5 IC h 2 9 2 1 A8 (Lc JV);obtain⟨a3,v3,h3⟩:=E5 IC h 3 44 3 1 A8 (FX aC2);obtain⟨a4,v4,h4⟩:=E5 IC h 4 4 4 1 A8 (aB7 Qr);obtain⟨a5,v5,h5⟩:=E5 IC h 5 9 5 1 A8 (Lc JV);obtain⟨a6,v6,h6⟩:=E5 IC h 6 3 6 1 A8 (FX FB);obtain⟨a7,v7,h7⟩:=E5 IC h 7 3 7 1 A8 (FX FB);obtain⟨a8,v8,h8⟩:=E5 IC h 8 24 8 1 A8 (PI (sz:=1) gV A8 Bd (fun _=>rfl) (FX FB));obtain⟨a9,v9,h9⟩:=E5 IC h 9 24 9 1 A8 (PI (sz:=1) gV A8 Bd (fun _=>rfl) (FX FB));obtain⟨f,j,m⟩:=E5 IC h 10 51 10 16 A8 (aLc enc w base spare held);obtain⟨n,q,s⟩:=E5 IC h 11 3 26 1 A8 (FX FB);obtain⟨u,z,I⟩:=E5 IC h 12 53 27 2 A8 (aNc enc w base spare held);exact⟨⟨a0,O,Y,a3,a4,a5,a6,a7,a8,a9,f,n,u⟩,⟨L,S,Z,v3,v4,v5,v6,v7,v8,v9,j,q,z⟩,Qh [1,1,1,1,1,1,1,1,1,1,16,1,2] (by rw[J];rfl) (D9.append M (D9.append U (D9.append h2 (D9.append h3 (D9.append h4 (D9.append h5 (D9.append h6 (D9.append h7 (D9.append h8 (D9.append h9 (D9.append m (D9.append s (D9.append I (D9.nil w))))))))))))))⟩
def aLN {e:AY} (h:WQ e):Oy e:=by
 obtain⟨_,f,j,_,_,m,_,_,⟨n,_⟩,⟨q,_⟩,s,_,z⟩:=h;obtain⟨I,_,_,_,J,⟨L,M⟩,⟨O,S⟩,U⟩:=s;obtain⟨⟨Y,Z⟩,⟨l3,_⟩,_⟩:=U;exact⟨n,q,f,j,m,z.1,⟨L,O,Y,l3,I,J,M,S,fun u hu=>(Z u hu).1⟩⟩
def aLi {l:List AY} (h:l.length≤maxLen∧∀y∈l,WQ y):∀e∈l,Oy e:=fun e f=>aLN (h.2 e f)
def ah7 (l:List AY) (h:l.length≤maxLen∧∀y∈l,WQ y):aE1 l=some true:=as3 (aLi h)
end Go.Proofs.YtolgdkhlelfpoaaGreat
end
section
namespace Go.Proofs.YtolgdkhlelfpoaaGreat
open Go.ChangeShapes Go.WideShapes Go.ChangeAt Go.RowKit
def Tryz.aqL:ownKnob Tryz.prog.godebug=none:=A8
def Tryz.XR:laidOutB Tryz.prog=true:=A8
set_option maxHeartbeats 1600000 in
set_option maxRecDepth 100000 in
def ang (os:Os) (started:os.Started) (H:Type) (enc:TypeId×Value→H):
 ReturnsInHanded {} Tryz.checked os 10 .any (Rows.replaySetsSpec.pre6 enc Tryz.prog Tryz.f10 Rows.replaySetsRow.domain false) (Rows.replaySetsSpec.post enc Tryz.prog Tryz.f10 false true false false):=by
 refine returnsInHanded_of_change (C:=Tryz.checked) Tryz.aqL started A8 Tryz.func10
  (ChangeSpec.witness6 (enc:=enc) (C:=Tryz.checked) false ⟨#[], #[.slice none 0 0],[]⟩ 8 A8 A8 A8 A8) ?_
 intro W base args ds gs before f hW _ _;have n:∀(j:Nat) t v,Tryz.f10.params[j]? =some t→args[j]? =some v→Value.okWide Tryz.prog W .any base t v:=f;have s:=hW;obtain⟨p,q,u,hV,rfl,_,_⟩:=hW;have hA:DataW.TrodAll enc Tryz.prog W 0 (fun _=>true) true Tryz.f10.params.toList args.toList ds p:=u;rw[Tryz.params10]at hA n;obtain⟨v0,d0,rfl,rfl,h0⟩:=trodAll_one hA;obtain⟨rfl,rfl⟩:=trodVars_none hV;obtain⟨w0,M,O,rfl⟩:=okWide_slice Yq (n 0 22 v0 rfl rfl);have S:=h0;obtain⟨U,Y⟩:=h0;obtain⟨J,z,Z⟩:=(PI (sz:=29) Yq A8 Bd (fun _=>rfl) (aO6 enc W _ _ _)) _ _ _ Y;have hr0:=aKC (x:=(Au Ak) J) rfl rfl Z;clear u f;simp only[Pm]at s;have I:∀x∈p,x.block<W.heap.size:=fun x hx=>by simpa using s.lt x (by simp[hx])
 have m:∀(W':World),Below W.heap.size W W'→DataW.Trod enc Tryz.prog W' 0 (fun b=>decide (b<W.heap.size)) true 22 (.slice w0 M O) d0 p:=
  fun W' L=>Below.trod Tryz.XR A8 (VZ A8) S L I
 refine(Ap.law (xs:=[(Au Ak) J]) (W:=W) (atQ J true (ah7 J z)) rfl (fun i hi=>?_)).mono fun e W' he=>?_
 ·match i,hi with
  |0,_=>exact hr0
 obtain⟨rfl,L⟩:=he;exact⟨_,rfl,_,_,_,[],p,[],s,trodAll_mk1 (shut_bool Qr _),trodAll_mk1 (m W' L),rfl,L.frame _,fun h=>I4⟩
def Tryz.ahb:mapsRowed Tryz.prog=true:=A8
def Tryz.aj7:Tryz.prog.inPlace 10=["slices.overlaps[fedchat/api.Event]", "internal/bytealg.IndexByteString", "internal/bytealg.IndexString"]:=A8
def Tryz.RV:Tryz.prog.unfollowed 10=true:=A8
def Tryz.ajh:Tryz.prog.recurses 10=true:=by unfold Program.recurses;rw[Tryz.RV];rfl
def Tryz.anT:Tryz.prog.varsNamed 10=["internal/bytealg.MaxLen"]:=A8
def Tryz.ahc:(Rows.replaySetsRow.plainKeys==Tryz.prog.plainKeys)=true:=A8
def Tryz.agu:Tryz.prog.stopsHeard=true:=A8
def Tryz.aji:Tryz.prog.mayEnter=true:=A8
def Tryz.al1:(Rows.replaySetsRow.lifted==Tryz.prog.liftsFinal)=true:=A8
def Tryz.ao4:(Tryz.prog.make==some Rows.replaySetsRow.make)=true:=A8
def Tryz.al2:joinedFacts Tryz.prog 10 Tryz.f10 Rows.replaySetsSpec Rows.replaySetsRow=true:=by
 unfold joinedFacts;rw[Tryz.XR,Tryz.ahb,Tryz.aj7,Tryz.RV,Tryz.ajh,Tryz.anT,Tryz.ahc,Tryz.agu,Tryz.aji,Tryz.al1,Tryz.ao4];kernel_rfl
theorem replaySets_holds :Rows.ReplaySetsSaid:=
 OpenClaim.holds_of_wide 10 Tryz.f10 rfl rfl rfl rfl rfl rfl rfl ⟨rfl,rfl,rfl,rfl,rfl⟩ rfl rfl rfl rfl rfl A8 Tryz.func10 Tryz.al2
  (VZ A8) aQx
  (fun os f H enc _=>ang os f H enc)
end Go.Proofs.YtolgdkhlelfpoaaGreat
end
