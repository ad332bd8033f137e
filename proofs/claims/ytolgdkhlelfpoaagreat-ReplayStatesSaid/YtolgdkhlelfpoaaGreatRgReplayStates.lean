/- The law ReplayStates holds (short forms written by wip/shrink.py; no condition). -/
import Derived.Test.YtolgdkhlelfpoaaGreatRg7
set_option linter.defProp false
set_option linter.unnecessarySimpa false
set_option linter.unusedVariables false
set_option linter.unusedSimpArgs false
section
namespace Go.Proofs.YtolgdkhlelfpoaaGreat
open Go.RowKit
def mZ (x:Gl):Prop:=x.User.size≤maxLen∧(IntKind.i64.min≤x.N∧x.N≤IntKind.i64.max)
set_option maxRecDepth 20000 in
def aLT {H:Type} (enc:TypeId×Value→H) (w:World) (base:Nat) (spare:Nat→Bool) (held:Bool):Ld enc Tryz.prog w base spare held 173 EN mZ:=by
 intro Az cs x h;have f:=Qd iP h 2 A8;obtain⟨a0,j,m⟩:=E5 iP h 0 9 0 1 A8 (Lc JV);obtain⟨n,q,s⟩:=E5 iP h 1 3 1 1 A8 (FX FB);exact⟨⟨a0,n⟩,⟨j,q⟩,Qh [1,1] O9 (D9.append m (D9.append s (D9.nil w)))⟩
def sK (x:Ij):Prop:=(IntKind.i64.min≤x.Kind∧x.Kind≤IntKind.i64.max)∧(IntKind.i64.min≤x.N∧x.N≤IntKind.i64.max)
set_option maxRecDepth 20000 in
def aKY {H:Type} (enc:TypeId×Value→H) (w:World) (base:Nat) (spare:Nat→Bool) (held:Bool):Ld enc Tryz.prog w base spare held 208 EK sK:=by
 intro Az cs x h;have f:=Qd jr h 2 A8;obtain⟨a0,j,m⟩:=E5 jr h 0 44 0 1 A8 (FX aC2);obtain⟨n,q,s⟩:=E5 jr h 1 3 1 1 A8 (FX FB);exact⟨⟨a0,n⟩,⟨j,q⟩,Qh [1,1] O9 (D9.append m (D9.append s (D9.nil w)))⟩
def nC (x:CO):Prop:=(x.Users.length≤maxLen∧∀f∈x.Users,mZ f)∧(x.Kinds.length≤maxLen∧∀h∈x.Kinds,sK h)∧(IntKind.i64.min≤x.User∧x.User≤IntKind.i64.max)∧(IntKind.i64.min≤x.Message∧x.Message≤IntKind.i64.max)∧(IntKind.i64.min≤x.State∧x.State≤IntKind.i64.max)∧(IntKind.i64.min≤x.gB∧x.gB≤IntKind.i64.max)∧(IntKind.i64.min≤x.jI∧x.jI≤IntKind.i64.max)∧(IntKind.i64.min≤x.lV∧x.lV≤IntKind.i64.max)∧(IntKind.i64.min≤x.gQ∧x.gQ≤IntKind.i64.max)
set_option maxRecDepth 20000 in
def aOR {H:Type} (enc:TypeId×Value→H) (w:World) (base:Nat) (spare:Nat→Bool) (held:Bool):Ld enc Tryz.prog w base spare held 49 Dz nC:=by
 intro Az cs x h;have f:=Qd Ky h 9 A8;obtain⟨a0,j,m⟩:=E5 Ky h 0 46 0 1 A8 (PI (sz:=2) Tryz.underlying46 A8 Bd (fun _=>rfl) (aLT enc w base spare held));obtain⟨n,q,s⟩:=E5 Ky h 1 47 1 1 A8 (PI (sz:=2) Tryz.underlying47 A8 Bd (fun _=>rfl) (aKY enc w base spare held));obtain⟨u,z,I⟩:=E5 Ky h 2 3 2 1 A8 (FX FB);obtain⟨J,L,M⟩:=E5 Ky h 3 3 3 1 A8 (FX FB);obtain⟨O,S,U⟩:=E5 Ky h 4 3 4 1 A8 (FX FB);obtain⟨Y,Z,h5⟩:=E5 Ky h 5 3 5 1 A8 (FX FB);obtain⟨a6,v6,h6⟩:=E5 Ky h 6 3 6 1 A8 (FX FB);obtain⟨a7,v7,h7⟩:=E5 Ky h 7 3 7 1 A8 (FX FB);obtain⟨a8,v8,h8⟩:=E5 Ky h 8 3 8 1 A8 (FX FB);exact⟨⟨a0,n,u,J,O,Y,a6,a7,a8⟩,⟨j,q,z,L,S,Z,v6,v7,v8⟩,Qh [1,1,1,1,1,1,1,1,1] O9 (D9.append m (D9.append s (D9.append I (D9.append M (D9.append U (D9.append h5 (D9.append h6 (D9.append h7 (D9.append h8 (D9.nil w))))))))))⟩
def xE (x:CW):Prop:=x.Text.size≤maxLen∧(IntKind.i64.min≤x.N∧x.N≤IntKind.i64.max)∧(IntKind.i64.min≤x.Target∧x.Target≤IntKind.i64.max)∧True∧x.Via.size≤maxLen∧(x.Allow.length≤maxLen∧∀f∈x.Allow,f.size≤maxLen)∧(x.iE.length≤maxLen∧∀h∈x.iE,h.size≤maxLen)∧nC x.Levels
set_option maxRecDepth 20000 in
def aLc {H:Type} (enc:TypeId×Value→H) (w:World) (base:Nat) (spare:Nat→Bool) (held:Bool):Ld enc Tryz.prog w base spare held 51 Ec xE:=by
 intro Az cs x h;have f:=Qd MF h 16 A8;obtain⟨a0,j,m⟩:=E5 MF h 0 9 0 1 A8 (Lc JV);obtain⟨n,q,s⟩:=E5 MF h 1 3 1 1 A8 (FX FB);obtain⟨u,z,I⟩:=E5 MF h 2 3 2 1 A8 (FX FB);obtain⟨J,L,M⟩:=E5 MF h 3 4 3 1 A8 (aB7 Qr);obtain⟨O,S,U⟩:=E5 MF h 4 9 4 1 A8 (Lc JV);obtain⟨Y,Z,h5⟩:=E5 MF h 5 45 5 1 A8 (PI (sz:=1) aF4 A8 Bd (fun _=>rfl) (Lc JV));obtain⟨a6,v6,h6⟩:=E5 MF h 6 45 6 1 A8 (PI (sz:=1) aF4 A8 Bd (fun _=>rfl) (Lc JV));obtain⟨a7,v7,h7⟩:=E5 MF h 7 49 7 9 A8 (aOR enc w base spare held);exact⟨⟨a0,n,u,J,O,Y,a6,a7⟩,⟨j,q,z,L,S,Z,v6,v7⟩,Qh [1,1,1,1,1,1,1,9] O9 (D9.append m (D9.append s (D9.append I (D9.append M (D9.append U (D9.append h5 (D9.append h6 (D9.append h7 (D9.nil w)))))))))⟩
def xB (x:Nk):Prop:=x.Server.size≤maxLen∧(IntKind.i64.min≤x.Sum∧x.Sum≤IntKind.i64.max)
set_option maxRecDepth 20000 in
def aNc {H:Type} (enc:TypeId×Value→H) (w:World) (base:Nat) (spare:Nat→Bool) (held:Bool):Ld enc Tryz.prog w base spare held 53 aRU xB:=by
 intro Az cs x h;have f:=Qd bg h 2 A8;obtain⟨a0,j,m⟩:=E5 bg h 0 9 0 1 A8 (Lc JV);obtain⟨n,q,s⟩:=E5 bg h 1 3 1 1 A8 (FX FB);exact⟨⟨a0,n⟩,⟨j,q⟩,Qh [1,1] O9 (D9.append m (D9.append s (D9.nil w)))⟩
def WQ (x:AY):Prop:=(IntKind.i64.min≤x.Id∧x.Id≤IntKind.i64.max)∧x.Room.size≤maxLen∧x.bG.size≤maxLen∧(IntKind.i64.min≤x.Kind∧x.Kind≤IntKind.i64.max)∧True∧x.Key.size≤maxLen∧(IntKind.i64.min≤x.Time∧x.Time≤IntKind.i64.max)∧(IntKind.i64.min≤x.Depth∧x.Depth≤IntKind.i64.max)∧(x.bK.length≤maxLen∧∀f∈x.bK,(IntKind.i64.min≤f∧f≤IntKind.i64.max))∧(x.bM.length≤maxLen∧∀h∈x.bM,(IntKind.i64.min≤h∧h≤IntKind.i64.max))∧xE x.Content∧(IntKind.i64.min≤x.Hash∧x.Hash≤IntKind.i64.max)∧xB x.qR
set_option maxRecDepth 20000 in
def aO6 {H:Type} (enc:TypeId×Value→H) (w:World) (base:Nat) (spare:Nat→Bool) (held:Bool):Ld enc Tryz.prog w base spare held 55 Ak WQ:=by
 intro Az cs x h;have J:=Qd IC h 29 A8;obtain⟨a0,L,M⟩:=E5 IC h 0 3 0 1 A8 (FX FB);obtain⟨O,S,U⟩:=E5 IC h 1 9 1 1 A8 (Lc JV);obtain⟨Y,Z,h2⟩:=E5 IC h 2 9 2 1 A8 (Lc JV);obtain⟨a3,v3,h3⟩:=E5 IC h 3 44 3 1 A8 (FX aC2);obtain⟨a4,v4,h4⟩:=E5 IC h 4 4 4 1 A8 (aB7 Qr);obtain⟨a5,v5,h5⟩:=E5 IC h 5 9 5 1 A8 (Lc JV);obtain⟨a6,v6,h6⟩:=E5 IC h 6 3 6 1 A8 (FX FB);obtain⟨a7,v7,h7⟩:=E5 IC h 7 3 7 1 A8 (FX FB);obtain⟨a8,v8,h8⟩:=E5 IC h 8 24 8 1 A8 (PI (sz:=1) gV A8 Bd (fun _=>rfl) (FX FB));obtain⟨a9,v9,h9⟩:=E5 IC h 9 24 9 1 A8 (PI (sz:=1) gV A8 Bd (fun _=>rfl) (FX FB));obtain⟨f,j,m⟩:=E5 IC h 10 51 10 16 A8 (aLc enc w base spare held);obtain⟨n,q,s⟩:=E5 IC h 11 3 26 1 A8 (FX FB);obtain⟨u,z,I⟩:=E5 IC h 12 53 27 2 A8 (aNc enc w base spare held);exact⟨⟨a0,O,Y,a3,a4,a5,a6,a7,a8,a9,f,n,u⟩,⟨L,S,Z,v3,v4,v5,v6,v7,v8,v9,j,q,z⟩,Qh [1,1,1,1,1,1,1,1,1,1,16,1,2] (by rw[J];rfl) (D9.append M (D9.append U (D9.append h2 (D9.append h3 (D9.append h4 (D9.append h5 (D9.append h6 (D9.append h7 (D9.append h8 (D9.append h9 (D9.append m (D9.append s (D9.append I (D9.nil w))))))))))))))⟩
def aLN {e:AY} (h:WQ e):Oy e:=by
 obtain⟨_,f,j,_,_,m,_,_,⟨n,_⟩,⟨q,_⟩,s,_,z⟩:=h;obtain⟨I,_,_,_,J,⟨L,M⟩,⟨O,S⟩,U⟩:=s;obtain⟨⟨Y,Z⟩,⟨l3,_⟩,_⟩:=U;exact⟨n,q,f,j,m,z.1,⟨L,O,Y,l3,I,J,M,S,fun u hu=>(Z u hu).1⟩⟩
def aLi {l:List AY} (h:l.length≤maxLen∧∀y∈l,WQ y):∀e∈l,Oy e:=fun e f=>aLN (h.2 e f)
def alZ (l:List AY) (id:Int) (h:l.length≤maxLen∧∀y∈l,WQ y) {P:Prop} (_:P):aD5 l id=some true:=ahm (aLi h) id
end Go.Proofs.YtolgdkhlelfpoaaGreat
end
section
namespace Go.Proofs.YtolgdkhlelfpoaaGreat
open Go.ChangeShapes Go.WideShapes Go.ChangeAt Go.RowKit
def Tryz.anS:ownKnob Tryz.prog.godebug=none:=A8
def Tryz.Hw:laidOutB Tryz.prog=true:=A8
set_option maxHeartbeats 1600000 in
set_option maxRecDepth 100000 in
def alL (os:Os) (started:os.Started) (H:Type) (enc:TypeId×Value→H):
 ReturnsInHanded {} Tryz.checked os 9 .any (Rows.replayStatesSpec.pre6 enc Tryz.prog Tryz.f9 Rows.replayStatesRow.domain false) (Rows.replayStatesSpec.post enc Tryz.prog Tryz.f9 false true false false):=by
 refine returnsInHanded_of_change (C:=Tryz.checked) Tryz.anS started A8 Tryz.func9
  (ChangeSpec.witness6 (enc:=enc) (C:=Tryz.checked) false ⟨#[], #[.slice none 0 0,.int .i64 0],[]⟩ 8 A8 A8 A8 A8) ?_
 intro W base args ds gs before f hW _ _;have m:∀(j:Nat) t v,Tryz.f9.params[j]? =some t→args[j]? =some v→Value.okWide Tryz.prog W .any base t v:=f;have n:=hW;obtain⟨p,q,I,hV,rfl,_,_⟩:=hW;have hA:DataW.TrodAll enc Tryz.prog W 0 (fun _=>true) true Tryz.f9.params.toList args.toList ds p:=I;rw[Tryz.params9]at hA m;obtain⟨v0,v1,d0,d1,Y,Z,rfl,rfl,rfl,h0,h1⟩:=trodAll_two hA;obtain⟨rfl,rfl⟩:=trodVars_none hV;obtain⟨w0,u0n,u0c,rfl⟩:=okWide_slice Yq (m 0 22 v0 rfl rfl);have h0k:=h0;obtain⟨fuel0,hf0⟩:=h0;obtain⟨S,J,hc0⟩:=(PI (sz:=29) Yq A8 Bd (fun _=>rfl) (aO6 enc W _ _ _)) _ _ _ hf0;have hr0:=aKC (x:=(Au Ak) S) rfl rfl hc0;obtain⟨w1,rfl⟩:=okWide_int FB (m 1 3 v1 rfl rfl);have h1k:=h1;obtain⟨fuel1,hf1⟩:=h1;obtain⟨U,L,hc1⟩:=(FX FB) _ _ _ hf1;have hr1:=aKC (x:=AZ U) rfl rfl hc1;clear I f;simp only[Pm]at n;have M:∀x∈Y,x.block<W.heap.size:=fun x hx=>by simpa using n.lt x (by simp[hx])
 have s:∀(W':World),Below W.heap.size W W'→DataW.Trod enc Tryz.prog W' 0 (fun b=>decide (b<W.heap.size)) true 22 (.slice w0 u0n u0c) d0 Y:=
  fun W' z=>Below.trod Tryz.Hw A8 (VZ A8) h0k z M
 have O:∀x∈Z,x.block<W.heap.size:=fun x hx=>by simpa using n.lt x (by simp[hx])
 have u:∀(W':World),Below W.heap.size W W'→DataW.Trod enc Tryz.prog W' 0 (fun b=>decide (b<W.heap.size)) true 3 (.int .i64 w1) d1 Z:=
  fun W' z=>Below.trod Tryz.Hw A8 (VZ A8) h1k z O
 refine(Ap.law (xs:=[(Au Ak) S,AZ U]) (W:=W) (aml S U true (alZ S U J L)) rfl (fun i hi=>?_)).mono fun e W' he=>?_
 ·match i,hi with
  |0,_=>exact hr0
  |1,_=>exact hr1
 obtain⟨rfl,z⟩:=he;exact⟨_,rfl,_,_,_,[],(Y++Z),[],n,trodAll_mk1 (shut_bool Qr _),trodAll_mk2 (s W' z) (u W' z),rfl,z.frame _,fun h=>I4⟩
def Tryz.aeT:mapsRowed Tryz.prog=true:=A8
def Tryz.aha:Tryz.prog.inPlace 9=["slices.overlaps[fedchat/api.Event]", "internal/bytealg.IndexByteString", "internal/bytealg.IndexString"]:=A8
def Tryz.Nu:Tryz.prog.unfollowed 9=true:=A8
def Tryz.ags:Tryz.prog.recurses 9=true:=by unfold Program.recurses;rw[Tryz.Nu];rfl
def Tryz.aj3:Tryz.prog.varsNamed 9=["internal/bytealg.MaxLen"]:=A8
def Tryz.aeU:(Rows.replayStatesRow.plainKeys==Tryz.prog.plainKeys)=true:=A8
def Tryz.adA:Tryz.prog.stopsHeard=true:=A8
def Tryz.agt:Tryz.prog.mayEnter=true:=A8
def Tryz.ajf:(Rows.replayStatesRow.lifted==Tryz.prog.liftsFinal)=true:=A8
def Tryz.al0:(Tryz.prog.make==some Rows.replayStatesRow.make)=true:=A8
def Tryz.ajg:joinedFacts Tryz.prog 9 Tryz.f9 Rows.replayStatesSpec Rows.replayStatesRow=true:=by
 unfold joinedFacts;rw[Tryz.Hw,Tryz.aeT,Tryz.aha,Tryz.Nu,Tryz.ags,Tryz.aj3,Tryz.aeU,Tryz.adA,Tryz.agt,Tryz.ajf,Tryz.al0];kernel_rfl
theorem replayStates_holds :Rows.ReplayStatesSaid:=
 OpenClaim.holds_of_wide 9 Tryz.f9 rfl rfl rfl rfl rfl rfl rfl ⟨rfl,rfl,rfl,rfl,rfl⟩ rfl rfl rfl rfl rfl A8 Tryz.func9 Tryz.ajg
  (VZ A8) aQx
  (fun os f H enc _=>alL os f H enc)
end Go.Proofs.YtolgdkhlelfpoaaGreat
end
