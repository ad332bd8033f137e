/- The law RedactStable holds (short forms written by wip/shrink.py; no condition). -/
import Derived.Test.YtldfpencimjjlaaGreatRu7
set_option linter.defProp false
set_option linter.unnecessarySimpa false
set_option linter.unusedVariables false
set_option linter.unusedSimpArgs false
section
namespace Go.Proofs.YtldfpencimjjlaaGreat
open Go.RowKit
def Yk (x:Ht):Prop:=x.User.size≤maxLen∧(IntKind.i64.min≤x.N∧x.N≤IntKind.i64.max)
set_option maxRecDepth 20000 in
def tY {H:Type} (enc:TypeId×Value→H) (w:World) (base:Nat) (spare:Nat→Bool) (held:Bool):JH enc Tryz.prog w base spare held 68 FC Yk:=by
 intro Af cs x h;have hl:=MQ Ve h 2 A8;obtain⟨a0,j,m⟩:=CU Ve h 0 9 0 1 A8 (Iu H9);obtain⟨q,u,z⟩:=CU Ve h 1 3 1 1 A8 (EK EF);exact⟨⟨a0,q⟩,⟨j,u⟩,NC [1,1] Me (Bf.append m (Bf.append z (Bf.nil w)))⟩
def XG (x:Ii):Prop:=(IntKind.i64.min≤x.Kind∧x.Kind≤IntKind.i64.max)∧(IntKind.i64.min≤x.N∧x.N≤IntKind.i64.max)
set_option maxRecDepth 20000 in
def oz {H:Type} (enc:TypeId×Value→H) (w:World) (base:Nat) (spare:Nat→Bool) (held:Bool):JH enc Tryz.prog w base spare held 97 FP XG:=by
 intro Af cs x h;have hl:=MQ Vf h 2 A8;obtain⟨a0,j,m⟩:=CU Vf h 0 23 0 1 A8 (EK iQ);obtain⟨q,u,z⟩:=CU Vf h 1 3 1 1 A8 (EK EF);exact⟨⟨a0,q⟩,⟨j,u⟩,NC [1,1] Me (Bf.append m (Bf.append z (Bf.nil w)))⟩
def Yx (x:Bd):Prop:=(x.Users.length≤maxLen∧∀j∈x.Users,Yk j)∧(x.Kinds.length≤maxLen∧∀m∈x.Kinds,XG m)∧(IntKind.i64.min≤x.User∧x.User≤IntKind.i64.max)∧(IntKind.i64.min≤x.Message∧x.Message≤IntKind.i64.max)∧(IntKind.i64.min≤x.State∧x.State≤IntKind.i64.max)∧(IntKind.i64.min≤x.fQ∧x.fQ≤IntKind.i64.max)∧(IntKind.i64.min≤x.jK∧x.jK≤IntKind.i64.max)∧(IntKind.i64.min≤x.mY∧x.mY≤IntKind.i64.max)∧(IntKind.i64.min≤x.fC∧x.fC≤IntKind.i64.max)
set_option maxRecDepth 20000 in
def sI {H:Type} (enc:TypeId×Value→H) (w:World) (base:Nat) (spare:Nat→Bool) (held:Bool):JH enc Tryz.prog w base spare held 29 Fr Yx:=by
 intro Af cs x h;have hl:=MQ II h 9 A8;obtain⟨a0,j,m⟩:=CU II h 0 26 0 1 A8 (KO (sz:=2) Tryz.underlying26 A8 BJ (fun _=>rfl) (tY enc w base spare held));obtain⟨q,u,z⟩:=CU II h 1 27 1 1 A8 (KO (sz:=2) Tryz.underlying27 A8 BJ (fun _=>rfl) (oz enc w base spare held));obtain⟨I,J,L⟩:=CU II h 2 3 2 1 A8 (EK EF);obtain⟨M,O,U⟩:=CU II h 3 3 3 1 A8 (EK EF);obtain⟨Y,Z,h4⟩:=CU II h 4 3 4 1 A8 (EK EF);obtain⟨a5,v5,h5⟩:=CU II h 5 3 5 1 A8 (EK EF);obtain⟨a6,v6,h6⟩:=CU II h 6 3 6 1 A8 (EK EF);obtain⟨a7,v7,h7⟩:=CU II h 7 3 7 1 A8 (EK EF);obtain⟨a8,v8,h8⟩:=CU II h 8 3 8 1 A8 (EK EF);exact⟨⟨a0,q,I,M,Y,a5,a6,a7,a8⟩,⟨j,u,J,O,Z,v5,v6,v7,v8⟩,NC [1,1,1,1,1,1,1,1,1] Me (Bf.append m (Bf.append z (Bf.append L (Bf.append U (Bf.append h4 (Bf.append h5 (Bf.append h6 (Bf.append h7 (Bf.append h8 (Bf.nil w))))))))))⟩
def Xk (x:Bj):Prop:=x.Text.size≤maxLen∧(IntKind.i64.min≤x.N∧x.N≤IntKind.i64.max)∧(IntKind.i64.min≤x.Target∧x.Target≤IntKind.i64.max)∧True∧x.Via.size≤maxLen∧(x.Allow.length≤maxLen∧∀j∈x.Allow,j.size≤maxLen)∧(x.gy.length≤maxLen∧∀m∈x.gy,m.size≤maxLen)∧Yx x.Levels
set_option maxRecDepth 20000 in
def pF {H:Type} (enc:TypeId×Value→H) (w:World) (base:Nat) (spare:Nat→Bool) (held:Bool):JH enc Tryz.prog w base spare held 31 Fh Xk:=by
 intro Af cs x h;have hl:=MQ Ik h 16 A8;obtain⟨a0,j,m⟩:=CU Ik h 0 9 0 1 A8 (Iu H9);obtain⟨q,u,z⟩:=CU Ik h 1 3 1 1 A8 (EK EF);obtain⟨I,J,L⟩:=CU Ik h 2 3 2 1 A8 (EK EF);obtain⟨M,O,U⟩:=CU Ik h 3 4 3 1 A8 (fO Ou);obtain⟨Y,Z,h4⟩:=CU Ik h 4 9 4 1 A8 (Iu H9);obtain⟨a5,v5,h5⟩:=CU Ik h 5 25 5 1 A8 (KO (sz:=1) jA A8 BJ (fun _=>rfl) (Iu H9));obtain⟨a6,v6,h6⟩:=CU Ik h 6 25 6 1 A8 (KO (sz:=1) jA A8 BJ (fun _=>rfl) (Iu H9));obtain⟨a7,v7,h7⟩:=CU Ik h 7 29 7 9 A8 (sI enc w base spare held);exact⟨⟨a0,q,I,M,Y,a5,a6,a7⟩,⟨j,u,J,O,Z,v5,v6,v7⟩,NC [1,1,1,1,1,1,1,9] Me (Bf.append m (Bf.append z (Bf.append L (Bf.append U (Bf.append h4 (Bf.append h5 (Bf.append h6 (Bf.append h7 (Bf.nil w)))))))))⟩
def Y7 (x:NT):Prop:=x.Server.size≤maxLen∧(IntKind.i64.min≤x.Sum∧x.Sum≤IntKind.i64.max)
set_option maxRecDepth 20000 in
def wK {H:Type} (enc:TypeId×Value→H) (w:World) (base:Nat) (spare:Nat→Bool) (held:Bool):JH enc Tryz.prog w base spare held 33 aKt Y7:=by
 intro Af cs x h;have hl:=MQ X3 h 2 A8;obtain⟨a0,j,m⟩:=CU X3 h 0 9 0 1 A8 (Iu H9);obtain⟨q,u,z⟩:=CU X3 h 1 3 1 1 A8 (EK EF);exact⟨⟨a0,q⟩,⟨j,u⟩,NC [1,1] Me (Bf.append m (Bf.append z (Bf.nil w)))⟩
def qI (x:AB):Prop:=(IntKind.i64.min≤x.Id∧x.Id≤IntKind.i64.max)∧x.Room.size≤maxLen∧x.aP.size≤maxLen∧(IntKind.i64.min≤x.Kind∧x.Kind≤IntKind.i64.max)∧True∧x.Key.size≤maxLen∧(IntKind.i64.min≤x.Time∧x.Time≤IntKind.i64.max)∧(IntKind.i64.min≤x.Depth∧x.Depth≤IntKind.i64.max)∧(x.bC.length≤maxLen∧∀j∈x.bC,(IntKind.i64.min≤j∧j≤IntKind.i64.max))∧(x.bD.length≤maxLen∧∀m∈x.bD,(IntKind.i64.min≤m∧m≤IntKind.i64.max))∧Xk x.Content∧(IntKind.i64.min≤x.Hash∧x.Hash≤IntKind.i64.max)∧Y7 x.qc
set_option maxRecDepth 20000 in
def uQ {H:Type} (enc:TypeId×Value→H) (w:World) (base:Nat) (spare:Nat→Bool) (held:Bool):JH enc Tryz.prog w base spare held 35 BA qI:=by
 intro Af cs x h;have hl:=MQ FX h 29 A8;obtain⟨a0,O,U⟩:=CU FX h 0 3 0 1 A8 (EK EF);obtain⟨Y,Z,h1⟩:=CU FX h 1 9 1 1 A8 (Iu H9);obtain⟨a2,v2,h2⟩:=CU FX h 2 9 2 1 A8 (Iu H9);obtain⟨a3,v3,h3⟩:=CU FX h 3 23 3 1 A8 (EK iQ);obtain⟨a4,v4,h4⟩:=CU FX h 4 4 4 1 A8 (fO Ou);obtain⟨a5,v5,h5⟩:=CU FX h 5 9 5 1 A8 (Iu H9);obtain⟨a6,v6,h6⟩:=CU FX h 6 3 6 1 A8 (EK EF);obtain⟨a7,v7,h7⟩:=CU FX h 7 3 7 1 A8 (EK EF);obtain⟨a8,v8,h8⟩:=CU FX h 8 24 8 1 A8 (KO (sz:=1) Z5 A8 BJ (fun _=>rfl) (EK EF));obtain⟨a9,v9,h9⟩:=CU FX h 9 24 9 1 A8 (KO (sz:=1) Z5 A8 BJ (fun _=>rfl) (EK EF));obtain⟨j,m,q⟩:=CU FX h 10 31 10 16 A8 (pF enc w base spare held);obtain⟨u,z,I⟩:=CU FX h 11 3 26 1 A8 (EK EF);obtain⟨J,L,M⟩:=CU FX h 12 33 27 2 A8 (wK enc w base spare held);exact⟨⟨a0,Y,a2,a3,a4,a5,a6,a7,a8,a9,j,u,J⟩,⟨O,Z,v2,v3,v4,v5,v6,v7,v8,v9,m,z,L⟩,NC [1,1,1,1,1,1,1,1,1,1,16,1,2] Me (Bf.append U (Bf.append h1 (Bf.append h2 (Bf.append h3 (Bf.append h4 (Bf.append h5 (Bf.append h6 (Bf.append h7 (Bf.append h8 (Bf.append h9 (Bf.append q (Bf.append I (Bf.append M (Bf.nil w))))))))))))))⟩
end Go.Proofs.YtldfpencimjjlaaGreat
end
section
namespace Go.Proofs.YtldfpencimjjlaaGreat
open Go.ChangeShapes Go.WideShapes Go.ChangeAt Go.RowKit
def Tryz.aop:ownKnob Tryz.prog.godebug=none:=A8
def Tryz.S9:laidOutB Tryz.prog=true:=A8
set_option maxHeartbeats 1600000 in
set_option maxRecDepth 100000 in
def asl (os:Os) (started:os.Started) (H:Type) (enc:TypeId×Value→H):
 ReturnsInHanded {} Tryz.checked os 8 .any (Rows.redactStableSpec.pre6 enc Tryz.prog Tryz.f8 Rows.redactStableRow.domain false) (Rows.redactStableSpec.post enc Tryz.prog Tryz.f8 false true false false):=by
 refine aN4 (C:=Tryz.checked) Tryz.aop started A8 Tryz.func8
  (aNH (enc:=enc) (C:=Tryz.checked) false ⟨#[], #[.slice none 0 0],[]⟩ 8 A8 A8 A8 A8) ?_
 intro W base args ds gs before m hW _ _;have z:∀(j:Nat) t v,Tryz.f8.params[j]? =some t→args[j]? =some v→Value.okWide Tryz.prog W .any base t v:=m;have I:=hW;obtain⟨p,q,J,hV,rfl,_,_⟩:=hW;have hA:DataW.TrodAll enc Tryz.prog W 0 (fun _=>true) true Tryz.f8.params.toList args.toList ds p:=J;rw[Tryz.params8]at hA z;obtain⟨v0,d0,rfl,rfl,h0⟩:=trodAll_one hA;obtain⟨rfl,rfl⟩:=trodVars_none hV;obtain⟨w0,U,Y,rfl⟩:=okWide_slice X4 (z 0 22 v0 rfl rfl);have Z:=h0;obtain⟨fuel0,hf0⟩:=h0;obtain⟨M,hok0,hc0⟩:=(KO (sz:=29) X4 A8 BJ (fun _=>rfl) (uQ enc W _ _ _)) _ _ _ hf0;have hr0:=aB6 (x:=(BF BA) M) rfl rfl hc0;clear J m;simp only[P6]at I;have L:∀x∈p,x.block<W.heap.size:=fun x hx=>by simpa using I.lt x (by simp[hx])
 have u:∀(W':World),Below W.heap.size W W'→DataW.Trod enc Tryz.prog W' 0 (fun b=>decide (b<W.heap.size)) true 22 (.slice w0 U Y) d0 p:=
  fun W' O=>Below.trod Tryz.S9 A8 (QE A8) Z O L
 refine(Am.law (xs:=[(BF BA) M]) (W:=W) (ajr M true (ar2 M)) rfl (fun i hi=>?_)).mono fun e W' he=>?_
 ·match i,hi with
  |0,_=>exact hr0
 obtain⟨rfl,O⟩:=he;exact⟨_,rfl,_,_,_,[],p,[],I,trodAll_mk1 (shut_bool Ou _),trodAll_mk1 (u W' O),rfl,O.frame _,fun h=>GL⟩
def Tryz.aeL:mapsRowed Tryz.prog=true:=A8
def Tryz.ahf:Tryz.prog.inPlace 8=["slices.overlaps[fedchat/api.Event]", "internal/bytealg.IndexByteString", "internal/bytealg.IndexString"]:=A8
def Tryz.NV:Tryz.prog.unfollowed 8=true:=A8
def Tryz.agu:Tryz.prog.recurses 8=true:=by unfold Program.recurses;rw[Tryz.NV];rfl
def Tryz.akt:Tryz.prog.varsNamed 8=["internal/bytealg.MaxLen"]:=A8
def Tryz.aeM:(Rows.redactStableRow.plainKeys==Tryz.prog.plainKeys)=true:=A8
def Tryz.adA:Tryz.prog.stopsHeard=true:=A8
def Tryz.agv:Tryz.prog.mayEnter=true:=A8
def Tryz.ajz:(Rows.redactStableRow.lifted==Tryz.prog.liftsFinal)=true:=A8
def Tryz.amI:(Tryz.prog.make==some Rows.redactStableRow.make)=true:=A8
def Tryz.ajA:joinedFacts Tryz.prog 8 Tryz.f8 Rows.redactStableSpec Rows.redactStableRow=true:=by
 unfold joinedFacts;rw[Tryz.S9,Tryz.aeL,Tryz.ahf,Tryz.NV,Tryz.agu,Tryz.akt,Tryz.aeM,Tryz.adA,Tryz.agv,Tryz.ajz,Tryz.amI];kernel_rfl
theorem redactStable_holds :Rows.RedactStableSaid:=
 aOE 8 Tryz.f8 rfl rfl rfl rfl rfl rfl rfl ⟨rfl,rfl,rfl,rfl,rfl⟩ rfl rfl rfl rfl rfl A8 Tryz.func8 Tryz.ajA
  (QE A8) aM2
  (fun os j H enc _=>asl os j H enc)
end Go.Proofs.YtldfpencimjjlaaGreat
end
