/- The law RedactApplies holds (short forms written by wip/shrink.py; no condition). -/
import Derived.Test.YtldfpencimjjlaaGreatRr7
set_option linter.defProp false
set_option linter.unnecessarySimpa false
set_option linter.unusedVariables false
set_option linter.unusedSimpArgs false
section
namespace Go.Proofs.YtldfpencimjjlaaGreat
open Go.RowKit
def Yo (x:H6):Prop:=x.User.size≤maxLen∧(IntKind.i64.min≤x.N∧x.N≤IntKind.i64.max)
set_option maxRecDepth 20000 in
def qy {H:Type} (enc:TypeId×Value→H) (w:World) (base:Nat) (spare:Nat→Bool) (held:Bool):Je enc Tryz.prog w base spare held 68 EK Yo:=by
 intro Aj cs x h;have hl:=NG XL h 2 AA;obtain⟨a0,j,m⟩:=D8 XL h 0 9 0 1 AA (Il Hq);obtain⟨q,u,z⟩:=D8 XL h 1 3 1 1 AA (ES EM);exact⟨⟨a0,q⟩,⟨j,u⟩,NW [1,1] N9 (CG.append m (CG.append z (CG.nil w)))⟩
def Yk (x:Ir):Prop:=(IntKind.i64.min≤x.Kind∧x.Kind≤IntKind.i64.max)∧(IntKind.i64.min≤x.N∧x.N≤IntKind.i64.max)
set_option maxRecDepth 20000 in
def qh {H:Type} (enc:TypeId×Value→H) (w:World) (base:Nat) (spare:Nat→Bool) (held:Bool):Je enc Tryz.prog w base spare held 97 ER Yk:=by
 intro Aj cs x h;have hl:=NG WW h 2 AA;obtain⟨a0,j,m⟩:=D8 WW h 0 23 0 1 AA (ES gX);obtain⟨q,u,z⟩:=D8 WW h 1 3 1 1 AA (ES EM);exact⟨⟨a0,q⟩,⟨j,u⟩,NW [1,1] N9 (CG.append m (CG.append z (CG.nil w)))⟩
def Y4 (x:CB):Prop:=(x.Users.length≤maxLen∧∀j∈x.Users,Yo j)∧(x.Kinds.length≤maxLen∧∀m∈x.Kinds,Yk m)∧(IntKind.i64.min≤x.User∧x.User≤IntKind.i64.max)∧(IntKind.i64.min≤x.Message∧x.Message≤IntKind.i64.max)∧(IntKind.i64.min≤x.State∧x.State≤IntKind.i64.max)∧(IntKind.i64.min≤x.gW∧x.gW≤IntKind.i64.max)∧(IntKind.i64.min≤x.jL∧x.jL≤IntKind.i64.max)∧(IntKind.i64.min≤x.mO∧x.mO≤IntKind.i64.max)∧(IntKind.i64.min≤x.gy∧x.gy≤IntKind.i64.max)
set_option maxRecDepth 20000 in
def uh {H:Type} (enc:TypeId×Value→H) (w:World) (base:Nat) (spare:Nat→Bool) (held:Bool):Je enc Tryz.prog w base spare held 29 EZ Y4:=by
 intro Aj cs x h;have hl:=NG IL h 9 AA;obtain⟨a0,j,m⟩:=D8 IL h 0 26 0 1 AA (L6 (sz:=2) Tryz.underlying26 AA BU (fun _=>rfl) (qy enc w base spare held));obtain⟨q,u,z⟩:=D8 IL h 1 27 1 1 AA (L6 (sz:=2) Tryz.underlying27 AA BU (fun _=>rfl) (qh enc w base spare held));obtain⟨I,J,L⟩:=D8 IL h 2 3 2 1 AA (ES EM);obtain⟨M,O,U⟩:=D8 IL h 3 3 3 1 AA (ES EM);obtain⟨Y,Z,h4⟩:=D8 IL h 4 3 4 1 AA (ES EM);obtain⟨a5,v5,h5⟩:=D8 IL h 5 3 5 1 AA (ES EM);obtain⟨a6,v6,h6⟩:=D8 IL h 6 3 6 1 AA (ES EM);obtain⟨a7,v7,h7⟩:=D8 IL h 7 3 7 1 AA (ES EM);obtain⟨a8,v8,h8⟩:=D8 IL h 8 3 8 1 AA (ES EM);exact⟨⟨a0,q,I,M,Y,a5,a6,a7,a8⟩,⟨j,u,J,O,Z,v5,v6,v7,v8⟩,NW [1,1,1,1,1,1,1,1,1] N9 (CG.append m (CG.append z (CG.append L (CG.append U (CG.append h4 (CG.append h5 (CG.append h6 (CG.append h7 (CG.append h8 (CG.nil w))))))))))⟩
def Ye (x:CW):Prop:=x.Text.size≤maxLen∧(IntKind.i64.min≤x.N∧x.N≤IntKind.i64.max)∧(IntKind.i64.min≤x.Target∧x.Target≤IntKind.i64.max)∧True∧x.Via.size≤maxLen∧(x.Allow.length≤maxLen∧∀j∈x.Allow,j.size≤maxLen)∧(x.gY.length≤maxLen∧∀m∈x.gY,m.size≤maxLen)∧Y4 x.Levels
set_option maxRecDepth 20000 in
def sK {H:Type} (enc:TypeId×Value→H) (w:World) (base:Nat) (spare:Nat→Bool) (held:Bool):Je enc Tryz.prog w base spare held 31 F7 Ye:=by
 intro Aj cs x h;have hl:=NG Ik h 16 AA;obtain⟨a0,j,m⟩:=D8 Ik h 0 9 0 1 AA (Il Hq);obtain⟨q,u,z⟩:=D8 Ik h 1 3 1 1 AA (ES EM);obtain⟨I,J,L⟩:=D8 Ik h 2 3 2 1 AA (ES EM);obtain⟨M,O,U⟩:=D8 Ik h 3 4 3 1 AA (jK Ot);obtain⟨Y,Z,h4⟩:=D8 Ik h 4 9 4 1 AA (Il Hq);obtain⟨a5,v5,h5⟩:=D8 Ik h 5 25 5 1 AA (L6 (sz:=1) jH AA BU (fun _=>rfl) (Il Hq));obtain⟨a6,v6,h6⟩:=D8 Ik h 6 25 6 1 AA (L6 (sz:=1) jH AA BU (fun _=>rfl) (Il Hq));obtain⟨a7,v7,h7⟩:=D8 Ik h 7 29 7 9 AA (uh enc w base spare held);exact⟨⟨a0,q,I,M,Y,a5,a6,a7⟩,⟨j,u,J,O,Z,v5,v6,v7⟩,NW [1,1,1,1,1,1,1,9] N9 (CG.append m (CG.append z (CG.append L (CG.append U (CG.append h4 (CG.append h5 (CG.append h6 (CG.append h7 (CG.nil w)))))))))⟩
def YA (x:Ny):Prop:=x.Server.size≤maxLen∧(IntKind.i64.min≤x.Sum∧x.Sum≤IntKind.i64.max)
set_option maxRecDepth 20000 in
def xP {H:Type} (enc:TypeId×Value→H) (w:World) (base:Nat) (spare:Nat→Bool) (held:Bool):Je enc Tryz.prog w base spare held 33 aIL YA:=by
 intro Aj cs x h;have hl:=NG WO h 2 AA;obtain⟨a0,j,m⟩:=D8 WO h 0 9 0 1 AA (Il Hq);obtain⟨q,u,z⟩:=D8 WO h 1 3 1 1 AA (ES EM);exact⟨⟨a0,q⟩,⟨j,u⟩,NW [1,1] N9 (CG.append m (CG.append z (CG.nil w)))⟩
def zX (x:AQ):Prop:=(IntKind.i64.min≤x.Id∧x.Id≤IntKind.i64.max)∧x.Room.size≤maxLen∧x.aY.size≤maxLen∧(IntKind.i64.min≤x.Kind∧x.Kind≤IntKind.i64.max)∧True∧x.Key.size≤maxLen∧(IntKind.i64.min≤x.Time∧x.Time≤IntKind.i64.max)∧(IntKind.i64.min≤x.Depth∧x.Depth≤IntKind.i64.max)∧(x.bM.length≤maxLen∧∀j∈x.bM,(IntKind.i64.min≤j∧j≤IntKind.i64.max))∧(x.bK.length≤maxLen∧∀m∈x.bK,(IntKind.i64.min≤m∧m≤IntKind.i64.max))∧Ye x.Content∧(IntKind.i64.min≤x.Hash∧x.Hash≤IntKind.i64.max)∧YA x.pz
set_option maxRecDepth 20000 in
def iG {H:Type} (enc:TypeId×Value→H) (w:World) (base:Nat) (spare:Nat→Bool) (held:Bool):Je enc Tryz.prog w base spare held 35 BD zX:=by
 intro Aj cs x h;have hl:=NG Fh h 29 AA;obtain⟨a0,O,U⟩:=D8 Fh h 0 3 0 1 AA (ES EM);obtain⟨Y,Z,h1⟩:=D8 Fh h 1 9 1 1 AA (Il Hq);obtain⟨a2,v2,h2⟩:=D8 Fh h 2 9 2 1 AA (Il Hq);obtain⟨a3,v3,h3⟩:=D8 Fh h 3 23 3 1 AA (ES gX);obtain⟨a4,v4,h4⟩:=D8 Fh h 4 4 4 1 AA (jK Ot);obtain⟨a5,v5,h5⟩:=D8 Fh h 5 9 5 1 AA (Il Hq);obtain⟨a6,v6,h6⟩:=D8 Fh h 6 3 6 1 AA (ES EM);obtain⟨a7,v7,h7⟩:=D8 Fh h 7 3 7 1 AA (ES EM);obtain⟨a8,v8,h8⟩:=D8 Fh h 8 24 8 1 AA (L6 (sz:=1) Xr AA BU (fun _=>rfl) (ES EM));obtain⟨a9,v9,h9⟩:=D8 Fh h 9 24 9 1 AA (L6 (sz:=1) Xr AA BU (fun _=>rfl) (ES EM));obtain⟨j,m,q⟩:=D8 Fh h 10 31 10 16 AA (sK enc w base spare held);obtain⟨u,z,I⟩:=D8 Fh h 11 3 26 1 AA (ES EM);obtain⟨J,L,M⟩:=D8 Fh h 12 33 27 2 AA (xP enc w base spare held);exact⟨⟨a0,Y,a2,a3,a4,a5,a6,a7,a8,a9,j,u,J⟩,⟨O,Z,v2,v3,v4,v5,v6,v7,v8,v9,m,z,L⟩,NW [1,1,1,1,1,1,1,1,1,1,16,1,2] N9 (CG.append U (CG.append h1 (CG.append h2 (CG.append h3 (CG.append h4 (CG.append h5 (CG.append h6 (CG.append h7 (CG.append h8 (CG.append h9 (CG.append q (CG.append I (CG.append M (CG.nil w))))))))))))))⟩
end Go.Proofs.YtldfpencimjjlaaGreat
end
section
namespace Go.Proofs.YtldfpencimjjlaaGreat
open Go.ChangeShapes Go.WideShapes Go.ChangeAt Go.RowKit
def Tryz.am7:ownKnob Tryz.prog.godebug=none:=AA
def Tryz.SQ:laidOutB Tryz.prog=true:=AA
set_option maxHeartbeats 1600000 in
set_option maxRecDepth 100000 in
def akx (os:Os) (started:os.Started) (H:Type) (enc:TypeId×Value→H):
 ReturnsInHanded {} Tryz.checked os 5 .any (Rows.redactAppliesSpec.pre6 enc Tryz.prog Tryz.f5 Rows.redactAppliesRow.domain false) (Rows.redactAppliesSpec.post enc Tryz.prog Tryz.f5 false true false false):=by
 refine aO2 (C:=Tryz.checked) Tryz.am7 started AA Tryz.func5
  (aPY (enc:=enc) (C:=Tryz.checked) false ⟨#[], #[.slice none 0 0],[]⟩ 8 AA AA AA AA) ?_
 intro W base args ds gs before m hW _ _;have z:∀(j:Nat) t v,Tryz.f5.params[j]? =some t→args[j]? =some v→Value.okWide Tryz.prog W .any base t v:=m;have I:=hW;obtain⟨p,q,J,hV,rfl,_,_⟩:=hW;have hA:DataW.TrodAll enc Tryz.prog W 0 (fun _=>true) true Tryz.f5.params.toList args.toList ds p:=J;rw[Tryz.params5]at hA z;obtain⟨v0,d0,rfl,rfl,h0⟩:=trodAll_one hA;obtain⟨rfl,rfl⟩:=trodVars_none hV;obtain⟨w0,U,Y,rfl⟩:=okWide_slice WU (z 0 22 v0 rfl rfl);have Z:=h0;obtain⟨fuel0,hf0⟩:=h0;obtain⟨M,hok0,hc0⟩:=(L6 (sz:=29) WU AA BU (fun _=>rfl) (iG enc W _ _ _)) _ _ _ hf0;have hr0:=aHb (x:=(BQ BD) M) rfl rfl hc0;clear J m;simp only[PS]at I;have L:∀x∈p,x.block<W.heap.size:=fun x hx=>by simpa using I.lt x ahi
 have u:∀(W':World),Below W.heap.size W W'→DataW.Trod enc Tryz.prog W' 0 (fun b=>decide (b<W.heap.size)) true 22 (.slice w0 U Y) d0 p:=
  fun W' O=>Below.trod Tryz.SQ AA (Rh AA) Z O L
 refine(Ah.law (xs:=[(BQ BD) M]) (W:=W) (asv M true (aku M)) rfl (fun i hi=>?_)).mono fun e W' he=>?_
 ·match i,hi with
  |0,_=>exact hr0
 obtain⟨rfl,O⟩:=he;exact⟨_,rfl,_,_,_,[],p,[],I,trodAll_mk1 (shut_bool Ot _),trodAll_mk1 (u W' O),rfl,O.frame _,fun h=>Gh⟩
def Tryz.aem:mapsRowed Tryz.prog=true:=AA
def Tryz.ag9:Tryz.prog.inPlace 5=["slices.overlaps[fedchat/api.Event]", "internal/bytealg.IndexByteString", "internal/bytealg.IndexString"]:=AA
def Tryz.MB:Tryz.prog.unfollowed 5=true:=AA
def Tryz.aft:Tryz.prog.recurses 5=true:=by unfold Program.recurses;rw[Tryz.MB];rfl
def Tryz.ake:Tryz.prog.varsNamed 5=["internal/bytealg.MaxLen"]:=AA
def Tryz.aen:(Rows.redactAppliesRow.plainKeys==Tryz.prog.plainKeys)=true:=AA
def Tryz.abB:Tryz.prog.stopsHeard=true:=AA
def Tryz.afu:Tryz.prog.mayEnter=true:=AA
def Tryz.ahT:(Rows.redactAppliesRow.lifted==Tryz.prog.liftsFinal)=true:=AA
def Tryz.ak2:(Tryz.prog.make==some Rows.redactAppliesRow.make)=true:=AA
def Tryz.ahU:joinedFacts Tryz.prog 5 Tryz.f5 Rows.redactAppliesSpec Rows.redactAppliesRow=true:=by
 unfold joinedFacts;rw[Tryz.SQ,Tryz.aem,Tryz.ag9,Tryz.MB,Tryz.aft,Tryz.ake,Tryz.aen,Tryz.abB,Tryz.afu,Tryz.ahT,Tryz.ak2];kernel_rfl
theorem redactApplies_holds :Rows.RedactAppliesSaid:=
 aKY 5 Tryz.f5 rfl rfl rfl rfl rfl rfl rfl ⟨rfl,rfl,rfl,rfl,rfl⟩ rfl rfl rfl rfl rfl AA Tryz.func5 Tryz.ahU
  (Rh AA) aL2
  (fun os j H enc _=>akx os j H enc)
end Go.Proofs.YtldfpencimjjlaaGreat
end
