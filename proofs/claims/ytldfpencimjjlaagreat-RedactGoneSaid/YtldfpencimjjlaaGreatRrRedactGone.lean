/- The law RedactGone holds (short forms written by wip/shrink.py; no condition). -/
import Derived.Test.YtldfpencimjjlaaGreatRr7
set_option linter.defProp false
set_option linter.unnecessarySimpa false
set_option linter.unusedVariables false
set_option linter.unusedSimpArgs false
section
namespace Go.Proofs.YtldfpencimjjlaaGreat
open Go.RowKit
def Yo (x:H6):Prop:=x.User.size≤maxLen∧(IntKind.i64.min≤x.N∧x.N≤IntKind.i64.max)
set_option maxRecDepth 20000 in
def qy {H:Type} (enc:TypeId×Value→H) (w:World) (base:Nat) (spare:Nat→Bool) (held:Bool):Je enc Tryz.prog w base spare held 68 EK Yo:=by
 intro Aj cs x h;have hl:=NG XL h 2 AA;obtain⟨a0,j,m⟩:=D8 XL h 0 9 0 1 AA (Il Hq);obtain⟨q,u,z⟩:=D8 XL h 1 3 1 1 AA (ES EM);exact⟨⟨a0,q⟩,⟨j,u⟩,NW [1,1] N9 (CG.append m (CG.append z (CG.nil w)))⟩
def Yk (x:Ir):Prop:=(IntKind.i64.min≤x.Kind∧x.Kind≤IntKind.i64.max)∧(IntKind.i64.min≤x.N∧x.N≤IntKind.i64.max)
set_option maxRecDepth 20000 in
def qh {H:Type} (enc:TypeId×Value→H) (w:World) (base:Nat) (spare:Nat→Bool) (held:Bool):Je enc Tryz.prog w base spare held 97 ER Yk:=by
 intro Aj cs x h;have hl:=NG WW h 2 AA;obtain⟨a0,j,m⟩:=D8 WW h 0 23 0 1 AA (ES gX);obtain⟨q,u,z⟩:=D8 WW h 1 3 1 1 AA (ES EM);exact⟨⟨a0,q⟩,⟨j,u⟩,NW [1,1] N9 (CG.append m (CG.append z (CG.nil w)))⟩
def Y4 (x:CB):Prop:=(x.Users.length≤maxLen∧∀j∈x.Users,Yo j)∧(x.Kinds.length≤maxLen∧∀m∈x.Kinds,Yk m)∧(IntKind.i64.min≤x.User∧x.User≤IntKind.i64.max)∧(IntKind.i64.min≤x.Message∧x.Message≤IntKind.i64.max)∧(IntKind.i64.min≤x.State∧x.State≤IntKind.i64.max)∧(IntKind.i64.min≤x.gW∧x.gW≤IntKind.i64.max)∧(IntKind.i64.min≤x.jL∧x.jL≤IntKind.i64.max)∧(IntKind.i64.min≤x.mO∧x.mO≤IntKind.i64.max)∧(IntKind.i64.min≤x.gy∧x.gy≤IntKind.i64.max)
set_option maxRecDepth 20000 in
def uh {H:Type} (enc:TypeId×Value→H) (w:World) (base:Nat) (spare:Nat→Bool) (held:Bool):Je enc Tryz.prog w base spare held 29 EZ Y4:=by
 intro Aj cs x h;have hl:=NG IL h 9 AA;obtain⟨a0,j,m⟩:=D8 IL h 0 26 0 1 AA (L6 (sz:=2) Tryz.underlying26 AA BU (fun _=>rfl) (qy enc w base spare held));obtain⟨q,u,z⟩:=D8 IL h 1 27 1 1 AA (L6 (sz:=2) Tryz.underlying27 AA BU (fun _=>rfl) (qh enc w base spare held));obtain⟨I,J,L⟩:=D8 IL h 2 3 2 1 AA (ES EM);obtain⟨M,O,U⟩:=D8 IL h 3 3 3 1 AA (ES EM);obtain⟨Y,Z,h4⟩:=D8 IL h 4 3 4 1 AA (ES EM);obtain⟨a5,v5,h5⟩:=D8 IL h 5 3 5 1 AA (ES EM);obtain⟨a6,v6,h6⟩:=D8 IL h 6 3 6 1 AA (ES EM);obtain⟨a7,v7,h7⟩:=D8 IL h 7 3 7 1 AA (ES EM);obtain⟨a8,v8,h8⟩:=D8 IL h 8 3 8 1 AA (ES EM);exact⟨⟨a0,q,I,M,Y,a5,a6,a7,a8⟩,⟨j,u,J,O,Z,v5,v6,v7,v8⟩,NW [1,1,1,1,1,1,1,1,1] N9 (CG.append m (CG.append z (CG.append L (CG.append U (CG.append h4 (CG.append h5 (CG.append h6 (CG.append h7 (CG.append h8 (CG.nil w))))))))))⟩
def Ye (x:CW):Prop:=x.Text.size≤maxLen∧(IntKind.i64.min≤x.N∧x.N≤IntKind.i64.max)∧(IntKind.i64.min≤x.Target∧x.Target≤IntKind.i64.max)∧True∧x.Via.size≤maxLen∧(x.Allow.length≤maxLen∧∀j∈x.Allow,j.size≤maxLen)∧(x.gY.length≤maxLen∧∀m∈x.gY,m.size≤maxLen)∧Y4 x.Levels
set_option maxRecDepth 20000 in
def sK {H:Type} (enc:TypeId×Value→H) (w:World) (base:Nat) (spare:Nat→Bool) (held:Bool):Je enc Tryz.prog w base spare held 31 F7 Ye:=by
 intro Aj cs x h;have hl:=NG Ik h 16 AA;obtain⟨a0,j,m⟩:=D8 Ik h 0 9 0 1 AA (Il Hq);obtain⟨q,u,z⟩:=D8 Ik h 1 3 1 1 AA (ES EM);obtain⟨I,J,L⟩:=D8 Ik h 2 3 2 1 AA (ES EM);obtain⟨M,O,U⟩:=D8 Ik h 3 4 3 1 AA (jK Ot);obtain⟨Y,Z,h4⟩:=D8 Ik h 4 9 4 1 AA (Il Hq);obtain⟨a5,v5,h5⟩:=D8 Ik h 5 25 5 1 AA (L6 (sz:=1) jH AA BU (fun _=>rfl) (Il Hq));obtain⟨a6,v6,h6⟩:=D8 Ik h 6 25 6 1 AA (L6 (sz:=1) jH AA BU (fun _=>rfl) (Il Hq));obtain⟨a7,v7,h7⟩:=D8 Ik h 7 29 7 9 AA (uh enc w base spare held);exact⟨⟨a0,q,I,M,Y,a5,a6,a7⟩,⟨j,u,J,O,Z,v5,v6,v7⟩,NW [1,1,1,1,1,1,1,9] N9 (CG.append m (CG.append z (CG.append L (CG.append U (CG.append h4 (CG.append h5 (CG.append h6 (CG.append h7 (CG.nil w)))))))))⟩
def YA (x:Ny):Prop:=x.Server.size≤maxLen∧(IntKind.i64.min≤x.Sum∧x.Sum≤IntKind.i64.max)
set_option maxRecDepth 20000 in
def xP {H:Type} (enc:TypeId×Value→H) (w:World) (base:Nat) (spare:Nat→Bool) (held:Bool):Je enc Tryz.prog w base spare held 33 aIL YA:=by
 intro Aj cs x h;have hl:=NG WO h 2 AA;obtain⟨a0,j,m⟩:=D8 WO h 0 9 0 1 AA (Il Hq);obtain⟨q,u,z⟩:=D8 WO h 1 3 1 1 AA (ES EM);exact⟨⟨a0,q⟩,⟨j,u⟩,NW [1,1] N9 (CG.append m (CG.append z (CG.nil w)))⟩
def zX (x:AQ):Prop:=(IntKind.i64.min≤x.Id∧x.Id≤IntKind.i64.max)∧x.Room.size≤maxLen∧x.aY.size≤maxLen∧(IntKind.i64.min≤x.Kind∧x.Kind≤IntKind.i64.max)∧True∧x.Key.size≤maxLen∧(IntKind.i64.min≤x.Time∧x.Time≤IntKind.i64.max)∧(IntKind.i64.min≤x.Depth∧x.Depth≤IntKind.i64.max)∧(x.bM.length≤maxLen∧∀j∈x.bM,(IntKind.i64.min≤j∧j≤IntKind.i64.max))∧(x.bK.length≤maxLen∧∀m∈x.bK,(IntKind.i64.min≤m∧m≤IntKind.i64.max))∧Ye x.Content∧(IntKind.i64.min≤x.Hash∧x.Hash≤IntKind.i64.max)∧YA x.pz
set_option maxRecDepth 20000 in
def iG {H:Type} (enc:TypeId×Value→H) (w:World) (base:Nat) (spare:Nat→Bool) (held:Bool):Je enc Tryz.prog w base spare held 35 BD zX:=by
 intro Aj cs x h;have hl:=NG Fh h 29 AA;obtain⟨a0,O,U⟩:=D8 Fh h 0 3 0 1 AA (ES EM);obtain⟨Y,Z,h1⟩:=D8 Fh h 1 9 1 1 AA (Il Hq);obtain⟨a2,v2,h2⟩:=D8 Fh h 2 9 2 1 AA (Il Hq);obtain⟨a3,v3,h3⟩:=D8 Fh h 3 23 3 1 AA (ES gX);obtain⟨a4,v4,h4⟩:=D8 Fh h 4 4 4 1 AA (jK Ot);obtain⟨a5,v5,h5⟩:=D8 Fh h 5 9 5 1 AA (Il Hq);obtain⟨a6,v6,h6⟩:=D8 Fh h 6 3 6 1 AA (ES EM);obtain⟨a7,v7,h7⟩:=D8 Fh h 7 3 7 1 AA (ES EM);obtain⟨a8,v8,h8⟩:=D8 Fh h 8 24 8 1 AA (L6 (sz:=1) Xr AA BU (fun _=>rfl) (ES EM));obtain⟨a9,v9,h9⟩:=D8 Fh h 9 24 9 1 AA (L6 (sz:=1) Xr AA BU (fun _=>rfl) (ES EM));obtain⟨j,m,q⟩:=D8 Fh h 10 31 10 16 AA (sK enc w base spare held);obtain⟨u,z,I⟩:=D8 Fh h 11 3 26 1 AA (ES EM);obtain⟨J,L,M⟩:=D8 Fh h 12 33 27 2 AA (xP enc w base spare held);exact⟨⟨a0,Y,a2,a3,a4,a5,a6,a7,a8,a9,j,u,J⟩,⟨O,Z,v2,v3,v4,v5,v6,v7,v8,v9,m,z,L⟩,NW [1,1,1,1,1,1,1,1,1,1,16,1,2] N9 (CG.append U (CG.append h1 (CG.append h2 (CG.append h3 (CG.append h4 (CG.append h5 (CG.append h6 (CG.append h7 (CG.append h8 (CG.append h9 (CG.append q (CG.append I (CG.append M (CG.nil w))))))))))))))⟩
end Go.Proofs.YtldfpencimjjlaaGreat
end
section
namespace Go.Proofs.YtldfpencimjjlaaGreat
open Go.ChangeShapes Go.WideShapes Go.ChangeAt Go.RowKit
def Tryz.arY:ownKnob Tryz.prog.godebug=none:=AA
def Tryz.Nl:laidOutB Tryz.prog=true:=AA
set_option maxHeartbeats 1600000 in
set_option maxRecDepth 100000 in
def an0 (os:Os) (started:os.Started) (H:Type) (enc:TypeId×Value→H):
 ReturnsInHanded {} Tryz.checked os 4 .any (Rows.redactGoneSpec.pre6 enc Tryz.prog Tryz.f4 Rows.redactGoneRow.domain false) (Rows.redactGoneSpec.post enc Tryz.prog Tryz.f4 false true false false):=by
 refine aO2 (C:=Tryz.checked) Tryz.arY started AA Tryz.func4
  (aPY (enc:=enc) (C:=Tryz.checked) false ⟨#[], #[.slice none 0 0,.int .i64 0],[]⟩ 8 AA AA AA AA) ?_
 intro W base args ds gs before m hW _ _;have u:∀(j:Nat) t v,Tryz.f4.params[j]? =some t→args[j]? =some v→Value.okWide Tryz.prog W .any base t v:=m;have z:=hW;obtain⟨p,q,M,hV,rfl,_,_⟩:=hW;have hA:DataW.TrodAll enc Tryz.prog W 0 (fun _=>true) true Tryz.f4.params.toList args.toList ds p:=M;rw[Tryz.params4]at hA u;obtain⟨v0,v1,d0,d1,p0,p1,rfl,rfl,rfl,h0,h1⟩:=trodAll_two hA;obtain⟨rfl,rfl⟩:=trodVars_none hV;obtain⟨w0,u0n,u0c,rfl⟩:=okWide_slice WU (u 0 22 v0 rfl rfl);have h0k:=h0;obtain⟨fuel0,hf0⟩:=h0;obtain⟨Y,hok0,hc0⟩:=(L6 (sz:=29) WU AA BU (fun _=>rfl) (iG enc W _ _ _)) _ _ _ hf0;have hr0:=aHb (x:=(BQ BD) Y) rfl rfl hc0;obtain⟨w1,rfl⟩:=okWide_int EM (u 1 3 v1 rfl rfl);have h1k:=h1;obtain⟨fuel1,hf1⟩:=h1;obtain⟨Z,hok1,hc1⟩:=(ES EM) _ _ _ hf1;have hr1:=aHb (x:=Ac Z) rfl rfl hc1;clear M m;simp only[PS]at z;have O:∀x∈p0,x.block<W.heap.size:=fun x hx=>aEa
 have I:∀(W':World),Below W.heap.size W W'→DataW.Trod enc Tryz.prog W' 0 (fun b=>decide (b<W.heap.size)) true 22 (.slice w0 u0n u0c) d0 p0:=
  fun W' L=>Below.trod Tryz.Nl AA (Rh AA) h0k L O
 have U:∀x∈p1,x.block<W.heap.size:=fun x hx=>aEa
 have J:∀(W':World),Below W.heap.size W W'→DataW.Trod enc Tryz.prog W' 0 (fun b=>decide (b<W.heap.size)) true 3 (.int .i64 w1) d1 p1:=
  fun W' L=>Below.trod Tryz.Nl AA (Rh AA) h1k L U
 refine(Ah.law (xs:=[(BQ BD) Y,Ac Z]) (W:=W) (as4 Y Z true (ak7 Y Z)) rfl (fun i hi=>?_)).mono fun e W' he=>?_
 ·match i,hi with
  |0,_=>exact hr0
  |1,_=>exact hr1
 obtain⟨rfl,L⟩:=he;exact⟨_,rfl,_,_,_,[],(p0++p1),[],z,trodAll_mk1 (shut_bool Ot _),trodAll_mk2 (I W' L) (J W' L),rfl,L.frame _,fun h=>Gh⟩
def Tryz.ahR:mapsRowed Tryz.prog=true:=AA
def Tryz.ak1:Tryz.prog.inPlace 4=["slices.overlaps[fedchat/api.Event]", "internal/bytealg.IndexByteString", "internal/bytealg.IndexString"]:=AA
def Tryz.SN:Tryz.prog.unfollowed 4=true:=AA
def Tryz.akc:Tryz.prog.recurses 4=true:=by unfold Program.recurses;rw[Tryz.SN];rfl
def Tryz.aoU:Tryz.prog.varsNamed 4=["internal/bytealg.MaxLen"]:=AA
def Tryz.ahS:(Rows.redactGoneRow.plainKeys==Tryz.prog.plainKeys)=true:=AA
def Tryz.ag7:Tryz.prog.stopsHeard=true:=AA
def Tryz.akd:Tryz.prog.mayEnter=true:=AA
def Tryz.am5:(Rows.redactGoneRow.lifted==Tryz.prog.liftsFinal)=true:=AA
def Tryz.ap7:(Tryz.prog.make==some Rows.redactGoneRow.make)=true:=AA
def Tryz.am6:joinedFacts Tryz.prog 4 Tryz.f4 Rows.redactGoneSpec Rows.redactGoneRow=true:=by
 unfold joinedFacts;rw[Tryz.Nl,Tryz.ahR,Tryz.ak1,Tryz.SN,Tryz.akc,Tryz.aoU,Tryz.ahS,Tryz.ag7,Tryz.akd,Tryz.am5,Tryz.ap7];kernel_rfl
theorem redactGone_holds :Rows.RedactGoneSaid:=
 aKY 4 Tryz.f4 rfl rfl rfl rfl rfl rfl rfl ⟨rfl,rfl,rfl,rfl,rfl⟩ rfl rfl rfl rfl rfl AA Tryz.func4 Tryz.am6
  (Rh AA) aL2
  (fun os j H enc _=>an0 os j H enc)
end Go.Proofs.YtldfpencimjjlaaGreat
end
