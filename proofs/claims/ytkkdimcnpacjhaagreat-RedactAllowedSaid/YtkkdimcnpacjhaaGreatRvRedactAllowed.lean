/- The law RedactAllowed holds (short forms written by wip/shrink.py; no condition). -/
import Derived.Test.YtkkdimcnpacjhaaGreatRv6
set_option linter.defProp false
set_option linter.unnecessarySimpa false
set_option linter.unusedVariables false
set_option linter.unusedSimpArgs false
section
namespace Go.Proofs.YtkkdimcnpacjhaaGreat
open Go.RowKit
def adz (x:H7):Prop:=x.User.size≤maxLen∧(IntKind.i64.min≤x.N∧x.N≤IntKind.i64.max)
set_option maxRecDepth 20000 in
def aqw {H:Type} (enc:TypeId×Value→H) (w:World) (base:Nat) (spare:Nat→Bool) (held:Bool):QU enc Tryz.prog w base spare held 108 Fq adz:=by
 intro Ag cs x h;have hl:=cG Tryz.underlying108 h 2 AA;obtain⟨a0,j,m⟩:=Fe Tryz.underlying108 h 0 9 0 1 AA (Va Ox);obtain⟨q,u,z⟩:=Fe Tryz.underlying108 h 1 3 1 1 AA (Jl Il);exact⟨⟨a0,q⟩,⟨j,u⟩,dZ [1,1] gK (EI.append m (EI.append z (EI.nil w)))⟩
def aeA (x:IJ):Prop:=(IntKind.i64.min≤x.Kind∧x.Kind≤IntKind.i64.max)∧(IntKind.i64.min≤x.N∧x.N≤IntKind.i64.max)
set_option maxRecDepth 20000 in
def afX {H:Type} (enc:TypeId×Value→H) (w:World) (base:Nat) (spare:Nat→Bool) (held:Bool):QU enc Tryz.prog w base spare held 111 Gf aeA:=by
 intro Ag cs x h;have hl:=cG Tryz.underlying111 h 2 AA;obtain⟨a0,j,m⟩:=Fe Tryz.underlying111 h 0 23 0 1 AA (Jl Tryz.underlying23);obtain⟨q,u,z⟩:=Fe Tryz.underlying111 h 1 3 1 1 AA (Jl Il);exact⟨⟨a0,q⟩,⟨j,u⟩,dZ [1,1] gK (EI.append m (EI.append z (EI.nil w)))⟩
def aRV (x:Ba):Prop:=(x.Users.length≤maxLen∧∀j∈x.Users,adz j)∧(x.Kinds.length≤maxLen∧∀m∈x.Kinds,aeA m)∧(IntKind.i64.min≤x.User∧x.User≤IntKind.i64.max)∧(IntKind.i64.min≤x.Message∧x.Message≤IntKind.i64.max)∧(IntKind.i64.min≤x.State∧x.State≤IntKind.i64.max)∧(IntKind.i64.min≤x.fH∧x.fH≤IntKind.i64.max)∧(IntKind.i64.min≤x.jI∧x.jI≤IntKind.i64.max)∧(IntKind.i64.min≤x.mW∧x.mW≤IntKind.i64.max)∧(IntKind.i64.min≤x.eU∧x.eU≤IntKind.i64.max)
set_option maxRecDepth 20000 in
def anl {H:Type} (enc:TypeId×Value→H) (w:World) (base:Nat) (spare:Nat→Bool) (held:Bool):QU enc Tryz.prog w base spare held 28 Hg aRV:=by
 intro Ag cs x h;have hl:=cG Ty h 9 AA;obtain⟨a0,j,m⟩:=Fe Ty h 0 25 0 1 AA (Yj (sz:=2) Tryz.underlying25 AA BK (fun _=>rfl) (aqw enc w base spare held));obtain⟨q,u,z⟩:=Fe Ty h 1 26 1 1 AA (Yj (sz:=2) Tryz.underlying26 AA BK (fun _=>rfl) (afX enc w base spare held));obtain⟨I,J,L⟩:=Fe Ty h 2 3 2 1 AA (Jl Il);obtain⟨M,O,U⟩:=Fe Ty h 3 3 3 1 AA (Jl Il);obtain⟨Y,Z,h4⟩:=Fe Ty h 4 3 4 1 AA (Jl Il);obtain⟨a5,v5,h5⟩:=Fe Ty h 5 3 5 1 AA (Jl Il);obtain⟨a6,v6,h6⟩:=Fe Ty h 6 3 6 1 AA (Jl Il);obtain⟨a7,v7,h7⟩:=Fe Ty h 7 3 7 1 AA (Jl Il);obtain⟨a8,v8,h8⟩:=Fe Ty h 8 3 8 1 AA (Jl Il);exact⟨⟨a0,q,I,M,Y,a5,a6,a7,a8⟩,⟨j,u,J,O,Z,v5,v6,v7,v8⟩,dZ [1,1,1,1,1,1,1,1,1] gK (EI.append m (EI.append z (EI.append L (EI.append U (EI.append h4 (EI.append h5 (EI.append h6 (EI.append h7 (EI.append h8 (EI.nil w))))))))))⟩
def aRz (x:Bg):Prop:=x.Text.size≤maxLen∧(IntKind.i64.min≤x.N∧x.N≤IntKind.i64.max)∧(IntKind.i64.min≤x.Target∧x.Target≤IntKind.i64.max)∧True∧x.Via.size≤maxLen∧(x.Allow.length≤maxLen∧∀j∈x.Allow,j.size≤maxLen)∧(x.gB.length≤maxLen∧∀m∈x.gB,m.size≤maxLen)∧aRV x.Levels
set_option maxRecDepth 20000 in
def ahi {H:Type} (enc:TypeId×Value→H) (w:World) (base:Nat) (spare:Nat→Bool) (held:Bool):QU enc Tryz.prog w base spare held 30 FY aRz:=by
 intro Ag cs x h;have hl:=cG UY h 16 AA;obtain⟨a0,j,m⟩:=Fe UY h 0 9 0 1 AA (Va Ox);obtain⟨q,u,z⟩:=Fe UY h 1 3 1 1 AA (Jl Il);obtain⟨I,J,L⟩:=Fe UY h 2 3 2 1 AA (Jl Il);obtain⟨M,O,U⟩:=Fe UY h 3 4 3 1 AA (aby XI);obtain⟨Y,Z,h4⟩:=Fe UY h 4 9 4 1 AA (Va Ox);obtain⟨a5,v5,h5⟩:=Fe UY h 5 24 5 1 AA (Yj (sz:=1) Tryz.underlying24 AA BK (fun _=>rfl) (Va Ox));obtain⟨a6,v6,h6⟩:=Fe UY h 6 24 6 1 AA (Yj (sz:=1) Tryz.underlying24 AA BK (fun _=>rfl) (Va Ox));obtain⟨a7,v7,h7⟩:=Fe UY h 7 28 7 9 AA (anl enc w base spare held);exact⟨⟨a0,q,I,M,Y,a5,a6,a7⟩,⟨j,u,J,O,Z,v5,v6,v7⟩,dZ [1,1,1,1,1,1,1,9] gK (EI.append m (EI.append z (EI.append L (EI.append U (EI.append h4 (EI.append h5 (EI.append h6 (EI.append h7 (EI.nil w)))))))))⟩
def aR5 (x:O5):Prop:=x.Server.size≤maxLen∧(IntKind.i64.min≤x.Sum∧x.Sum≤IntKind.i64.max)
set_option maxRecDepth 20000 in
def aoz {H:Type} (enc:TypeId×Value→H) (w:World) (base:Nat) (spare:Nat→Bool) (held:Bool):QU enc Tryz.prog w base spare held 37 ahw aR5:=by
 intro Ag cs x h;have hl:=cG Tryz.underlying37 h 2 AA;obtain⟨a0,j,m⟩:=Fe Tryz.underlying37 h 0 9 0 1 AA (Va Ox);obtain⟨q,u,z⟩:=Fe Tryz.underlying37 h 1 3 1 1 AA (Jl Il);exact⟨⟨a0,q⟩,⟨j,u⟩,dZ [1,1] gK (EI.append m (EI.append z (EI.nil w)))⟩
def afo (x:AL):Prop:=(IntKind.i64.min≤x.Id∧x.Id≤IntKind.i64.max)∧x.Room.size≤maxLen∧x.aN.size≤maxLen∧(IntKind.i64.min≤x.Kind∧x.Kind≤IntKind.i64.max)∧True∧x.Key.size≤maxLen∧(IntKind.i64.min≤x.Time∧x.Time≤IntKind.i64.max)∧(IntKind.i64.min≤x.Depth∧x.Depth≤IntKind.i64.max)∧(x.bF.length≤maxLen∧∀j∈x.bF,(IntKind.i64.min≤j∧j≤IntKind.i64.max))∧(x.bf.length≤maxLen∧∀m∈x.bf,(IntKind.i64.min≤m∧m≤IntKind.i64.max))∧aRz x.Content∧(IntKind.i64.min≤x.Hash∧x.Hash≤IntKind.i64.max)∧aR5 x.rP
set_option maxRecDepth 20000 in
def agD {H:Type} (enc:TypeId×Value→H) (w:World) (base:Nat) (spare:Nat→Bool) (held:Bool):QU enc Tryz.prog w base spare held 39 BD afo:=by
 intro Ag cs x h;have hl:=cG OL h 29 AA;obtain⟨a0,O,U⟩:=Fe OL h 0 3 0 1 AA (Jl Il);obtain⟨Y,Z,h1⟩:=Fe OL h 1 9 1 1 AA (Va Ox);obtain⟨a2,v2,h2⟩:=Fe OL h 2 9 2 1 AA (Va Ox);obtain⟨a3,v3,h3⟩:=Fe OL h 3 23 3 1 AA (Jl Tryz.underlying23);obtain⟨a4,v4,h4⟩:=Fe OL h 4 4 4 1 AA (aby XI);obtain⟨a5,v5,h5⟩:=Fe OL h 5 9 5 1 AA (Va Ox);obtain⟨a6,v6,h6⟩:=Fe OL h 6 3 6 1 AA (Jl Il);obtain⟨a7,v7,h7⟩:=Fe OL h 7 3 7 1 AA (Jl Il);obtain⟨a8,v8,h8⟩:=Fe OL h 8 35 8 1 AA (Yj (sz:=1) aA0 AA BK (fun _=>rfl) (Jl Il));obtain⟨a9,v9,h9⟩:=Fe OL h 9 35 9 1 AA (Yj (sz:=1) aA0 AA BK (fun _=>rfl) (Jl Il));obtain⟨j,m,q⟩:=Fe OL h 10 30 10 16 AA (ahi enc w base spare held);obtain⟨u,z,I⟩:=Fe OL h 11 3 26 1 AA (Jl Il);obtain⟨J,L,M⟩:=Fe OL h 12 37 27 2 AA (aoz enc w base spare held);exact⟨⟨a0,Y,a2,a3,a4,a5,a6,a7,a8,a9,j,u,J⟩,⟨O,Z,v2,v3,v4,v5,v6,v7,v8,v9,m,z,L⟩,dZ [1,1,1,1,1,1,1,1,1,1,16,1,2] gK (EI.append U (EI.append h1 (EI.append h2 (EI.append h3 (EI.append h4 (EI.append h5 (EI.append h6 (EI.append h7 (EI.append h8 (EI.append h9 (EI.append q (EI.append I (EI.append M (EI.nil w))))))))))))))⟩
end Go.Proofs.YtkkdimcnpacjhaaGreat
end
section
namespace Go.Proofs.YtkkdimcnpacjhaaGreat
open Go.ChangeShapes Go.WideShapes Go.ChangeAt Go.RowKit
def Tryz.akh:ownKnob Tryz.prog.godebug=none:=AA
def Tryz.P8:laidOutB Tryz.prog=true:=AA
set_option maxHeartbeats 1600000 in
set_option maxRecDepth 100000 in
def alH (os:Os) (started:os.Started) (H:Type) (enc:TypeId×Value→H):
 ReturnsInHanded {} Tryz.checked os 5 .any (Rows.redactAllowedSpec.pre6 enc Tryz.prog Tryz.f5 Rows.redactAllowedRow.domain false) (Rows.redactAllowedSpec.post enc Tryz.prog Tryz.f5 false true false false):=by
 refine returnsInHanded_of_change (C:=Tryz.checked) Tryz.akh started AA Tryz.func5
  (ChangeSpec.witness6 (enc:=enc) (C:=Tryz.checked) false ⟨#[], #[.slice none 0 0],[]⟩ 8 AA AA AA AA) ?_
 intro W base args ds gs before m hW _ _;have z:∀(j:Nat) t v,Tryz.f5.params[j]? =some t→args[j]? =some v→Value.okWide Tryz.prog W .any base t v:=m;have I:=hW;obtain⟨p,q,J,hV,rfl,_,_⟩:=hW;have hA:DataW.TrodAll enc Tryz.prog W 0 (fun _=>true) true Tryz.f5.params.toList args.toList ds p:=J;rw[Tryz.params5]at hA z;obtain⟨v0,d0,rfl,rfl,h0⟩:=trodAll_one hA;obtain⟨rfl,rfl⟩:=trodVars_none hV;obtain⟨w0,U,Y,rfl⟩:=okWide_slice jE (z 0 22 v0 rfl rfl);have Z:=h0;obtain⟨fuel0,hf0⟩:=h0;obtain⟨M,hok0,hc0⟩:=(Yj (sz:=29) jE AA BK (fun _=>rfl) (agD enc W _ _ _)) _ _ _ hf0;have hr0:=agW (x:=(BG BD) M) rfl rfl hc0;clear J m;simp only[PG]at I;have L:∀x∈p,x.block<W.heap.size:=fun x hx=>by simpa using I.lt x (by simp[hx])
 have u:∀(W':World),Below W.heap.size W W'→DataW.Trod enc Tryz.prog W' 0 (fun b=>decide (b<W.heap.size)) true 22 (.slice w0 U Y) d0 p:=
  fun W' O=>Below.trod Tryz.P8 AA (iI AA) Z O L
 refine(Ap.law (xs:=[(BG BD) M]) (W:=W) (aqY M true (akX M)) rfl (fun i hi=>?_)).mono fun e W' he=>?_
 ·match i,hi with
  |0,_=>exact hr0
 obtain⟨rfl,O⟩:=he;exact⟨_,rfl,_,_,_,[],p,[],I,trodAll_mk1 (shut_bool XI _),trodAll_mk1 (u W' O),rfl,O.frame _,fun h=>Fr⟩
def Tryz.abJ:mapsRowed Tryz.prog=true:=AA
def Tryz.aex:Tryz.prog.inPlace 5=["slices.overlaps[fedchat/api.Event]", "internal/bytealg.IndexByteString", "internal/bytealg.IndexString"]:=AA
def Tryz.JF:Tryz.prog.unfollowed 5=true:=AA
def Tryz.acX:Tryz.prog.recurses 5=true:=by unfold Program.recurses;rw[Tryz.JF];rfl
def Tryz.ahB:Tryz.prog.varsNamed 5=["internal/bytealg.MaxLen"]:=AA
def Tryz.abK:(Rows.redactAllowedRow.plainKeys==Tryz.prog.plainKeys)=true:=AA
def Tryz.Y3:Tryz.prog.stopsHeard=true:=AA
def Tryz.acY:Tryz.prog.mayEnter=true:=AA
def Tryz.afa:(Rows.redactAllowedRow.lifted==Tryz.prog.liftsFinal)=true:=AA
def Tryz.aij:(Tryz.prog.make==some Rows.redactAllowedRow.make)=true:=AA
def Tryz.afb:joinedFacts Tryz.prog 5 Tryz.f5 Rows.redactAllowedSpec Rows.redactAllowedRow=true:=by
 unfold joinedFacts;rw[Tryz.P8,Tryz.abJ,Tryz.aex,Tryz.JF,Tryz.acX,Tryz.ahB,Tryz.abK,Tryz.Y3,Tryz.acY,Tryz.afa,Tryz.aij];kernel_rfl
theorem redactAllowed_holds :Rows.RedactAllowedSaid:=
 OpenClaim.holds_of_wide 5 Tryz.f5 rfl rfl rfl rfl rfl rfl rfl ⟨rfl,rfl,rfl,rfl,rfl⟩ rfl rfl rfl rfl rfl AA Tryz.func5 Tryz.afb
  (iI AA) (by unfold Func.isWrapper;first|(rw[CJ L6];kernel_rfl)|(rw[CU L6];exact⟨rfl,rfl⟩))
  (fun os j H enc _=>alH os j H enc)
end Go.Proofs.YtkkdimcnpacjhaaGreat
end
