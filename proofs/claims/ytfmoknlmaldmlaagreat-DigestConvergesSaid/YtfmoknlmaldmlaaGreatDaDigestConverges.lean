/- The law DigestConverges holds (short forms written by wip/shrink.py; no condition). -/
import Derived.Test.YtfmoknlmaldmlaaGreatDa7
set_option linter.defProp false
set_option linter.unnecessarySimpa false
set_option linter.unusedSectionVars false
set_option linter.unusedVariables false
set_option linter.unusedSimpArgs false
namespace Go.Proofs.YtfmoknlmaldmlaaGreat
open Go.RowKit Go.Proofs.Tryz
section
def aPU (x:Ii):Prop:=x.User.size<=maxLen/\(IntKind.i64.min<=x.N/\x.N<=IntKind.i64.max)
set_option maxRecDepth 20000 in
def ajR {H:Type} (enc:Bj×Ai->H) (w:BG) (base:Nat) (spare:Nat->AQ) (held:AQ):Rn enc Ah w base spare held 146 FN aPU:=by
 intro Aw cs x h;have hl:=gG Tryz.underlying146 h 2 AA;obtain⟨a0,j,q⟩:=H9 Tryz.underlying146 h 0 9 0 1 AA (VY Qx);obtain⟨u,z,I⟩:=H9 Tryz.underlying146 h 1 3 1 1 AA (KX Jl);exact⟨⟨a0,u⟩,⟨j,z⟩,jo [1,1] gI (Em.append q (Em.append I (Em.nil w)))⟩
def aPc (x:JR):Prop:=(IntKind.i64.min<=x.Kind/\x.Kind<=IntKind.i64.max)/\(IntKind.i64.min<=x.N/\x.N<=IntKind.i64.max)
set_option maxRecDepth 20000 in
def ams {H:Type} (enc:Bj×Ai->H) (w:BG) (base:Nat) (spare:Nat->AQ) (held:AQ):Rn enc Ah w base spare held 221 Fb aPc:=by
 intro Aw cs x h;have hl:=gG Tryz.underlying221 h 2 AA;obtain⟨a0,j,q⟩:=H9 Tryz.underlying221 h 0 26 0 1 AA (KX Tryz.underlying26);obtain⟨u,z,I⟩:=H9 Tryz.underlying221 h 1 3 1 1 AA (KX Jl);exact⟨⟨a0,u⟩,⟨j,z⟩,jo [1,1] gI (Em.append q (Em.append I (Em.nil w)))⟩
def aMa (x:DX):Prop:=(x.Users.length<=maxLen/\∀j∈x.Users,aPU j)/\(x.Kinds.length<=maxLen/\∀q∈x.Kinds,aPc q)/\(IntKind.i64.min<=x.User/\x.User<=IntKind.i64.max)/\(IntKind.i64.min<=x.Message/\x.Message<=IntKind.i64.max)/\(IntKind.i64.min<=x.State/\x.State<=IntKind.i64.max)/\(IntKind.i64.min<=x.gV/\x.gV<=IntKind.i64.max)/\(IntKind.i64.min<=x.kY/\x.kY<=IntKind.i64.max)/\(IntKind.i64.min<=x.pR/\x.pR<=IntKind.i64.max)/\(IntKind.i64.min<=x.iM/\x.iM<=IntKind.i64.max)
set_option maxRecDepth 20000 in
def aoD {H:Type} (enc:Bj×Ai->H) (w:BG) (base:Nat) (spare:Nat->AQ) (held:AQ):Rn enc Ah w base spare held 32 Gq aMa:=by
 intro Aw cs x h;have hl:=gG UJ h 9 AA;obtain⟨a0,j,q⟩:=H9 UJ h 0 29 0 1 AA (aK (sz:=2) Tryz.underlying29 AA Bf (fun _=>rfl) (ajR enc w base spare held));obtain⟨u,z,I⟩:=H9 UJ h 1 30 1 1 AA (aK (sz:=2) Tryz.underlying30 AA Bf (fun _=>rfl) (ams enc w base spare held));obtain⟨J,v2,L⟩:=H9 UJ h 2 3 2 1 AA (KX Jl);obtain⟨M,O,U⟩:=H9 UJ h 3 3 3 1 AA (KX Jl);obtain⟨Y,Z,h4⟩:=H9 UJ h 4 3 4 1 AA (KX Jl);obtain⟨a5,v5,h5⟩:=H9 UJ h 5 3 5 1 AA (KX Jl);obtain⟨a6,v6,h6⟩:=H9 UJ h 6 3 6 1 AA (KX Jl);obtain⟨a7,v7,h7⟩:=H9 UJ h 7 3 7 1 AA (KX Jl);obtain⟨a8,v8,h8⟩:=H9 UJ h 8 3 8 1 AA (KX Jl);exact⟨⟨a0,u,J,M,Y,a5,a6,a7,a8⟩,⟨j,z,v2,O,Z,v5,v6,v7,v8⟩,jo [1,1,1,1,1,1,1,1,1] gI (Em.append q (Em.append I (Em.append L (Em.append U (Em.append h4 (Em.append h5 (Em.append h6 (Em.append h7 (Em.append h8 (Em.nil w))))))))))⟩
def aTa (x:CV):Prop:=x.Text.size<=maxLen/\(IntKind.i64.min<=x.N/\x.N<=IntKind.i64.max)/\(IntKind.i64.min<=x.Target/\x.Target<=IntKind.i64.max)/\True/\x.Via.size<=maxLen/\(x.Allow.length<=maxLen/\∀j∈x.Allow,j.size<=maxLen)/\(x.fV.length<=maxLen/\∀q∈x.fV,q.size<=maxLen)/\aMa x.Levels
set_option maxRecDepth 20000 in
def aij {H:Type} (enc:Bj×Ai->H) (w:BG) (base:Nat) (spare:Nat->AQ) (held:AQ):Rn enc Ah w base spare held 34 FY aTa:=by
 intro Aw cs x h;have hl:=gG XG h 16 AA;obtain⟨a0,j,q⟩:=H9 XG h 0 9 0 1 AA (VY Qx);obtain⟨u,z,I⟩:=H9 XG h 1 3 1 1 AA (KX Jl);obtain⟨J,v2,L⟩:=H9 XG h 2 3 2 1 AA (KX Jl);obtain⟨M,O,U⟩:=H9 XG h 3 4 3 1 AA (aMC Zn);obtain⟨Y,Z,h4⟩:=H9 XG h 4 9 4 1 AA (VY Qx);obtain⟨a5,v5,h5⟩:=H9 XG h 5 28 5 1 AA (aK (sz:=1) Tryz.underlying28 AA Bf (fun _=>rfl) (VY Qx));obtain⟨a6,v6,h6⟩:=H9 XG h 6 28 6 1 AA (aK (sz:=1) Tryz.underlying28 AA Bf (fun _=>rfl) (VY Qx));obtain⟨a7,v7,h7⟩:=H9 XG h 7 32 7 9 AA (aoD enc w base spare held);exact⟨⟨a0,u,J,M,Y,a5,a6,a7⟩,⟨j,z,v2,O,Z,v5,v6,v7⟩,jo [1,1,1,1,1,1,1,9] gI (Em.append q (Em.append I (Em.append L (Em.append U (Em.append h4 (Em.append h5 (Em.append h6 (Em.append h7 (Em.nil w)))))))))⟩
def aTb (x:S9):Prop:=x.Server.size<=maxLen/\(IntKind.i64.min<=x.Sum/\x.Sum<=IntKind.i64.max)
set_option maxRecDepth 20000 in
def ajz {H:Type} (enc:Bj×Ai->H) (w:BG) (base:Nat) (spare:Nat->AQ) (held:AQ):Rn enc Ah w base spare held 36 akp aTb:=by
 intro Aw cs x h;have hl:=gG Tryz.underlying36 h 2 AA;obtain⟨a0,j,q⟩:=H9 Tryz.underlying36 h 0 9 0 1 AA (VY Qx);obtain⟨u,z,I⟩:=H9 Tryz.underlying36 h 1 3 1 1 AA (KX Jl);exact⟨⟨a0,u⟩,⟨j,z⟩,jo [1,1] gI (Em.append q (Em.append I (Em.nil w)))⟩
def ab6 (x:AO):Prop:=(IntKind.i64.min<=x.Id/\x.Id<=IntKind.i64.max)/\x.Room.size<=maxLen/\x.bH.size<=maxLen/\(IntKind.i64.min<=x.Kind/\x.Kind<=IntKind.i64.max)/\True/\x.Key.size<=maxLen/\(IntKind.i64.min<=x.Time/\x.Time<=IntKind.i64.max)/\(IntKind.i64.min<=x.Depth/\x.Depth<=IntKind.i64.max)/\(x.bV.length<=maxLen/\∀j∈x.bV,(IntKind.i64.min<=j/\j<=IntKind.i64.max))/\(x.bZ.length<=maxLen/\∀q∈x.bZ,(IntKind.i64.min<=q/\q<=IntKind.i64.max))/\aTa x.Content/\(IntKind.i64.min<=x.Hash/\x.Hash<=IntKind.i64.max)/\aTb x.rQ
set_option maxRecDepth 20000 in
def akJ {H:Type} (enc:Bj×Ai->H) (w:BG) (base:Nat) (spare:Nat->AQ) (held:AQ):Rn enc Ah w base spare held 38 Am ab6:=by
 intro Aw cs x h;have hl:=gG PY h 29 AA;obtain⟨a0,U,Y⟩:=H9 PY h 0 3 0 1 AA (KX Jl);obtain⟨Z,v1,h1⟩:=H9 PY h 1 9 1 1 AA (VY Qx);obtain⟨a2,v2,h2⟩:=H9 PY h 2 9 2 1 AA (VY Qx);obtain⟨a3,v3,h3⟩:=H9 PY h 3 26 3 1 AA (KX Tryz.underlying26);obtain⟨a4,v4,h4⟩:=H9 PY h 4 4 4 1 AA (aMC Zn);obtain⟨a5,v5,h5⟩:=H9 PY h 5 9 5 1 AA (VY Qx);obtain⟨a6,v6,h6⟩:=H9 PY h 6 3 6 1 AA (KX Jl);obtain⟨a7,v7,h7⟩:=H9 PY h 7 3 7 1 AA (KX Jl);obtain⟨a8,v8,h8⟩:=H9 PY h 8 27 8 1 AA (aK (sz:=1) aAp AA Bf (fun _=>rfl) (KX Jl));obtain⟨a9,v9,h9⟩:=H9 PY h 9 27 9 1 AA (aK (sz:=1) aAp AA Bf (fun _=>rfl) (KX Jl));obtain⟨j,q,u⟩:=H9 PY h 10 34 10 16 AA (aij enc w base spare held);obtain⟨z,I,J⟩:=H9 PY h 11 3 26 1 AA (KX Jl);obtain⟨L,M,O⟩:=H9 PY h 12 36 27 2 AA (ajz enc w base spare held);exact⟨⟨a0,Z,a2,a3,a4,a5,a6,a7,a8,a9,j,z,L⟩,⟨U,v1,v2,v3,v4,v5,v6,v7,v8,v9,q,I,M⟩,jo [1,1,1,1,1,1,1,1,1,1,16,1,2] gI (Em.append Y (Em.append h1 (Em.append h2 (Em.append h3 (Em.append h4 (Em.append h5 (Em.append h6 (Em.append h7 (Em.append h8 (Em.append h9 (Em.append u (Em.append J (Em.append O (Em.nil w))))))))))))))⟩
end
section
open Go.ChangeShapes Go.WideShapes Go.ChangeAt Go.RowKit
def Tryz.aeT:ownKnob Ah.godebug=none:=AA
def Tryz.CZ:laidOutB Ah=true:=AA
set_option maxHeartbeats 1600000 in
set_option maxRecDepth 100000 in
def aiI (os:Os) (started:os.Started) (H:Type) (enc:Bj×Ai->H):
 ReturnsInHanded {} Tryz.checked os 3 .any (Rows.digestConvergesSpec.pre6 enc Ah Tryz.f3 Rows.digestConvergesRow.domain false) (Rows.digestConvergesSpec.post enc Ah Tryz.f3 false true false false):=by
 refine returnsInHanded_of_change (C:=Tryz.checked) Tryz.aeT started AA func3
  (ChangeSpec.witness6 (enc:=enc) (C:=Tryz.checked) false ⟨#[], #[.slice none 0 0,.int .u8 0],[]⟩ 8 AA AA AA AA) ?_
 intro W base args ds gs before u hW _ _;have z:∀(j:Nat) t v,Tryz.f3.params[j]? =some t->args[j]? =some v->Value.okWide Ah W .any base t v:=u;have I:=hW;obtain⟨p,q,O,hV,rfl,_,_⟩:=hW;have hA:DataW.TrodAll enc Ah W 0 (fun _=>true) true Tryz.f3.params.toList args.toList ds p:=O;rw[Tryz.params3]at hA z;obtain⟨v0,v1,d0,d1,p0,p1,rfl,rfl,rfl,h0,h1⟩:=trodAll_two hA;obtain⟨rfl,rfl⟩:=trodVars_none hV;obtain⟨w0,u0n,u0c,rfl⟩:=okWide_slice nE (z 0 22 v0 rfl rfl);have h0k:=h0;obtain⟨fuel0,hf0⟩:=h0;obtain⟨r0,U,hc0⟩:=(aK (sz:=29) nE AA Bf (fun _=>rfl) (akJ enc W _ _ _)) _ _ _ hf0;have hr0:=aOO (x:=(BO Am) r0) rfl rfl hc0;obtain⟨w1,rfl⟩:=okWide_int jf (z 1 5 v1 rfl rfl);have h1k:=h1;obtain⟨fuel1,hf1⟩:=h1;obtain⟨r1,Y,hc1⟩:=(KX jf) _ _ _ hf1;have hr1:=aOO (x:=DI r1) rfl rfl hc1;clear O u;simp only[UW]at I;have Z:∀x∈p0,x.block<W.heap.size:=fun x hx=>by simpa using I.lt x (by simp[hx])
 have J:∀(W':BG),Below W.heap.size W W'->DataW.Trod enc Ah W' 0 (fun b=>b<W.heap.size) true 22 (.slice w0 u0n u0c) d0 p0:=
  fun W' M=>Below.trod Tryz.CZ AA (QV AA) h0k M Z
 have hlt1:∀x∈p1,x.block<W.heap.size:=fun x hx=>by simpa using I.lt x (by simp[hx])
 have L:∀(W':BG),Below W.heap.size W W'->DataW.Trod enc Ah W' 0 (fun b=>b<W.heap.size) true 5 (.int .u8 w1) d1 p1:=
  fun W' M=>Below.trod Tryz.CZ AA (QV AA) h1k M hlt1
 refine(Ei.law (xs:=[(BO Am) r0,DI r1]) (W:=W) (adh r0 r1 true (akX r0 r1 U Y)) rfl (fun i hi=>?_)).mono fun e W' he=>?_
 ·match i,hi with
  |0,_=>exact hr0
  |1,_=>exact hr1
 obtain⟨rfl,M⟩:=he;exact⟨_,rfl,_,_,_,[],(p0++p1),[],I,trodAll_mk1 (shut_bool Zn _),trodAll_mk2 (J W' M) (L W' M),rfl,M.frame _,fun h=>Gz⟩
def Tryz.Yh:mapsRowed Ah=true:=AA
def Tryz.aaq:Ah.inPlace 3=["internal/bytealg.IndexByteString", "internal/bytealg.IndexString", "slices.overlaps[fedchat/api.Event]"]:=AA
def Tryz.Ip:Ah.unfollowed 3=true:=AA
def Tryz.Yo:Ah.recurses 3=true:=by unfold Program.recurses;rw[Tryz.Ip];rfl
def Tryz.acP:Ah.varsNamed 3=["internal/bytealg.MaxLen"]:=AA
def Tryz.Yi:(Rows.digestConvergesRow.plainKeys==Ah.plainKeys)=true:=AA
def Tryz.VU:Ah.stopsHeard=true:=AA
def Tryz.Yp:Ah.mayEnter=true:=AA
def Tryz.abz:(Rows.digestConvergesRow.lifted==Ah.liftsFinal)=true:=AA
def Tryz.ady:(Ah.make==some Rows.digestConvergesRow.make)=true:=AA
def Tryz.abA:joinedFacts Ah 3 Tryz.f3 Rows.digestConvergesSpec Rows.digestConvergesRow=true:=by
 unfold joinedFacts;rw[Tryz.CZ,Tryz.Yh,Tryz.aaq,Tryz.Ip,Tryz.Yo,Tryz.acP,Tryz.Yi,Tryz.VU,Tryz.Yp,Tryz.abz,Tryz.ady];kernel_rfl
theorem digestConverges_holds :Rows.DigestConvergesSaid:=
 OpenClaim.holds_of_wide 3 Tryz.f3 rfl rfl rfl rfl rfl rfl rfl ⟨rfl,rfl,rfl,rfl,rfl⟩ rfl rfl rfl rfl rfl AA func3 Tryz.abA
  (QV AA) (by unfold Func.isWrapper;first|(rw[D8 MS];kernel_rfl)|(rw[DU MS];exact⟨rfl,rfl⟩))
  (fun os j H enc _=>aiI os j H enc)
end
end Go.Proofs.YtfmoknlmaldmlaaGreat
