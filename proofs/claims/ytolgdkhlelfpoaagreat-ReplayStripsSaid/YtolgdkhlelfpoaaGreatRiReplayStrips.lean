/- The law ReplayStrips holds (short forms written by wip/shrink.py; no condition). -/
import Derived.Test.YtolgdkhlelfpoaaGreatRi6
set_option linter.defProp false
set_option linter.unnecessarySimpa false
set_option linter.unusedVariables false
set_option linter.unusedSimpArgs false
section
namespace Go.Proofs.YtolgdkhlelfpoaaGreat
open Go.RowKit
def aLP (x:He):Prop:=x.User.size≤maxLen∧(IntKind.i64.min≤x.N∧x.N≤IntKind.i64.max)
set_option maxRecDepth 20000 in
def agq {H:Type} (enc:TypeId×Value→H) (w:World) (base:Nat) (spare:Nat→Bool) (held:Bool):PW enc Tryz.prog w base spare held 173 ES aLP:=by
 intro BA cs x h;have f:=aN Tryz.underlying173 h 2 A8;obtain⟨a0,j,m⟩:=Fa Tryz.underlying173 h 0 9 0 1 A8 (UR OM);obtain⟨q,s,u⟩:=Fa Tryz.underlying173 h 1 3 1 1 A8 (JQ IB);exact⟨⟨a0,q⟩,⟨j,s⟩,bT [1,1] UW (E9.append m (E9.append u (E9.nil w)))⟩
def aa0 (x:IL):Prop:=(IntKind.i64.min≤x.Kind∧x.Kind≤IntKind.i64.max)∧(IntKind.i64.min≤x.N∧x.N≤IntKind.i64.max)
set_option maxRecDepth 20000 in
def aoC {H:Type} (enc:TypeId×Value→H) (w:World) (base:Nat) (spare:Nat→Bool) (held:Bool):PW enc Tryz.prog w base spare held 208 EY aa0:=by
 intro BA cs x h;have f:=aN Tryz.underlying208 h 2 A8;obtain⟨a0,j,m⟩:=Fa Tryz.underlying208 h 0 44 0 1 A8 (JQ Tryz.underlying44);obtain⟨q,s,u⟩:=Fa Tryz.underlying208 h 1 3 1 1 A8 (JQ IB);exact⟨⟨a0,q⟩,⟨j,s⟩,bT [1,1] UW (E9.append m (E9.append u (E9.nil w)))⟩
def aIm (x:D9):Prop:=(x.Users.length≤maxLen∧∀f∈x.Users,aLP f)∧(x.Kinds.length≤maxLen∧∀j∈x.Kinds,aa0 j)∧(IntKind.i64.min≤x.User∧x.User≤IntKind.i64.max)∧(IntKind.i64.min≤x.Message∧x.Message≤IntKind.i64.max)∧(IntKind.i64.min≤x.State∧x.State≤IntKind.i64.max)∧(IntKind.i64.min≤x.gB∧x.gB≤IntKind.i64.max)∧(IntKind.i64.min≤x.jT∧x.jT≤IntKind.i64.max)∧(IntKind.i64.min≤x.nX∧x.nX≤IntKind.i64.max)∧(IntKind.i64.min≤x.gY∧x.gY≤IntKind.i64.max)
set_option maxRecDepth 20000 in
def ard {H:Type} (enc:TypeId×Value→H) (w:World) (base:Nat) (spare:Nat→Bool) (held:Bool):PW enc Tryz.prog w base spare held 49 Ea aIm:=by
 intro BA cs x h;have f:=aN SE h 9 A8;obtain⟨a0,j,m⟩:=Fa SE h 0 46 0 1 A8 (YJ (sz:=2) Tryz.underlying46 A8 BU (fun _=>rfl) (agq enc w base spare held));obtain⟨q,s,u⟩:=Fa SE h 1 47 1 1 A8 (YJ (sz:=2) Tryz.underlying47 A8 BU (fun _=>rfl) (aoC enc w base spare held));obtain⟨z,I,J⟩:=Fa SE h 2 3 2 1 A8 (JQ IB);obtain⟨L,M,O⟩:=Fa SE h 3 3 3 1 A8 (JQ IB);obtain⟨U,Y,Z⟩:=Fa SE h 4 3 4 1 A8 (JQ IB);obtain⟨a5,v5,h5⟩:=Fa SE h 5 3 5 1 A8 (JQ IB);obtain⟨a6,v6,h6⟩:=Fa SE h 6 3 6 1 A8 (JQ IB);obtain⟨a7,v7,h7⟩:=Fa SE h 7 3 7 1 A8 (JQ IB);obtain⟨a8,v8,h8⟩:=Fa SE h 8 3 8 1 A8 (JQ IB);exact⟨⟨a0,q,z,L,U,a5,a6,a7,a8⟩,⟨j,s,I,M,Y,v5,v6,v7,v8⟩,bT [1,1,1,1,1,1,1,1,1] UW (E9.append m (E9.append u (E9.append J (E9.append O (E9.append Z (E9.append h5 (E9.append h6 (E9.append h7 (E9.append h8 (E9.nil w))))))))))⟩
def aa3 (x:Bo):Prop:=x.Text.size≤maxLen∧(IntKind.i64.min≤x.N∧x.N≤IntKind.i64.max)∧(IntKind.i64.min≤x.Target∧x.Target≤IntKind.i64.max)∧True∧x.Via.size≤maxLen∧(x.Allow.length≤maxLen∧∀f∈x.Allow,f.size≤maxLen)∧(x.gu.length≤maxLen∧∀j∈x.gu,j.size≤maxLen)∧aIm x.Levels
set_option maxRecDepth 20000 in
def ajD {H:Type} (enc:TypeId×Value→H) (w:World) (base:Nat) (spare:Nat→Bool) (held:Bool):PW enc Tryz.prog w base spare held 51 EK aa3:=by
 intro BA cs x h;have f:=aN VH h 16 A8;obtain⟨a0,j,m⟩:=Fa VH h 0 9 0 1 A8 (UR OM);obtain⟨q,s,u⟩:=Fa VH h 1 3 1 1 A8 (JQ IB);obtain⟨z,I,J⟩:=Fa VH h 2 3 2 1 A8 (JQ IB);obtain⟨L,M,O⟩:=Fa VH h 3 4 3 1 A8 (acp V5);obtain⟨U,Y,Z⟩:=Fa VH h 4 9 4 1 A8 (UR OM);obtain⟨a5,v5,h5⟩:=Fa VH h 5 45 5 1 A8 (YJ (sz:=1) Tryz.underlying45 A8 BU (fun _=>rfl) (UR OM));obtain⟨a6,v6,h6⟩:=Fa VH h 6 45 6 1 A8 (YJ (sz:=1) Tryz.underlying45 A8 BU (fun _=>rfl) (UR OM));obtain⟨a7,v7,h7⟩:=Fa VH h 7 49 7 9 A8 (ard enc w base spare held);exact⟨⟨a0,q,z,L,U,a5,a6,a7⟩,⟨j,s,I,M,Y,v5,v6,v7⟩,bT [1,1,1,1,1,1,1,9] UW (E9.append m (E9.append u (E9.append J (E9.append O (E9.append Z (E9.append h5 (E9.append h6 (E9.append h7 (E9.nil w)))))))))⟩
def aKY (x:Na):Prop:=x.Server.size≤maxLen∧(IntKind.i64.min≤x.Sum∧x.Sum≤IntKind.i64.max)
set_option maxRecDepth 20000 in
def aib {H:Type} (enc:TypeId×Value→H) (w:World) (base:Nat) (spare:Nat→Bool) (held:Bool):PW enc Tryz.prog w base spare held 53 aiG aKY:=by
 intro BA cs x h;have f:=aN Tryz.underlying53 h 2 A8;obtain⟨a0,j,m⟩:=Fa Tryz.underlying53 h 0 9 0 1 A8 (UR OM);obtain⟨q,s,u⟩:=Fa Tryz.underlying53 h 1 3 1 1 A8 (JQ IB);exact⟨⟨a0,q⟩,⟨j,s⟩,bT [1,1] UW (E9.append m (E9.append u (E9.nil w)))⟩
def aAG (x:AP):Prop:=(IntKind.i64.min≤x.Id∧x.Id≤IntKind.i64.max)∧x.Room.size≤maxLen∧x.bF.size≤maxLen∧(IntKind.i64.min≤x.Kind∧x.Kind≤IntKind.i64.max)∧True∧x.Key.size≤maxLen∧(IntKind.i64.min≤x.Time∧x.Time≤IntKind.i64.max)∧(IntKind.i64.min≤x.Depth∧x.Depth≤IntKind.i64.max)∧(x.bD.length≤maxLen∧∀f∈x.bD,(IntKind.i64.min≤f∧f≤IntKind.i64.max))∧(x.bM.length≤maxLen∧∀j∈x.bM,(IntKind.i64.min≤j∧j≤IntKind.i64.max))∧aa3 x.Content∧(IntKind.i64.min≤x.Hash∧x.Hash≤IntKind.i64.max)∧aKY x.pR
set_option maxRecDepth 20000 in
def apY {H:Type} (enc:TypeId×Value→H) (w:World) (base:Nat) (spare:Nat→Bool) (held:Bool):PW enc Tryz.prog w base spare held 55 Am aAG:=by
 intro BA cs x h;have L:=aN Nk h 29 A8;obtain⟨a0,M,O⟩:=Fa Nk h 0 3 0 1 A8 (JQ IB);obtain⟨U,Y,Z⟩:=Fa Nk h 1 9 1 1 A8 (UR OM);obtain⟨a2,v2,h2⟩:=Fa Nk h 2 9 2 1 A8 (UR OM);obtain⟨a3,v3,h3⟩:=Fa Nk h 3 44 3 1 A8 (JQ Tryz.underlying44);obtain⟨a4,v4,h4⟩:=Fa Nk h 4 4 4 1 A8 (acp V5);obtain⟨a5,v5,h5⟩:=Fa Nk h 5 9 5 1 A8 (UR OM);obtain⟨a6,v6,h6⟩:=Fa Nk h 6 3 6 1 A8 (JQ IB);obtain⟨a7,v7,h7⟩:=Fa Nk h 7 3 7 1 A8 (JQ IB);obtain⟨a8,v8,h8⟩:=Fa Nk h 8 24 8 1 A8 (YJ (sz:=1) yg A8 BU (fun _=>rfl) (JQ IB));obtain⟨a9,v9,h9⟩:=Fa Nk h 9 24 9 1 A8 (YJ (sz:=1) yg A8 BU (fun _=>rfl) (JQ IB));obtain⟨f,j,m⟩:=Fa Nk h 10 51 10 16 A8 (ajD enc w base spare held);obtain⟨q,s,u⟩:=Fa Nk h 11 3 26 1 A8 (JQ IB);obtain⟨z,I,J⟩:=Fa Nk h 12 53 27 2 A8 (aib enc w base spare held);exact⟨⟨a0,U,a2,a3,a4,a5,a6,a7,a8,a9,f,q,z⟩,⟨M,Y,v2,v3,v4,v5,v6,v7,v8,v9,j,s,I⟩,bT [1,1,1,1,1,1,1,1,1,1,16,1,2] (by rw[L];rfl) (E9.append O (E9.append Z (E9.append h2 (E9.append h3 (E9.append h4 (E9.append h5 (E9.append h6 (E9.append h7 (E9.append h8 (E9.append h9 (E9.append m (E9.append u (E9.append J (E9.nil w))))))))))))))⟩
def asx {e:AP} (h:aAG e):Qd e:=by
 obtain⟨_,f,j,_,_,m,_,_,⟨q,_⟩,⟨s,_⟩,z,_,I⟩:=h;obtain⟨J,_,_,_,L,⟨M,O⟩,⟨U,Y⟩,Z⟩:=z;obtain⟨⟨l1,l2⟩,⟨l3,_⟩,_⟩:=Z;exact⟨q,s,f,j,m,I.1,⟨M,U,l1,l3,J,L,O,Y,fun u hu=>(l2 u hu).1⟩⟩
def afn {l:List AP} (h:l.length≤maxLen∧∀y∈l,aAG y):∀e∈l,Qd e:=fun e f=>asx (h.2 e f)
def arZ (l:List AP) (w:Int) (h:l.length≤maxLen∧∀y∈l,aAG y) {P:Prop} (_:P):aBv l w=some true:=aqQ (afn h) w
end Go.Proofs.YtolgdkhlelfpoaaGreat
end
section
namespace Go.Proofs.YtolgdkhlelfpoaaGreat
open Go.ChangeShapes Go.WideShapes Go.ChangeAt Go.RowKit
def Tryz.ahf:ownKnob Tryz.prog.godebug=none:=A8
def Tryz.Fb:laidOutB Tryz.prog=true:=A8
set_option maxHeartbeats 1600000 in
set_option maxRecDepth 100000 in
def akk (os:Os) (started:os.Started) (H:Type) (enc:TypeId×Value→H):
 ReturnsInHanded {} Tryz.checked os 13 .any (Rows.replayStripsSpec.pre6 enc Tryz.prog Tryz.f13 Rows.replayStripsRow.domain false) (Rows.replayStripsSpec.post enc Tryz.prog Tryz.f13 false true false false):=by
 refine returnsInHanded_of_change (C:=Tryz.checked) Tryz.ahf started A8 Tryz.func13
  (ChangeSpec.witness6 (enc:=enc) (C:=Tryz.checked) false ⟨#[], #[.slice none 0 0,.int .u16 0],[]⟩ 8 A8 A8 A8 A8) ?_
 intro W base args ds gs before f hW _ _;have m:∀(j:Nat) t v,Tryz.f13.params[j]? =some t→args[j]? =some v→Value.okWide Tryz.prog W .any base t v:=f;have s:=hW;obtain⟨p,q,J,hV,rfl,_,_⟩:=hW;have hA:DataW.TrodAll enc Tryz.prog W 0 (fun _=>true) true Tryz.f13.params.toList args.toList ds p:=J;rw[Tryz.params13]at hA m;obtain⟨v0,v1,d0,d1,p0,p1,rfl,rfl,rfl,h0,h1⟩:=trodAll_two hA;obtain⟨rfl,rfl⟩:=trodVars_none hV;obtain⟨w0,u0n,u0c,rfl⟩:=okWide_slice jq (m 0 22 v0 rfl rfl);have h0k:=h0;obtain⟨fuel0,hf0⟩:=h0;obtain⟨Y,L,hc0⟩:=(YJ (sz:=29) jq A8 BU (fun _=>rfl) (apY enc W _ _ _)) _ _ _ hf0;have hr0:=aJy (x:=(Ai Am) Y) rfl rfl hc0;obtain⟨w1,rfl⟩:=okWide_int Tryz.underlying88 (m 1 88 v1 rfl rfl);have h1k:=h1;obtain⟨fuel1,hf1⟩:=h1;obtain⟨Z,M,hc1⟩:=(JQ Tryz.underlying88) _ _ _ hf1;have hr1:=aJy (x:=(Qo .u16) Z) rfl rfl hc1;clear J f;simp only[TJ]at s;have O:∀x∈p0,x.block<W.heap.size:=fun x hx=>by simpa using s.lt x (by simp[hx])
 have u:∀(W':World),Below W.heap.size W W'→DataW.Trod enc Tryz.prog W' 0 (fun b=>decide (b<W.heap.size)) true 22 (.slice w0 u0n u0c) d0 p0:=
  fun W' I=>Below.trod Tryz.Fb A8 (UM A8) h0k I O
 have U:∀x∈p1,x.block<W.heap.size:=fun x hx=>by simpa using s.lt x (by simp[hx])
 have z:∀(W':World),Below W.heap.size W W'→DataW.Trod enc Tryz.prog W' 0 (fun b=>decide (b<W.heap.size)) true 88 (.int .u16 w1) d1 p1:=
  fun W' I=>Below.trod Tryz.Fb A8 (UM A8) h1k I U
 refine(Ak.law (xs:=[(Ai Am) Y,(Qo .u16) Z]) (W:=W) (ait Y Z true (arZ Y Z L M)) rfl (fun i hi=>?_)).mono fun e W' he=>?_
 ·match i,hi with
  |0,_=>exact hr0
  |1,_=>exact hr1
 obtain⟨rfl,I⟩:=he;exact⟨_,rfl,_,_,_,[],(p0++p1),[],s,trodAll_mk1 (shut_bool V5 _),trodAll_mk2 (u W' I) (z W' I),rfl,I.frame _,fun h=>Gz⟩
def Tryz.ZC:mapsRowed Tryz.prog=true:=A8
def Tryz.abA:Tryz.prog.inPlace 13=["slices.overlaps[fedchat/api.Event]", "internal/bytealg.IndexByteString", "internal/bytealg.IndexString"]:=A8
def Tryz.JI:Tryz.prog.unfollowed 13=true:=A8
def Tryz.aaR:Tryz.prog.recurses 13=true:=by unfold Program.recurses;rw[Tryz.JI];rfl
def Tryz.adR:Tryz.prog.varsNamed 13=["internal/bytealg.MaxLen"]:=A8
def Tryz.ZE:(Rows.replayStripsRow.plainKeys==Tryz.prog.plainKeys)=true:=A8
def Tryz.Yz:Tryz.prog.stopsHeard=true:=A8
def Tryz.aaS:Tryz.prog.mayEnter=true:=A8
def Tryz.ac4:(Rows.replayStripsRow.lifted==Tryz.prog.liftsFinal)=true:=A8
def Tryz.afF:(Tryz.prog.make==some Rows.replayStripsRow.make)=true:=A8
def Tryz.ac5:joinedFacts Tryz.prog 13 Tryz.f13 Rows.replayStripsSpec Rows.replayStripsRow=true:=by
 unfold joinedFacts;rw[Tryz.Fb,Tryz.ZC,Tryz.abA,Tryz.JI,Tryz.aaR,Tryz.adR,Tryz.ZE,Tryz.Yz,Tryz.aaS,Tryz.ac4,Tryz.afF];kernel_rfl
theorem replayStrips_holds :Rows.ReplayStripsSaid:=
 OpenClaim.holds_of_wide 13 Tryz.f13 rfl rfl rfl rfl rfl rfl rfl ⟨rfl,rfl,rfl,rfl,rfl⟩ rfl rfl rfl rfl rfl A8 Tryz.func13 Tryz.ac5
  (UM A8) (by unfold Func.isWrapper;first|(rw[Ch Kz];kernel_rfl)|(rw[D8 Kz];exact⟨rfl,rfl⟩))
  (fun os f H enc _=>akk os f H enc)
end Go.Proofs.YtolgdkhlelfpoaaGreat
end
