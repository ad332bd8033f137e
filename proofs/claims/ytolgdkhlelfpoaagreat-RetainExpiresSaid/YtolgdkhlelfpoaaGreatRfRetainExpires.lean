/- The law RetainExpires holds (short forms written by wip/shrink.py; no condition). -/
import Derived.Test.YtolgdkhlelfpoaaGreatRf7
set_option linter.defProp false
set_option linter.unnecessarySimpa false
set_option linter.unusedVariables false
set_option linter.unusedSimpArgs false
section
namespace Go.Proofs.YtolgdkhlelfpoaaGreat
open Go.RowKit
def rC (x:Gw):Prop:=x.User.size≤maxLen∧(IntKind.i64.min≤x.N∧x.N≤IntKind.i64.max)
set_option maxRecDepth 20000 in
def aKS {H:Type} (enc:TypeId×Value→H) (w:World) (base:Nat) (spare:Nat→Bool) (held:Bool):IU enc Tryz.prog w base spare held 173 EK rC:=by
 intro Ap cs x h;have f:=Jr kX h 2 A8;obtain⟨a0,j,m⟩:=Ci kX h 0 9 0 1 A8 (J4 Hl);obtain⟨n,q,s⟩:=Ci kX h 1 3 1 1 A8 (EI EH);exact⟨⟨a0,n⟩,⟨j,q⟩,Jw [1,1] JF (Bz.append m (Bz.append s (Bz.nil w)))⟩
def uq (x:Iz):Prop:=(IntKind.i64.min≤x.Kind∧x.Kind≤IntKind.i64.max)∧(IntKind.i64.min≤x.N∧x.N≤IntKind.i64.max)
set_option maxRecDepth 20000 in
def aI2 {H:Type} (enc:TypeId×Value→H) (w:World) (base:Nat) (spare:Nat→Bool) (held:Bool):IU enc Tryz.prog w base spare held 208 EP uq:=by
 intro Ap cs x h;have f:=Jr kC h 2 A8;obtain⟨a0,j,m⟩:=Ci kC h 0 44 0 1 A8 (EI eL);obtain⟨n,q,s⟩:=Ci kC h 1 3 1 1 A8 (EI EH);exact⟨⟨a0,n⟩,⟨j,q⟩,Jw [1,1] JF (Bz.append m (Bz.append s (Bz.nil w)))⟩
def oz (x:CG):Prop:=(x.Users.length≤maxLen∧∀f∈x.Users,rC f)∧(x.Kinds.length≤maxLen∧∀h∈x.Kinds,uq h)∧(IntKind.i64.min≤x.User∧x.User≤IntKind.i64.max)∧(IntKind.i64.min≤x.Message∧x.Message≤IntKind.i64.max)∧(IntKind.i64.min≤x.State∧x.State≤IntKind.i64.max)∧(IntKind.i64.min≤x.gK∧x.gK≤IntKind.i64.max)∧(IntKind.i64.min≤x.jV∧x.jV≤IntKind.i64.max)∧(IntKind.i64.min≤x.mW∧x.mW≤IntKind.i64.max)∧(IntKind.i64.min≤x.gZ∧x.gZ≤IntKind.i64.max)
set_option maxRecDepth 20000 in
def aNP {H:Type} (enc:TypeId×Value→H) (w:World) (base:Nat) (spare:Nat→Bool) (held:Bool):IU enc Tryz.prog w base spare held 49 E9 oz:=by
 intro Ap cs x h;have f:=Jr La h 9 A8;obtain⟨a0,j,m⟩:=Ci La h 0 46 0 1 A8 (Iu (sz:=2) Tryz.underlying46 A8 BQ (fun _=>rfl) (aKS enc w base spare held));obtain⟨n,q,s⟩:=Ci La h 1 47 1 1 A8 (Iu (sz:=2) Tryz.underlying47 A8 BQ (fun _=>rfl) (aI2 enc w base spare held));obtain⟨u,z,I⟩:=Ci La h 2 3 2 1 A8 (EI EH);obtain⟨J,L,M⟩:=Ci La h 3 3 3 1 A8 (EI EH);obtain⟨O,S,U⟩:=Ci La h 4 3 4 1 A8 (EI EH);obtain⟨Y,Z,h5⟩:=Ci La h 5 3 5 1 A8 (EI EH);obtain⟨a6,v6,h6⟩:=Ci La h 6 3 6 1 A8 (EI EH);obtain⟨a7,v7,h7⟩:=Ci La h 7 3 7 1 A8 (EI EH);obtain⟨a8,v8,h8⟩:=Ci La h 8 3 8 1 A8 (EI EH);exact⟨⟨a0,n,u,J,O,Y,a6,a7,a8⟩,⟨j,q,z,L,S,Z,v6,v7,v8⟩,Jw [1,1,1,1,1,1,1,1,1] JF (Bz.append m (Bz.append s (Bz.append I (Bz.append M (Bz.append U (Bz.append h5 (Bz.append h6 (Bz.append h7 (Bz.append h8 (Bz.nil w))))))))))⟩
def vO (x:CU):Prop:=x.Text.size≤maxLen∧(IntKind.i64.min≤x.N∧x.N≤IntKind.i64.max)∧(IntKind.i64.min≤x.Target∧x.Target≤IntKind.i64.max)∧True∧x.Via.size≤maxLen∧(x.Allow.length≤maxLen∧∀f∈x.Allow,f.size≤maxLen)∧(x.gY.length≤maxLen∧∀h∈x.gY,h.size≤maxLen)∧oz x.Levels
set_option maxRecDepth 20000 in
def aLI {H:Type} (enc:TypeId×Value→H) (w:World) (base:Nat) (spare:Nat→Bool) (held:Bool):IU enc Tryz.prog w base spare held 51 Ea vO:=by
 intro Ap cs x h;have f:=Jr N9 h 16 A8;obtain⟨a0,j,m⟩:=Ci N9 h 0 9 0 1 A8 (J4 Hl);obtain⟨n,q,s⟩:=Ci N9 h 1 3 1 1 A8 (EI EH);obtain⟨u,z,I⟩:=Ci N9 h 2 3 2 1 A8 (EI EH);obtain⟨J,L,M⟩:=Ci N9 h 3 4 3 1 A8 (lU PS);obtain⟨O,S,U⟩:=Ci N9 h 4 9 4 1 A8 (J4 Hl);obtain⟨Y,Z,h5⟩:=Ci N9 h 5 45 5 1 A8 (Iu (sz:=1) aEJ A8 BQ (fun _=>rfl) (J4 Hl));obtain⟨a6,v6,h6⟩:=Ci N9 h 6 45 6 1 A8 (Iu (sz:=1) aEJ A8 BQ (fun _=>rfl) (J4 Hl));obtain⟨a7,v7,h7⟩:=Ci N9 h 7 49 7 9 A8 (aNP enc w base spare held);exact⟨⟨a0,n,u,J,O,Y,a6,a7⟩,⟨j,q,z,L,S,Z,v6,v7⟩,Jw [1,1,1,1,1,1,1,9] JF (Bz.append m (Bz.append s (Bz.append I (Bz.append M (Bz.append U (Bz.append h5 (Bz.append h6 (Bz.append h7 (Bz.nil w)))))))))⟩
def yT (x:QU):Prop:=x.Server.size≤maxLen∧(IntKind.i64.min≤x.Sum∧x.Sum≤IntKind.i64.max)
set_option maxRecDepth 20000 in
def aI6 {H:Type} (enc:TypeId×Value→H) (w:World) (base:Nat) (spare:Nat→Bool) (held:Bool):IU enc Tryz.prog w base spare held 53 aQ0 yT:=by
 intro Ap cs x h;have f:=Jr jB h 2 A8;obtain⟨a0,j,m⟩:=Ci jB h 0 9 0 1 A8 (J4 Hl);obtain⟨n,q,s⟩:=Ci jB h 1 3 1 1 A8 (EI EH);exact⟨⟨a0,n⟩,⟨j,q⟩,Jw [1,1] JF (Bz.append m (Bz.append s (Bz.nil w)))⟩
def bg (x:AX):Prop:=(IntKind.i64.min≤x.Id∧x.Id≤IntKind.i64.max)∧x.Room.size≤maxLen∧x.bH.size≤maxLen∧(IntKind.i64.min≤x.Kind∧x.Kind≤IntKind.i64.max)∧True∧x.Key.size≤maxLen∧(IntKind.i64.min≤x.Time∧x.Time≤IntKind.i64.max)∧(IntKind.i64.min≤x.Depth∧x.Depth≤IntKind.i64.max)∧(x.bK.length≤maxLen∧∀f∈x.bK,(IntKind.i64.min≤f∧f≤IntKind.i64.max))∧(x.bP.length≤maxLen∧∀h∈x.bP,(IntKind.i64.min≤h∧h≤IntKind.i64.max))∧vO x.Content∧(IntKind.i64.min≤x.Hash∧x.Hash≤IntKind.i64.max)∧yT x.qR
set_option maxRecDepth 20000 in
def yD {H:Type} (enc:TypeId×Value→H) (w:World) (base:Nat) (spare:Nat→Bool) (held:Bool):IU enc Tryz.prog w base spare held 55 Aq bg:=by
 intro Ap cs x h;have J:=Jr IQ h 29 A8;obtain⟨a0,L,M⟩:=Ci IQ h 0 3 0 1 A8 (EI EH);obtain⟨O,S,U⟩:=Ci IQ h 1 9 1 1 A8 (J4 Hl);obtain⟨Y,Z,h2⟩:=Ci IQ h 2 9 2 1 A8 (J4 Hl);obtain⟨a3,v3,h3⟩:=Ci IQ h 3 44 3 1 A8 (EI eL);obtain⟨a4,v4,h4⟩:=Ci IQ h 4 4 4 1 A8 (lU PS);obtain⟨a5,v5,h5⟩:=Ci IQ h 5 9 5 1 A8 (J4 Hl);obtain⟨a6,v6,h6⟩:=Ci IQ h 6 3 6 1 A8 (EI EH);obtain⟨a7,v7,h7⟩:=Ci IQ h 7 3 7 1 A8 (EI EH);obtain⟨a8,v8,h8⟩:=Ci IQ h 8 24 8 1 A8 (Iu (sz:=1) YX A8 BQ (fun _=>rfl) (EI EH));obtain⟨a9,v9,h9⟩:=Ci IQ h 9 24 9 1 A8 (Iu (sz:=1) YX A8 BQ (fun _=>rfl) (EI EH));obtain⟨f,j,m⟩:=Ci IQ h 10 51 10 16 A8 (aLI enc w base spare held);obtain⟨n,q,s⟩:=Ci IQ h 11 3 26 1 A8 (EI EH);obtain⟨u,z,I⟩:=Ci IQ h 12 53 27 2 A8 (aI6 enc w base spare held);exact⟨⟨a0,O,Y,a3,a4,a5,a6,a7,a8,a9,f,n,u⟩,⟨L,S,Z,v3,v4,v5,v6,v7,v8,v9,j,q,z⟩,Jw [1,1,1,1,1,1,1,1,1,1,16,1,2] (by rw[J];rfl) (Bz.append M (Bz.append U (Bz.append h2 (Bz.append h3 (Bz.append h4 (Bz.append h5 (Bz.append h6 (Bz.append h7 (Bz.append h8 (Bz.append h9 (Bz.append m (Bz.append s (Bz.append I (Bz.nil w))))))))))))))⟩
def vC (x:J9):Prop:=(IntKind.i64.min≤x.Pos∧x.Pos≤IntKind.i64.max)∧(IntKind.i64.min≤x.Id∧x.Id≤IntKind.i64.max)∧(IntKind.i64.min≤x.Status∧x.Status≤IntKind.i64.max)∧True
set_option maxRecDepth 20000 in
def aMh {H:Type} (enc:TypeId×Value→H) (w:World) (base:Nat) (spare:Nat→Bool) (held:Bool):IU enc Tryz.prog w base spare held 60 Fr vC:=by
 intro Ap cs x h;have f:=Jr Un h 4 A8;obtain⟨a0,j,m⟩:=Ci Un h 0 3 0 1 A8 (EI EH);obtain⟨n,q,s⟩:=Ci Un h 1 3 1 1 A8 (EI EH);obtain⟨u,z,I⟩:=Ci Un h 2 58 2 1 A8 (EI Tryz.underlying58);obtain⟨J,L,M⟩:=Ci Un h 3 4 3 1 A8 (lU PS);exact⟨⟨a0,n,u,J⟩,⟨j,q,z,L⟩,Jw [1,1,1,1] JF (Bz.append m (Bz.append s (Bz.append I (Bz.append M (Bz.nil w)))))⟩
def vJ (x:BH):Prop:=(IntKind.i64.min≤x.Kind∧x.Kind≤IntKind.i64.max)∧x.Key.size≤maxLen∧(IntKind.i64.min≤x.Id∧x.Id≤IntKind.i64.max)
set_option maxRecDepth 20000 in
def aJp {H:Type} (enc:TypeId×Value→H) (w:World) (base:Nat) (spare:Nat→Bool) (held:Bool):IU enc Tryz.prog w base spare held 92 BF vJ:=by
 intro Ap cs x h;have f:=Jr YL h 3 A8;obtain⟨a0,j,m⟩:=Ci YL h 0 44 0 1 A8 (EI eL);obtain⟨n,q,s⟩:=Ci YL h 1 9 1 1 A8 (J4 Hl);obtain⟨u,z,I⟩:=Ci YL h 2 3 2 1 A8 (EI EH);exact⟨⟨a0,n,u⟩,⟨j,q,z⟩,Jw [1,1,1] JF (Bz.append m (Bz.append s (Bz.append I (Bz.nil w))))⟩
def ru (x:Yd):Prop:=x.User.size≤maxLen∧(IntKind.i64.min≤x.Thread∧x.Thread≤IntKind.i64.max)∧(IntKind.i64.min≤x.Id∧x.Id≤IntKind.i64.max)∧(IntKind.i64.min≤x.Time∧x.Time≤IntKind.i64.max)
set_option maxRecDepth 20000 in
def aIM {H:Type} (enc:TypeId×Value→H) (w:World) (base:Nat) (spare:Nat→Bool) (held:Bool):IU enc Tryz.prog w base spare held 94 TM ru:=by
 intro Ap cs x h;have f:=Jr Ty h 4 A8;obtain⟨a0,j,m⟩:=Ci Ty h 0 9 0 1 A8 (J4 Hl);obtain⟨n,q,s⟩:=Ci Ty h 1 3 1 1 A8 (EI EH);obtain⟨u,z,I⟩:=Ci Ty h 2 3 2 1 A8 (EI EH);obtain⟨J,L,M⟩:=Ci Ty h 3 3 3 1 A8 (EI EH);exact⟨⟨a0,n,u,J⟩,⟨j,q,z,L⟩,Jw [1,1,1,1] JF (Bz.append m (Bz.append s (Bz.append I (Bz.append M (Bz.nil w)))))⟩
def oC (x:Yj):Prop:=x.User.size≤maxLen∧(IntKind.i64.min≤x.Until∧x.Until≤IntKind.i64.max)
set_option maxRecDepth 20000 in
def aKp {H:Type} (enc:TypeId×Value→H) (w:World) (base:Nat) (spare:Nat→Bool) (held:Bool):IU enc Tryz.prog w base spare held 96 Sr oC:=by
 intro Ap cs x h;have f:=Jr iI h 2 A8;obtain⟨a0,j,m⟩:=Ci iI h 0 9 0 1 A8 (J4 Hl);obtain⟨n,q,s⟩:=Ci iI h 1 3 1 1 A8 (EI EH);exact⟨⟨a0,n⟩,⟨j,q⟩,Jw [1,1] JF (Bz.append m (Bz.append s (Bz.nil w)))⟩
def aKa (x:Dl):Prop:=x.Id.size≤maxLen∧(x.Events.length≤maxLen∧∀n∈x.Events,bg n)∧(x.Rows.length≤maxLen∧∀q∈x.Rows,vC q)∧(x.Waiting.length≤maxLen∧∀s∈x.Waiting,bg s)∧(x.Ik.length≤maxLen∧∀f∈x.Ik,(IntKind.i64.min≤f∧f≤IntKind.i64.max))∧(x.State.length≤maxLen∧∀h∈x.State,vJ h)∧(IntKind.i64.min≤x.Next∧x.Next≤IntKind.i64.max)∧(x.lF.length≤maxLen∧∀j∈x.lF,ru j)∧(x.qI.length≤maxLen∧∀m∈x.qI,oC m)
set_option maxRecDepth 20000 in
def aMd {H:Type} (enc:TypeId×Value→H) (w:World) (base:Nat) (spare:Nat→Bool) (held:Bool):IU enc Tryz.prog w base spare held 30 ED aKa:=by
 intro Ap cs x h;have f:=Jr Jp h 9 A8;obtain⟨a0,j,m⟩:=Ci Jp h 0 9 0 1 A8 (J4 Hl);obtain⟨n,q,s⟩:=Ci Jp h 1 22 1 1 A8 (Iu (sz:=29) aH4 A8 BQ (fun _=>rfl) (yD enc w base spare held));obtain⟨u,z,I⟩:=Ci Jp h 2 23 2 1 A8 (Iu (sz:=4) Tryz.underlying23 A8 BQ (fun _=>rfl) (aMh enc w base spare held));obtain⟨J,L,M⟩:=Ci Jp h 3 22 3 1 A8 (Iu (sz:=29) aH4 A8 BQ (fun _=>rfl) (yD enc w base spare held));obtain⟨O,S,U⟩:=Ci Jp h 4 24 4 1 A8 (Iu (sz:=1) YX A8 BQ (fun _=>rfl) (EI EH));obtain⟨Y,Z,h5⟩:=Ci Jp h 5 26 5 1 A8 (Iu (sz:=3) Tryz.underlying26 A8 BQ (fun _=>rfl) (aJp enc w base spare held));obtain⟨a6,v6,h6⟩:=Ci Jp h 6 3 6 1 A8 (EI EH);obtain⟨a7,v7,h7⟩:=Ci Jp h 7 27 7 1 A8 (Iu (sz:=4) Tryz.underlying27 A8 BQ (fun _=>rfl) (aIM enc w base spare held));obtain⟨a8,v8,h8⟩:=Ci Jp h 8 28 8 1 A8 (Iu (sz:=2) Tryz.underlying28 A8 BQ (fun _=>rfl) (aKp enc w base spare held));exact⟨⟨a0,n,u,J,O,Y,a6,a7,a8⟩,⟨j,q,z,L,S,Z,v6,v7,v8⟩,Jw [1,1,1,1,1,1,1,1,1] JF (Bz.append m (Bz.append s (Bz.append I (Bz.append M (Bz.append U (Bz.append h5 (Bz.append h6 (Bz.append h7 (Bz.append h8 (Bz.nil w))))))))))⟩
end Go.Proofs.YtolgdkhlelfpoaaGreat
end
section
namespace Go.Proofs.YtolgdkhlelfpoaaGreat
open Go.ChangeShapes Go.WideShapes Go.ChangeAt Go.RowKit
def Tryz.amX:ownKnob Tryz.prog.godebug=none:=A8
def Tryz.Gt:laidOutB Tryz.prog=true:=A8
set_option maxHeartbeats 1600000 in
set_option maxRecDepth 100000 in
def akI (os:Os) (started:os.Started) (H:Type) (enc:TypeId×Value→H):
 ReturnsInHanded {} Tryz.checked os 6 .any (Rows.retainExpiresSpec.pre6 enc Tryz.prog Tryz.f6 Rows.retainExpiresRow.domain false) (Rows.retainExpiresSpec.post enc Tryz.prog Tryz.f6 false true false false):=by
 refine returnsInHanded_of_change (C:=Tryz.checked) Tryz.amX started A8 Tryz.func6
  (ChangeSpec.witness6 (enc:=enc) (C:=Tryz.checked) false ⟨#[], #[.agg #[.string { data:= #[] },.slice none 0 0,.slice none 0 0,.slice none 0 0,.slice none 0 0,.slice none 0 0,.int .i64 0,.slice none 0 0,.slice none 0 0],.int .i64 0],[]⟩ 8 A8 A8 A8 A8) ?_
 intro W base args ds gs before f hW _ _;have m:∀(j:Nat) t v,Tryz.f6.params[j]? =some t→args[j]? =some v→Value.okWide Tryz.prog W .any base t v:=f;have n:=hW;obtain⟨p,q,I,hV,rfl,_,_⟩:=hW;have hA:DataW.TrodAll enc Tryz.prog W 0 (fun _=>true) true Tryz.f6.params.toList args.toList ds p:=I;rw[Tryz.params6]at hA m;obtain⟨v0,v1,d0,d1,Y,Z,rfl,rfl,rfl,h0,h1⟩:=trodAll_two hA;obtain⟨rfl,rfl⟩:=trodVars_none hV;obtain⟨w0,rfl, -⟩:=okWide_struct Jp (m 0 30 v0 rfl rfl);have h0k:=h0;obtain⟨fuel0,hf0⟩:=h0;obtain⟨S,J,hc0⟩:=(aMd enc W _ _ _) _ _ _ hf0;have hr0:=aQU (x:=ED S) rfl hc0;obtain⟨w1,rfl⟩:=okWide_int EH (m 1 3 v1 rfl rfl);have h1k:=h1;obtain⟨fuel1,hf1⟩:=h1;obtain⟨U,L,hc1⟩:=(EI EH) _ _ _ hf1;have hr1:=acu (x:=AY U) rfl rfl hc1;clear I f;simp only[RZ]at n;have M:∀x∈Y,x.block<W.heap.size:=fun x hx=>zA
 have s:∀(W':World),Below W.heap.size W W'→DataW.Trod enc Tryz.prog W' 0 (fun b=>decide (b<W.heap.size)) true 30 (.agg w0) d0 Y:=
  fun W' z=>Below.trod Tryz.Gt A8 (TK A8) h0k z M
 have O:∀x∈Z,x.block<W.heap.size:=fun x hx=>zA
 have u:∀(W':World),Below W.heap.size W W'→DataW.Trod enc Tryz.prog W' 0 (fun b=>decide (b<W.heap.size)) true 3 (.int .i64 w1) d1 Z:=
  fun W' z=>Below.trod Tryz.Gt A8 (TK A8) h1k z O
 refine(Ak.law (xs:=[ED S,AY U]) (W:=W) (ar2 S U true (al7 S U J L)) rfl (fun i hi=>?_)).mono fun e W' he=>?_
 ·match i,hi with
  |0,_=>exact hr0
  |1,_=>exact hr1
 obtain⟨rfl,z⟩:=he;exact⟨_,rfl,_,_,_,[],(Y++Z),[],n,trodAll_mk1 (shut_bool PS _),trodAll_mk2 (s W' z) (u W' z),rfl,z.frame _,fun h=>He⟩
def Tryz.aei:mapsRowed Tryz.prog=true:=A8
def Tryz.ag5:Tryz.prog.inPlace 6=["internal/bytealg.IndexByteString", "internal/bytealg.IndexString"]:=A8
def Tryz.LC:Tryz.prog.unfollowed 6=true:=A8
def Tryz.afz:Tryz.prog.recurses 6=true:=by unfold Program.recurses;rw[Tryz.LC];rfl
def Tryz.ajZ:Tryz.prog.varsNamed 6=["internal/bytealg.MaxLen"]:=A8
def Tryz.aej:(Rows.retainExpiresRow.plainKeys==Tryz.prog.plainKeys)=true:=A8
def Tryz.abn:Tryz.prog.stopsHeard=true:=A8
def Tryz.afA:Tryz.prog.mayEnter=true:=A8
def Tryz.ahM:(Rows.retainExpiresRow.lifted==Tryz.prog.liftsFinal)=true:=A8
def Tryz.akT:(Tryz.prog.make==some Rows.retainExpiresRow.make)=true:=A8
def Tryz.ahN:joinedFacts Tryz.prog 6 Tryz.f6 Rows.retainExpiresSpec Rows.retainExpiresRow=true:=by
 unfold joinedFacts;rw[Tryz.Gt,Tryz.aei,Tryz.ag5,Tryz.LC,Tryz.afz,Tryz.ajZ,Tryz.aej,Tryz.abn,Tryz.afA,Tryz.ahM,Tryz.akT];kernel_rfl
theorem retainExpires_holds :Rows.RetainExpiresSaid:=
 OpenClaim.holds_of_wide 6 Tryz.f6 rfl rfl rfl rfl rfl rfl rfl ⟨rfl,rfl,rfl,rfl,rfl⟩ rfl rfl rfl rfl rfl A8 Tryz.func6 Tryz.ahN
  (TK A8) ae5
  (fun os f H enc _=>akI os f H enc)
end Go.Proofs.YtolgdkhlelfpoaaGreat
end
