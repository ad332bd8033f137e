/- The law ReplayGrows holds (short forms written by wip/shrink.py; no condition). -/
import Derived.Test.YtolgdkhlelfpoaaGreatRj6
set_option linter.defProp false
set_option linter.unnecessarySimpa false
set_option linter.unusedVariables false
set_option linter.unusedSimpArgs false
section
namespace Go.Proofs.YtolgdkhlelfpoaaGreat
open Go.RowKit
def aMK (x:Gi):Prop:=x.User.size≤1048576∧(IntKind.i64.min≤x.N∧x.N≤IntKind.i64.max)
def pU (x:Gi):Nat:=0+x.User.size
set_option maxRecDepth 20000 in
def apq {H:Type} (enc:TypeId×Value→H) (w:World) (base:Nat) (spare:Nat→Bool) (held:Bool):QC 1048576 enc Tryz.prog w base spare held 173 ER aMK pU:=by
 intro BA cs x h f;have hl:=bH Tryz.underlying173 h 2 A8;obtain⟨a0,j,q⟩:=Fb Tryz.underlying173 h f 0 9 0 1 A8 (Ue O6);obtain⟨s,m,u⟩:=Fb Tryz.underlying173 h f 1 3 1 1 A8 (Jd IJ);have z:a0.size+1≤partAt x.1 0:=j.2;have I:0+1≤partAt x.1 1:=m.2;have J:partAt x.1 0+(partAt x.1 1+(0))+1≤_:=Zv x.1 2;exact⟨⟨a0,s⟩,⟨j.1,m.1⟩,by unfold pU;(try simp only[]);omega,eL [1,1] ZK (E9.append q (E9.append u (E9.nil w)))⟩
def aal (x:Hu):Prop:=(IntKind.i64.min≤x.Kind∧x.Kind≤IntKind.i64.max)∧(IntKind.i64.min≤x.N∧x.N≤IntKind.i64.max)
def aBp (x:Hu):Nat:=0
set_option maxRecDepth 20000 in
def aso {H:Type} (enc:TypeId×Value→H) (w:World) (base:Nat) (spare:Nat→Bool) (held:Bool):QC 1048576 enc Tryz.prog w base spare held 208 EX aal aBp:=by
 intro BA cs x h f;have hl:=bH Tryz.underlying208 h 2 A8;obtain⟨a0,j,q⟩:=Fb Tryz.underlying208 h f 0 44 0 1 A8 (Jd Tryz.underlying44);obtain⟨s,m,u⟩:=Fb Tryz.underlying208 h f 1 3 1 1 A8 (Jd IJ);have z:0+1≤partAt x.1 0:=j.2;have I:0+1≤partAt x.1 1:=m.2;have J:partAt x.1 0+(partAt x.1 1+(0))+1≤_:=Zv x.1 2;exact⟨⟨a0,s⟩,⟨j.1,m.1⟩,by unfold aBp;(try simp only[]);omega,eL [1,1] ZK (E9.append q (E9.append u (E9.nil w)))⟩
def aLL (x:D8):Prop:=(x.Users.length≤1048576∧∀f∈x.Users,aMK f)∧(x.Kinds.length≤1048576∧∀j∈x.Kinds,aal j)∧(IntKind.i64.min≤x.User∧x.User≤IntKind.i64.max)∧(IntKind.i64.min≤x.Message∧x.Message≤IntKind.i64.max)∧(IntKind.i64.min≤x.State∧x.State≤IntKind.i64.max)∧(IntKind.i64.min≤x.fV∧x.fV≤IntKind.i64.max)∧(IntKind.i64.min≤x.jH∧x.jH≤IntKind.i64.max)∧(IntKind.i64.min≤x.nD∧x.nD≤IntKind.i64.max)∧(IntKind.i64.min≤x.gQ∧x.gQ≤IntKind.i64.max)
def oG (x:D8):Nat:=0+MF pU x.Users+MF aBp x.Kinds
set_option maxRecDepth 20000 in
def aqv {H:Type} (enc:TypeId×Value→H) (w:World) (base:Nat) (spare:Nat→Bool) (held:Bool):QC 1048576 enc Tryz.prog w base spare held 49 EY aLL oG:=by
 intro BA cs x h f;have hl:=bH Si h 9 A8;obtain⟨a0,j,O⟩:=Fb Si h f 0 46 0 1 A8 (Ye (sz:=2) Tryz.underlying46 A8 BX (fun _=>rfl) (apq enc w base spare held));obtain⟨m,q,U⟩:=Fb Si h f 1 47 1 1 A8 (Ye (sz:=2) Tryz.underlying47 A8 BX (fun _=>rfl) (aso enc w base spare held));obtain⟨Y,s,Z⟩:=Fb Si h f 2 3 2 1 A8 (Jd IJ);obtain⟨a3,u,h3⟩:=Fb Si h f 3 3 3 1 A8 (Jd IJ);obtain⟨a4,z,h4⟩:=Fb Si h f 4 3 4 1 A8 (Jd IJ);obtain⟨a5,I,h5⟩:=Fb Si h f 5 3 5 1 A8 (Jd IJ);obtain⟨a6,J,h6⟩:=Fb Si h f 6 3 6 1 A8 (Jd IJ);obtain⟨a7,L,h7⟩:=Fb Si h f 7 3 7 1 A8 (Jd IJ);obtain⟨a8,M,h8⟩:=Fb Si h f 8 3 8 1 A8 (Jd IJ);have q0:MF pU a0+1≤partAt x.1 0:=j.2;have q1:MF aBp m+1≤partAt x.1 1:=q.2;have q2:0+1≤partAt x.1 2:=s.2;have q3:0+1≤partAt x.1 3:=u.2;have q4:0+1≤partAt x.1 4:=z.2;have q5:0+1≤partAt x.1 5:=I.2;have q6:0+1≤partAt x.1 6:=J.2;have q7:0+1≤partAt x.1 7:=L.2;have q8:0+1≤partAt x.1 8:=M.2;have hs:partAt x.1 0+(partAt x.1 1+(partAt x.1 2+(partAt x.1 3+(partAt x.1 4+(partAt x.1 5+(partAt x.1 6+(partAt x.1 7+(partAt x.1 8+(0)))))))))+1≤_:=Zv x.1 9;exact⟨⟨a0,m,Y,a3,a4,a5,a6,a7,a8⟩,⟨j.1,q.1,s.1,u.1,z.1,I.1,J.1,L.1,M.1⟩,by unfold oG;(try simp only[]);omega,eL [1,1,1,1,1,1,1,1,1] ZK (E9.append O (E9.append U (E9.append Z (E9.append h3 (E9.append h4 (E9.append h5 (E9.append h6 (E9.append h7 (E9.append h8 (E9.nil w))))))))))⟩
def aMi (x:Bq):Prop:=x.Text.size≤1048576∧(IntKind.i64.min≤x.N∧x.N≤IntKind.i64.max)∧(IntKind.i64.min≤x.Target∧x.Target≤IntKind.i64.max)∧True∧x.Via.size≤1048576∧(x.Allow.length≤1048576∧∀f∈x.Allow,f.size≤1048576)∧(x.gB.length≤1048576∧∀j∈x.gB,j.size≤1048576)∧aLL x.Levels
def lQ (x:Bq):Nat:=0+x.Text.size+x.Via.size+MF (fun s:ByteArray=>s.size) x.Allow+MF (fun s:ByteArray=>s.size) x.gB+oG x.Levels
set_option maxRecDepth 20000 in
def aiS {H:Type} (enc:TypeId×Value→H) (w:World) (base:Nat) (spare:Nat→Bool) (held:Bool):QC 1048576 enc Tryz.prog w base spare held 51 EI aMi lQ:=by
 intro BA cs x h f;have hl:=bH UK h 16 A8;obtain⟨a0,j,Z⟩:=Fb UK h f 0 9 0 1 A8 (Ue O6);obtain⟨a1,m,h1⟩:=Fb UK h f 1 3 1 1 A8 (Jd IJ);obtain⟨a2,q,h2⟩:=Fb UK h f 2 3 2 1 A8 (Jd IJ);obtain⟨a3,u,h3⟩:=Fb UK h f 3 4 3 1 A8 (aLZ U6);obtain⟨z,I,h4⟩:=Fb UK h f 4 9 4 1 A8 (Ue O6);obtain⟨J,L,h5⟩:=Fb UK h f 5 45 5 1 A8 (Ye (sz:=1) Tryz.underlying45 A8 BX (fun _=>rfl) (Ue O6));obtain⟨M,O,h6⟩:=Fb UK h f 6 45 6 1 A8 (Ye (sz:=1) Tryz.underlying45 A8 BX (fun _=>rfl) (Ue O6));obtain⟨U,Y,h7⟩:=Fb UK h f 7 49 7 9 A8 (aqv enc w base spare held);have q0:a0.size+1≤partAt x.1 0:=j.2;have q1:0+1≤partAt x.1 1:=m.2;have q2:0+1≤partAt x.1 2:=q.2;have q3:0+1≤partAt x.1 3:=u.2;have q4:z.size+1≤partAt x.1 4:=I.2;have q5:MF (fun s:ByteArray=>s.size) J+1≤partAt x.1 5:=L.2;have q6:MF (fun s:ByteArray=>s.size) M+1≤partAt x.1 6:=O.2;have q7:oG U+1≤partAt x.1 7:=Y.2;have hs:partAt x.1 0+(partAt x.1 1+(partAt x.1 2+(partAt x.1 3+(partAt x.1 4+(partAt x.1 5+(partAt x.1 6+(partAt x.1 7+(0))))))))+1≤_:=Zv x.1 8;exact⟨⟨a0,a1,a2,a3,z,J,M,U⟩,⟨j.1,m.1,q.1,u.1,I.1,L.1,O.1,Y.1⟩,by unfold lQ;(try simp only[]);omega,eL [1,1,1,1,1,1,1,9] ZK (E9.append Z (E9.append h1 (E9.append h2 (E9.append h3 (E9.append h4 (E9.append h5 (E9.append h6 (E9.append h7 (E9.nil w)))))))))⟩
def aaA (x:Lp):Prop:=x.Server.size≤1048576∧(IntKind.i64.min≤x.Sum∧x.Sum≤IntKind.i64.max)
def sB (x:Lp):Nat:=0+x.Server.size
set_option maxRecDepth 20000 in
def alR {H:Type} (enc:TypeId×Value→H) (w:World) (base:Nat) (spare:Nat→Bool) (held:Bool):QC 1048576 enc Tryz.prog w base spare held 53 amP aaA sB:=by
 intro BA cs x h f;have hl:=bH Tryz.underlying53 h 2 A8;obtain⟨a0,j,q⟩:=Fb Tryz.underlying53 h f 0 9 0 1 A8 (Ue O6);obtain⟨s,m,u⟩:=Fb Tryz.underlying53 h f 1 3 1 1 A8 (Jd IJ);have z:a0.size+1≤partAt x.1 0:=j.2;have I:0+1≤partAt x.1 1:=m.2;have J:partAt x.1 0+(partAt x.1 1+(0))+1≤_:=Zv x.1 2;exact⟨⟨a0,s⟩,⟨j.1,m.1⟩,by unfold sB;(try simp only[]);omega,eL [1,1] ZK (E9.append q (E9.append u (E9.nil w)))⟩
def oP (x:AU):Prop:=(IntKind.i64.min≤x.Id∧x.Id≤IntKind.i64.max)∧x.Room.size≤1048576∧x.bC.size≤1048576∧(IntKind.i64.min≤x.Kind∧x.Kind≤IntKind.i64.max)∧True∧x.Key.size≤1048576∧(IntKind.i64.min≤x.Time∧x.Time≤IntKind.i64.max)∧(IntKind.i64.min≤x.Depth∧x.Depth≤IntKind.i64.max)∧(x.bD.length≤1048576∧∀f∈x.bD,(IntKind.i64.min≤f∧f≤IntKind.i64.max))∧(x.bJ.length≤1048576∧∀j∈x.bJ,(IntKind.i64.min≤j∧j≤IntKind.i64.max))∧aMi x.Content∧(IntKind.i64.min≤x.Hash∧x.Hash≤IntKind.i64.max)∧aaA x.nV
def Zo (x:AU):Nat:=0+x.Room.size+x.bC.size+x.Key.size+MF (fun _=>0) x.bD+MF (fun _=>0) x.bJ+lQ x.Content+sB x.nV
set_option maxRecDepth 20000 in
def aMR {H:Type} (enc:TypeId×Value→H) (w:World) (base:Nat) (spare:Nat→Bool) (held:Bool):QC 1048576 enc Tryz.prog w base spare held 55 Aq oP Zo:=by
 intro BA cs x h f;have hl:=bH NQ h 29 A8;obtain⟨a0,M,h0⟩:=Fb NQ h f 0 3 0 1 A8 (Jd IJ);obtain⟨O,U,h1⟩:=Fb NQ h f 1 9 1 1 A8 (Ue O6);obtain⟨Y,Z,h2⟩:=Fb NQ h f 2 9 2 1 A8 (Ue O6);obtain⟨a3,v3,h3⟩:=Fb NQ h f 3 44 3 1 A8 (Jd Tryz.underlying44);obtain⟨a4,v4,h4⟩:=Fb NQ h f 4 4 4 1 A8 (aLZ U6);obtain⟨a5,v5,h5⟩:=Fb NQ h f 5 9 5 1 A8 (Ue O6);obtain⟨a6,v6,h6⟩:=Fb NQ h f 6 3 6 1 A8 (Jd IJ);obtain⟨a7,v7,h7⟩:=Fb NQ h f 7 3 7 1 A8 (Jd IJ);obtain⟨a8,v8,h8⟩:=Fb NQ h f 8 24 8 1 A8 (Ye (sz:=1) aBq A8 BX (fun _=>rfl) (Jd IJ));obtain⟨a9,v9,h9⟩:=Fb NQ h f 9 24 9 1 A8 (Ye (sz:=1) aBq A8 BX (fun _=>rfl) (Jd IJ));obtain⟨j,m,z⟩:=Fb NQ h f 10 51 10 16 A8 (aiS enc w base spare held);obtain⟨I,q,J⟩:=Fb NQ h f 11 3 26 1 A8 (Jd IJ);obtain⟨s,u,L⟩:=Fb NQ h f 12 53 27 2 A8 (alR enc w base spare held);have q0:0+1≤partAt x.1 0:=M.2;have q1:O.size+1≤partAt x.1 1:=U.2;have q2:Y.size+1≤partAt x.1 2:=Z.2;have q3:0+1≤partAt x.1 3:=v3.2;have q4:0+1≤partAt x.1 4:=v4.2;have q5:a5.size+1≤partAt x.1 5:=v5.2;have q6:0+1≤partAt x.1 6:=v6.2;have q7:0+1≤partAt x.1 7:=v7.2;have q8:MF (fun _=>0) a8+1≤partAt x.1 8:=v8.2;have q9:MF (fun _=>0) a9+1≤partAt x.1 9:=v9.2;have q10:lQ j+1≤partAt x.1 10:=m.2;have q11:0+1≤partAt x.1 11:=q.2;have q12:sB s+1≤partAt x.1 12:=u.2;have hs:partAt x.1 0+(partAt x.1 1+(partAt x.1 2+(partAt x.1 3+(partAt x.1 4+(partAt x.1 5+(partAt x.1 6+(partAt x.1 7+(partAt x.1 8+(partAt x.1 9+(partAt x.1 10+(partAt x.1 11+(partAt x.1 12+(0)))))))))))))+1≤_:=Zv x.1 13;exact⟨⟨a0,O,Y,a3,a4,a5,a6,a7,a8,a9,j,I,s⟩,⟨M.1,U.1,Z.1,v3.1,v4.1,v5.1,v6.1,v7.1,v8.1,v9.1,m.1,q.1,u.1⟩,by unfold Zo;(try simp only[]);omega,eL [1,1,1,1,1,1,1,1,1,1,16,1,2] ZK (E9.append h0 (E9.append h1 (E9.append h2 (E9.append h3 (E9.append h4 (E9.append h5 (E9.append h6 (E9.append h7 (E9.append h8 (E9.append h9 (E9.append z (E9.append J (E9.append L (E9.nil w))))))))))))))⟩
def aLi {e:AU} (h:oP e):NU e:=by
 obtain⟨_,m,q,_,_,s,_,_,⟨z,_⟩,⟨I,_⟩,J,_,L⟩:=h;obtain⟨M,_,_,_,O,⟨U,Y⟩,⟨Z,c6⟩,hl⟩:=J;obtain⟨⟨l1,l2⟩,⟨l3,_⟩,_⟩:=hl;have f:∀{n:Nat},n≤1048576→n≤9223372036854775807:=fun h=>Dn h (Ee rfl);exact⟨f z,f I,f m,f q,f s,f L.1,⟨f U,f Z,f l1,f l3,f M,f O,fun x j=>f (Y x j),fun x j=>f (c6 x j),fun u hu=>f (l2 u hu).1⟩⟩
def am7 {l:List AU} (h:l.length≤1048576∧∀y∈l,oP y):∀e∈l,NU e:=fun e f=>aLi (h.2 e f)
def aqL {e:AU} (h:Zo e+1≤1048576):Xn e.Content≤1048576:=by
 have f:(fun u:Gi=>u.User.size)=pU:=funext fun u=>(Ie _).symm;unfold Zo lQ oG at h;unfold MF at h;unfold Xn XD aGA;rw[f];omega
def af2 (l:List AU) (more:AU) (h:(l.length≤1048576∧∀y∈l,oP y)∧MF Zo l+1≤1048576) (k:oP more∧Zo more+1≤1048576):aBM l more=some true:=agz h.1.1 (am7 h.1) (aLi k.1) (aqL k.2)
end Go.Proofs.YtolgdkhlelfpoaaGreat
end
section
namespace Go.Proofs.YtolgdkhlelfpoaaGreat
open Go.ChangeShapes Go.WideShapes Go.ChangeAt Go.RowKit
def Tryz.aix:ownKnob Tryz.prog.godebug=none:=A8
def Tryz.GN:laidOutB Tryz.prog=true:=A8
set_option maxHeartbeats 1600000 in
set_option maxRecDepth 100000 in
def aoG (os:Os) (started:os.Started) (H:Type) (enc:TypeId×Value→H) (F:Stop.Interp):
 ReturnsInHanded {} Tryz.checked os 12 .any ((Rows.OpenSpec.upto Rows.replayGrowsSpec).pre6 enc Tryz.prog Tryz.f12 Rows.replayGrowsUptoRow.domain false) (((Rows.OpenSpec.upto Rows.replayGrowsSpec).at F).post enc Tryz.prog Tryz.f12 false true false false):=by
 refine returnsInHanded_of_cond (C:=Tryz.checked) (s:=Rows.OpenSpec.upto Rows.replayGrowsSpec) (k:=Rows.uptoSmall) rfl Tryz.aix started A8 Tryz.func12
  (OpenSpec.witness (enc:=enc) (C:=Tryz.checked) (s:=Rows.OpenSpec.upto Rows.replayGrowsSpec) (k:=Rows.uptoSmall) rfl false ⟨#[], #[.slice none 0 0,.agg #[.int .i64 0,.string { data:= #[] },.string { data:= #[] },.int .i64 0,.bool false,.string { data:= #[] },.int .i64 0,.int .i64 0,.slice none 0 0,.slice none 0 0,.string { data:= #[] },.int .i64 0,.int .i64 0,.bool false,.string { data:= #[] },.slice none 0 0,.slice none 0 0,.slice none 0 0,.slice none 0 0,.int .i64 0,.int .i64 0,.int .i64 0,.int .i64 0,.int .i64 0,.int .i64 0,.int .i64 0,.int .i64 0,.string { data:= #[] },.int .i64 0]],[]⟩ 8 A8 A8 A8
   (x:=([.nil,.agg [.lit (.int .i64 0),.lit (.string []),.lit (.string []),.lit (.int .i64 0),.lit (.bool false),.lit (.string []),.lit (.int .i64 0),.lit (.int .i64 0),.nil,.nil,.agg [.lit (.string []),.lit (.int .i64 0),.lit (.int .i64 0),.lit (.bool false),.lit (.string []),.nil,.nil,.agg [.nil,.nil,.lit (.int .i64 0),.lit (.int .i64 0),.lit (.int .i64 0),.lit (.int .i64 0),.lit (.int .i64 0),.lit (.int .i64 0),.lit (.int .i64 0)]],.lit (.int .i64 0),.agg [.lit (.string []),.lit (.int .i64 0)]]],[],[])) A8 rfl A8) ?_
 intro W base args ds gs before f hW _ Z _;show Calls _ _ _ _ fun e W'=>∃v,e=.returned v∧Rows.replayGrowsSpec.post enc Tryz.prog Tryz.f12 false true false false W args v W';have m:∀(j:Nat) t v,Tryz.f12.params[j]? =some t→args[j]? =some v→Value.okWide Tryz.prog W .any base t v:=f;have u:=hW;obtain⟨p,q,L,hV,rfl,_,_⟩:=hW;have hA:DataW.TrodAll enc Tryz.prog W 0 (fun _=>true) true Tryz.f12.params.toList args.toList ds p:=L;rw[Tryz.params12]at hA m;obtain⟨v0,v1,d0,d1,p0,p1,rfl,rfl,rfl,h0,h1⟩:=trodAll_two hA;obtain⟨rfl,rfl⟩:=trodVars_none hV;obtain⟨w0,u0n,u0c,rfl⟩:=okWide_slice iw (m 0 22 v0 rfl rfl);have h0k:=h0;obtain⟨fuel0,hf0⟩:=h0;obtain⟨r0,hv0,hw0,hc0⟩:=(Ye (sz:=29) iw A8 BX (fun _=>rfl) (aMR enc W _ _ _)) _ _ _ hf0 (yt Z BK);have M:=And.intro hv0 (Dn hw0 (yt Z BK));have hr0:=asK (x:=(Ai Aq) r0) rfl rfl hc0;obtain⟨w1,rfl, -⟩:=okWide_struct NQ (m 1 55 v1 rfl rfl);have h1k:=h1;obtain⟨fuel1,hf1⟩:=h1;obtain⟨r1,hv1,hw1,hc1⟩:=(aMR enc W _ _ _) _ _ _ hf1 (yt Z BK);have O:=And.intro hv1 (Dn hw1 (yt Z BK));have hr1:=asC (x:=Aq r1) rfl hc1;clear L f;simp only[S9]at u;have U:∀x∈p0,x.block<W.heap.size:=fun x hx=>by simpa using u.lt x (by simp[hx])
 have z:∀(W':World),Below W.heap.size W W'→DataW.Trod enc Tryz.prog W' 0 (fun b=>decide (b<W.heap.size)) true 22 (.slice w0 u0n u0c) d0 p0:=
  fun W' J=>Below.trod Tryz.GN A8 (PK A8) h0k J U
 have Y:∀x∈p1,x.block<W.heap.size:=fun x hx=>by simpa using u.lt x (by simp[hx])
 have I:∀(W':World),Below W.heap.size W W'→DataW.Trod enc Tryz.prog W' 0 (fun b=>decide (b<W.heap.size)) true 55 (.agg w1) d1 p1:=
  fun W' J=>Below.trod Tryz.GN A8 (PK A8) h1k J Y
 refine(Am.law (xs:=[(Ai Aq) r0,Aq r1]) (W:=W) (agH r0 r1 true (af2 r0 r1 M O)) rfl (fun i hi=>?_)).mono fun e W' he=>?_
 ·match i,hi with
  |0,_=>exact hr0
  |1,_=>exact hr1
 obtain⟨rfl,J⟩:=he;exact⟨_,rfl,_,_,_,[],(p0++p1),[],u,trodAll_mk1 (shut_bool U6 _),trodAll_mk2 (z W' J) (I W' J),rfl,J.frame _,fun h=>Gt⟩
def Tryz.aaR:mapsRowed Tryz.prog=true:=A8
def Tryz.ac9:Tryz.prog.inPlace 12=["slices.overlaps[fedchat/api.Event]", "internal/bytealg.IndexByteString", "internal/bytealg.IndexString"]:=A8
def Tryz.LC:Tryz.prog.unfollowed 12=true:=A8
def Tryz.aby:Tryz.prog.recurses 12=true:=by unfold Program.recurses;rw[Tryz.LC];rfl
def Tryz.afO:Tryz.prog.varsNamed 12=["internal/bytealg.MaxLen"]:=A8
def Tryz.aaS:(Rows.replayGrowsUptoRow.plainKeys==Tryz.prog.plainKeys)=true:=A8
def Tryz.ZA:Tryz.prog.stopsHeard=true:=A8
def Tryz.abz:Tryz.prog.mayEnter=true:=A8
def Tryz.ad1:(Rows.replayGrowsUptoRow.lifted==Tryz.prog.liftsFinal)=true:=A8
def Tryz.ahn:(Tryz.prog.make==some Rows.replayGrowsUptoRow.make)=true:=A8
def Tryz.ad3:joinedFacts Tryz.prog 12 Tryz.f12 (Rows.OpenSpec.upto Rows.replayGrowsSpec).bare Rows.replayGrowsUptoRow=true:=by
 unfold joinedFacts;rw[Tryz.GN,Tryz.aaR,Tryz.ac9,Tryz.LC,Tryz.aby,Tryz.afO,Tryz.aaS,Tryz.ZA,Tryz.abz,Tryz.ad1,Tryz.ahn];kernel_rfl
theorem replayGrowsUpto_holds :Rows.ReplayGrowsUptoSaid:=
 OpenClaim.holds_of_cond 12 Tryz.f12 rfl rfl rfl rfl rfl rfl rfl ⟨rfl,rfl,rfl,rfl,rfl⟩ rfl rfl rfl rfl rfl A8 Tryz.func12 Tryz.ad3
  (PK A8) (by unfold Func.isWrapper;first|(rw[Cb KT];kernel_rfl)|(rw[D9 KT];exact⟨rfl,rfl⟩))
  (fun os f H enc _ F=>aoG os f H enc F)
end Go.Proofs.YtolgdkhlelfpoaaGreat
end
