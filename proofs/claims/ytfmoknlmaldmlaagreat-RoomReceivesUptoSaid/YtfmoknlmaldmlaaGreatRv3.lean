/- Part 3 of the proofs. -/
import Derived.Test.YtfmoknlmaldmlaaGreatRv2
set_option linter.defProp false
set_option linter.unnecessarySimpa false
set_option linter.unusedSectionVars false
set_option linter.unusedVariables false
set_option linter.unusedSimpArgs false
namespace Go.Proofs.YtfmoknlmaldmlaaGreat
open Go.RowKit Go.Proofs.Tryz
variable {E E':AA BX}{P:Ce}{ats:Bh Bz}{f:FuncId}{fH:AA Ai}{j res':Ai}{o:Oper}{ops:Bh C9}{x:C9}
section
variable {es:AA BX}
def Jt eH(q:Ej P f fH [] j E')(u:o.op=.call { callee:=.value (.func f),args:=ops,argTypes:=ats }:=by exact rfl)(z:II P f=true:=by kernel_rfl)(I:E'.all BX.closed=true:=by kernel_rfl)(ha:Ob [] eH fH:=by repeat (first|exact trivial|refine⟨.inl rfl,?_⟩|refine⟨.inr (.inr ⟨rfl,rfl⟩),?_⟩))(hl:ops.toList.length=eH.length:=by kernel_rfl)(J:j.up [] es.length=res':=by kernel_rfl):CG P o (GL ops.toList eH) es res' (es++E'):=aEd q z I ha hl J u
def aRi eH(q:Ej P f fH [] j [])(u:o.op=.call { callee:=.value (.func f),args:=ops,argTypes:=ats }:=by exact rfl)(z:II P f=true:=by kernel_rfl)(ha:Ob [] eH fH:=by repeat (first|exact trivial|refine⟨.inl rfl,?_⟩|refine⟨.inr (.inr ⟨rfl,rfl⟩),?_⟩))(hl:ops.toList.length=eH.length:=by kernel_rfl)(I:j.up [] es.length=res':=by kernel_rfl):CG P o (GL ops.toList eH) es res' es:=aV4 q z ha hl I u
def EK srcs eH(q:Ej P f fH E j E')(u:o.op=.call { callee:=.value (.func f),args:=ops,argTypes:=ats }:=by exact rfl)(z:II P f=true:=by kernel_rfl)(I:TN srcs es E E'=true:=by kernel_rfl)(hE:TF srcs es srcs E:=by first|exact trivial|exact O1 A8 trivial)(ha:Ob srcs eH fH:=by repeat (first|exact trivial|refine⟨.inl rfl,?_⟩|refine⟨⟨0,rfl,rfl⟩,?_⟩|refine⟨⟨1,rfl,rfl⟩,?_⟩|refine⟨⟨2,rfl,rfl⟩,?_⟩|refine⟨.inr (.inr ⟨rfl,rfl⟩),?_⟩))(hl:ops.toList.length=eH.length:=by kernel_rfl)(J:res'=j.up srcs es.length:=by kernel_rfl):CG P o (GL ops.toList eH) es res' (O8 srcs es E'):=aSv srcs q z I hE ha hl J u
def iC srcs fi ca eH(q:Ej P f fH E j E')(u:o.op=.call { callee:=.value x,args:=ops,argTypes:=ats }:=by exact rfl)(z:II P f=true:=by kernel_rfl)(I:TN srcs es E E'=true:=by kernel_rfl)(hE:TF srcs es srcs E:=by first|exact trivial|exact O1 A8 trivial)(ha:Ob srcs (fi++eH++ca) fH:=by repeat (first|exact trivial|refine⟨.inl rfl,?_⟩|refine⟨⟨0,rfl,rfl⟩,?_⟩|refine⟨⟨1,rfl,rfl⟩,?_⟩|refine⟨⟨2,rfl,rfl⟩,?_⟩|refine⟨.inr (.inr ⟨rfl,rfl⟩),?_⟩))(hl:ops.toList.length=eH.length:=by kernel_rfl)(J:res'=j.up srcs es.length:=by kernel_rfl):CG P o ((x,.fn (.func f) fi ca)::GL ops.toList eH) es res' (O8 srcs es E'):=an2 srcs fi ca q z I hE ha hl J u
def aPZ srcs fi ca eH(q:Ej P f fH E j E')(u:o.op=.call { callee:=.value x,args:=ops,argTypes:=ats }:=by exact rfl)(z:II P f=true:=by kernel_rfl)(I:TN srcs es E E'=true:=by kernel_rfl)(hE:TF srcs es srcs E:=by first|exact trivial|exact O1 A8 trivial)(ha:Ob srcs (fi.map .d++eH++ca.map .d) fH:=by repeat (first|exact trivial|refine⟨.inl rfl,?_⟩|refine⟨⟨0,rfl,rfl⟩,?_⟩|refine⟨⟨1,rfl,rfl⟩,?_⟩|refine⟨⟨2,rfl,rfl⟩,?_⟩|refine⟨.inr (.inr ⟨rfl,rfl⟩),?_⟩))(hl:ops.toList.length=eH.length:=by kernel_rfl)(J:res'=j.up srcs es.length:=by kernel_rfl):CG P o ((x,.d (.fn (.func f) fi ca))::GL ops.toList eH) es res' (O8 srcs es E'):=af0 srcs fi ca q z I hE ha hl J u
end
variable {K:Exit->BN->Prop}{eH:AA Ai}{l rest:AA Oper}{ops:Bh Oper}{σ:BN}
def Dn.ca (q:Ej P f eH [] j [])(k:Dn P ops rest (σ.uq o.dst (j.up [] σ.ents.length)) K)(u:II P f=true:=by kernel_rfl)(z:X3 σ o=some (f,eH):=by kernel_rfl)(hd:eH.all Ai.Dx=true:=by kernel_rfl)(I:LQ ops σ o.guard=some true:=by kernel_rfl):Dn P ops (o::rest) σ K:=.call q u k z hd I
def Fz.ca {σ'}{rs}{ess}{bs}(q:Ej P f eH [] j [])(k:Fz P ops rest (σ.uq o.dst (j.up [] σ.ents.length)) rs ess bs σ')(u:II P f=true:=by kernel_rfl)(z:X3 σ o=some (f,eH):=by kernel_rfl)(hd:eH.all Ai.Dx=true:=by kernel_rfl)(I:LQ ops σ o.guard=some true:=by kernel_rfl):Fz P ops (o::rest) σ (j.up [] σ.ents.length::rs) (σ.ents::ess) (false::bs) σ':=.call q u k z hd I
variable {A:Type}{M:BN->Prop}{b:AY}{ns:AA (C9×Ai)}{x:Ai}{u v z:A}
def Dn.aW [T:Kn P](k:M (OI (Gt T ops l.length l σ)))(h:(Gt T ops l.length l σ).isSome=true:=by kernel_rfl):Dn P ops l σ (KD M K):=.aM l.length k rfl h
def Dn.Z [T:Kn P](h:CG P o ns σ.ents x σ.ents)(k:M (OI (Gt T ops rest.length rest (σ.uq o.dst x))))(j:(ns.map λn=>σ.get n.1)=ns.map (·.2):=by kernel_rfl)(q:LQ ops σ o.guard=some true:=by kernel_rfl)(u:(Oo ns).all (tmpsOf o).contains=true:=by kernel_rfl)(hh:(Gt T ops rest.length rest (σ.uq o.dst x)).isSome=true:=by kernel_rfl):Dn P ops (o::rest) σ (KD M K):=Dn.p h (Dn.aW k hh) j q u
def Dn.Y [T:Kn P]{es'}(h:CG P o ns σ.ents x es')(k:M (OI (Gt T ops rest.length rest (σ.put o.dst x es'))))(j:(ns.map λn=>σ.get n.1)=ns.map (·.2):=by kernel_rfl)(q:LQ ops σ o.guard=some true:=by kernel_rfl)(u:(Oo ns).all (tmpsOf o).contains=true:=by kernel_rfl)(hh:(Gt T ops rest.length rest (σ.put o.dst x es')).isSome=true:=by kernel_rfl):Dn P ops (o::rest) σ (KD M K):=Dn.f h (Dn.aW k hh) j q u
def Dn.X [T:Kn P](q:Ej P f eH [] j [])(k:M (OI (Gt T ops rest.length rest (σ.uq o.dst (j.up [] σ.ents.length)))))(u:II P f=true:=by kernel_rfl)(z:X3 σ o=some (f,eH):=by kernel_rfl)(hd:eH.all Ai.Dx=true:=by kernel_rfl)(I:LQ ops σ o.guard=some true:=by kernel_rfl)(hh:(Gt T ops rest.length rest (σ.uq o.dst (j.up [] σ.ents.length))).isSome=true:=by kernel_rfl):Dn P ops (o::rest) σ (KD M K):=Dn.ca q (Dn.aW k hh) u z hd I
def Dn.bi [T:Kn P](h:(cond b u v)=z)(j:u=z->Dn P ops rest (σ.uq o.dst (.d (.lit (.bool true)))) K:=by exact λh=>.aW<|Cc)(k2:v=z->Dn P ops rest (σ.uq o.dst (.d (.lit (.bool false)))) K:=by exact λh=>.aW<|Cc)(hs:(Ym T ops σ o).map (λr=>(r.x,r.E,r.bar))=some (.d (.lit (.bool b)),σ.ents,false):=by kernel_rfl):Dn P ops (o::rest) σ K:=EX h (λe h=>.c (BF some e) (j h) hs) λe h=>.c (BF some e) (k2 h) hs
def DC {G}(h:(cond b u v)=z)(j:b=true->u=z->G:=by exact λe i=>aRq)(k2:b=false->v=z->G:=by exact λe i=>aRq):G:=EX h j k2
def AZ [T:Kn P]{id}{y}{Q}(k:Bq P y (OI (Gt T ops ops.toList.length ops.toList σ)) Q)(h:(Gt T ops ops.toList.length ops.toList σ).isSome=true:=by kernel_rfl):Bq P (.seq (.region id ops false) y) σ Q:=BM (.aW k h)
def Dn.mg a c x(h1:Dn P ops (l.take (c+1)) σ (KD (λs=>s.wipe (List.range' a c)=(σ.wipe (List.range' a c)).uq (some (a+c)) x) K))(h2:Dn P ops (l.drop (c+1)) ((σ.wipe (List.range' a c)).uq (some (a+c)) x) K):Dn P ops l σ K:=.merge (c+1) (List.range' a c) (a+c) x h1 h2
variable {α β:Type}{g:α->AL (Except BG β)}{r:Except BG β}
def QE {y}(h:Nb (.ok y) g=some r):g y=some r:=h
def Pq {u}(h:Nb (.error u) g=some r):some (.error u)=some r:=h
def CX :BL:=⟨#[]⟩
def qX (k:IntKind)(n:Int):D:=.lit (.int k n)
def aDZ :BL:=⟨#[33,114,58,97]⟩
def Mid :BL:=⟨#[58]⟩
def a3a :BL:=⟨#[33]⟩
def a3e :BL:=⟨#[64]⟩
def aAD :BL:=⟨#[64,33]⟩
def Js :BL:=⟨#[84,101,120,116]⟩
def KW :BL:=⟨#[78]⟩
def Nq :BL:=⟨#[86,105,97]⟩
def O7 :BL:=⟨#[76,101,118,101,108,115]⟩
def MV :BL:=⟨#[65,108,108,111,119]⟩
def Nw :BL:=⟨#[68,101,110,121]⟩
def Ko :BL:=⟨#[84,97,114,103,101,116]⟩
def Np :BL:=⟨#[84,104,114,101,97,100]⟩
def aHo :BL:=⟨#[64,117,58,97]⟩
def aQZ :BL:=⟨#[97]⟩
def Ep :BG:=.int .i64 0
def EY :BG:=.string CX
def IG :BG:=.slice none 0 0
def a4O :BG:=.agg #[IG,IG,Ep,Ep,Ep,Ep,Ep,Ep,Ep]
def a4A :BG:=.agg #[EY,Ep,Ep,.bool false,EY,IG,IG,IG,IG,Ep,Ep,Ep,Ep,Ep,Ep,Ep]
def aAZ :BG:=.agg #[EY,Ep]
def a2J :BG:=.agg #[Ep,EY,EY,Ep,.bool false,EY,Ep,Ep,IG,IG,EY,Ep,Ep,.bool false,EY,IG,IG,IG,IG,Ep,Ep,Ep,Ep,Ep,Ep,Ep,Ep,EY,Ep]
def aAE :BG:=.agg #[EY,IG,IG,IG,IG,IG,Ep,IG,IG]
def a7C :BG:=.agg #[Ep,Ep,Ep,.bool false]
def a4J :BG:=.agg #[Ep,EY,Ep]
def a3O :BG:=.agg #[Ep,.nilFunc]
def a88 :BG:=.agg #[.map none,.map none,.map none]
def a7A :BG:=.agg #[EY,Ep]
def a3A :BG:=.agg #[Ep,IG,IG,Ep]
def a2u :BG:=.agg #[IG]
def aLB :BG:=.agg #[Ep,Ep]
def a8V :BG:=.agg #[Ep,Ep,Ep,Ep,Ep,Ep,Ep]
def aS6 :BG:=.agg #[IG,IG,IG]
def aA8 :BG:=.agg #[Ep,Ep]
def a9z :BG:=.agg #[Ep]
def a8Q :BG:=.agg #[Ep,.nilFunc]
def aMQ :BG:=.agg #[IG,IG,IG,IG,IG]
def a1m :BG:=.agg #[]
def a9v :BG:=.agg #[IG]
def a6E :BG:=.agg #[Ep,Ep,Ep,Ep,Ep]
def a4n :BG:=.agg #[IG,IG]
def a4D :BG:=.agg #[IG,IG]
def a8H :BG:=.agg #[Ep,EY]
def a3m :BG:=.agg #[]
def a6s :BG:=.agg #[Ep,Ep,Ep,IG]
def a3q :BG:=.agg #[Ep,Ep,Ep]
structure IQ where
 User:ByteArray
 N:Int
def FH (x:IQ):D:=.agg [DX x.User,Ad x.N]
def aip :IQ:=⟨CX,0⟩
instance : Inhabited IQ:=⟨aip⟩
structure KL where
 Kind:Int
 N:Int
def FI (x:KL):D:=.agg [Ad x.Kind,Ad x.N]
def agc :KL:=⟨0,0⟩
instance : Inhabited KL:=⟨agc⟩
structure Ci where
 Users:(List IQ)
 Kinds:(List KL)
 User:Int
 Message:Int
 State:Int
 gY:Int
 lg:Int
 oV:Int
 iq:Int
def FV (x:Ci):D:=.agg [(BP FH) x.Users,(BP FI) x.Kinds,Ad x.User,Ad x.Message,Ad x.State,Ad x.gY,Ad x.lg,Ad x.oV,Ad x.iq]
def L8 :Ci:=⟨[],[],0,0,0,0,0,0,0⟩
instance : Inhabited Ci:=⟨L8⟩
structure D9 where
 Text:ByteArray
 N:Int
 Target:Int
 Thread:Bool
 Via:ByteArray
 Allow:(List ByteArray)
 iD:(List ByteArray)
 Levels:Ci
def GU (x:D9):D:=.agg [DX x.Text,Ad x.N,Ad x.Target,E9 x.Thread,DX x.Via,(BP DX) x.Allow,(BP DX) x.iD,(BP FH) x.Levels.Users,(BP FI) x.Levels.Kinds,Ad x.Levels.User,Ad x.Levels.Message,Ad x.Levels.State,Ad x.Levels.gY,Ad x.Levels.lg,Ad x.Levels.oV,Ad x.Levels.iq]
def Ew :D9:=⟨CX,0,0,false,CX,[],[],L8⟩
instance : Inhabited D9:=⟨Ew⟩
structure PZ where
 Server:ByteArray
 Sum:Int
def agT (x:PZ):D:=.agg [DX x.Server,Ad x.Sum]
def jF :PZ:=⟨CX,0⟩
instance : Inhabited PZ:=⟨jF⟩
structure AQ where
 Id:Int
 Room:ByteArray
 bU:ByteArray
 Kind:Int
 State:Bool
 Key:ByteArray
 Time:Int
 Depth:Int
 bG:(List Int)
 bI:(List Int)
 Content:D9
 Hash:Int
 sF:PZ
def Ap (x:AQ):D:=.agg [Ad x.Id,DX x.Room,DX x.bU,Ad x.Kind,E9 x.State,DX x.Key,Ad x.Time,Ad x.Depth,(BP Ad) x.bG,(BP Ad) x.bI,DX x.Content.Text,Ad x.Content.N,Ad x.Content.Target,E9 x.Content.Thread,DX x.Content.Via,(BP DX) x.Content.Allow,(BP DX) x.Content.iD,(BP FH) x.Content.Levels.Users,(BP FI) x.Content.Levels.Kinds,Ad x.Content.Levels.User,Ad x.Content.Levels.Message,Ad x.Content.Levels.State,Ad x.Content.Levels.gY,Ad x.Content.Levels.lg,Ad x.Content.Levels.oV,Ad x.Content.Levels.iq,Ad x.Hash,DX x.sF.Server,Ad x.sF.Sum]
def Eo :AQ:=⟨0,CX,CX,0,false,CX,0,0,[],[],Ew,0,jF⟩
instance : Inhabited AQ:=⟨Eo⟩
structure F5 where
 Pos:Int
 Id:Int
 Status:Int
 Gone:Bool
def En (x:F5):D:=.agg [Ad x.Pos,Ad x.Id,Ad x.Status,E9 x.Gone]
def LG :F5:=⟨0,0,0,false⟩
instance : Inhabited F5:=⟨LG⟩
structure BK where
 Kind:Int
 Key:ByteArray
 Id:Int
def BO (x:BK):D:=.agg [Ad x.Kind,DX x.Key,Ad x.Id]
def alY :BK:=⟨0,CX,0⟩
instance : Inhabited BK:=⟨alY⟩
structure au where
 User:ByteArray
 Thread:Int
 Id:Int
 Time:Int
def ak (x:au):D:=.agg [DX x.User,Ad x.Thread,Ad x.Id,Ad x.Time]
def acH :au:=⟨CX,0,0,0⟩
instance : Inhabited au:=⟨acH⟩
structure Yf where
 User:ByteArray
 Until:Int
def Zy (x:Yf):D:=.agg [DX x.User,Ad x.Until]
def amF :Yf:=⟨CX,0⟩
instance : Inhabited Yf:=⟨amF⟩
structure Bj where
 Id:ByteArray
 Events:(List AQ)
 Rows:(List F5)
 Waiting:(List AQ)
 uP:(List Int)
 State:(List BK)
 Next:Int
 jK:(List au)
 nU:(List Yf)
def CJ (x:Bj):D:=.agg [DX x.Id,(BP Ap) x.Events,(BP En) x.Rows,(BP Ap) x.Waiting,(BP Ad) x.uP,(BP BO) x.State,Ad x.Next,(BP ak) x.jK,(BP Zy) x.nU]
def Jl :Bj:=⟨CX,[],[],[],[],[],0,[],[]⟩
instance : Inhabited Bj:=⟨Jl⟩
structure QF where
 aGh:Int
 aEy:Nat
def Wn (x:QF):D:=.agg [Ad x.aGh,aUQ x.aEy]
def aiv :QF:=⟨0,0⟩
instance : Inhabited QF:=⟨aiv⟩
structure G9 where
 b_:(List Int)
def Na (x:G9):D:=.agg [(BP Dl) x.b_]
def aHv :G9:=⟨[]⟩
instance : Inhabited G9:=⟨aHv⟩
structure UE where
 ql:Int
 nY:Int
def Kz (x:UE):D:=.agg [Ad x.ql,Ad x.nY]
def a7B :UE:=⟨0,0⟩
instance : Inhabited UE:=⟨a7B⟩
structure mX where
 aqE:Int
def amy :mX:=⟨0⟩
instance : Inhabited mX:=⟨amy⟩
structure bD where
def uz (x:bD):D:=.agg []
def anU :bD:=⟨⟩
instance : Inhabited bD:=⟨anU⟩
structure PV where
 Ji:(List BK)
 anr:(List Int)
 axg:(List Int)
def kQ (x:PV):D:=.agg [(BP BO) x.Ji,(BP Ad) x.anr,(BP Ad) x.axg]
def a3F :PV:=⟨[],[],[]⟩
instance : Inhabited PV:=⟨a3F⟩
structure SX where
 nY:Int
 Ua:Int
 Dv:Int
 aEz:(List Int)
def NG (x:SX):D:=.agg [Ad x.nY,Ad x.Ua,Ad x.Dv,(BP Ad) x.aEz]
def abl :SX:=⟨0,0,0,[]⟩
instance : Inhabited SX:=⟨abl⟩
structure Uh where
 aep:Int
 aer:ByteArray
def NC (x:Uh):D:=.agg [Ad x.aep,DX x.aer]
def agA :Uh:=⟨0,CX⟩
instance : Inhabited Uh:=⟨agA⟩
structure bC where
 aCC:(List Int)
def uw (x:bC):D:=.agg [(BP Ad) x.aCC]
def afJ :bC:=⟨[]⟩
instance : Inhabited bC:=⟨afJ⟩
structure MZ where
 nY:Int
 Af:Int
 Dv:Int
def QI (x:MZ):D:=.agg [Ad x.nY,Ad x.Af,Ad x.Dv]
def ajk :MZ:=⟨0,0,0⟩
instance : Inhabited MZ:=⟨ajk⟩
structure JA where
 Id:Int
 Before:(List BK)
 After:(List BK)
 Err:Int
def MW (x:JA):D:=.agg [Ad x.Id,(BP BO) x.Before,(BP BO) x.After,Ad x.Err]
def Wu :JA:=⟨0,[],[],0⟩
instance : Inhabited JA:=⟨Wu⟩
structure PO where
 Same:(List BK)
 Power:(List Int)
 First:(List BK)
 Others:(List Int)
 Last:(List BK)
def dh (x:PO):D:=.agg [(BP BO) x.Same,(BP Ad) x.Power,(BP BO) x.First,(BP Ad) x.Others,(BP BO) x.Last]
def YV :PO:=⟨[],[],[],[],[]⟩
instance : Inhabited PO:=⟨YV⟩
def amf :ED Aq 38 10 10:=EN A8
def VO :Em Aq 34 true 16:=G5 A8
def aSC :(Aq.info? 34).bind (·.zero)=some (a4A):=A8
def amk :ED Aq 38 8 8:=EN A8
def aJQ :Em Aq 27 false 1:=G5 A8
def Jc :Aq.underlying 27=some (.slice 3):=A8
def adl :ED Aq 38 9 9:=EN A8
def aZn :ED Aq 34 5 5:=EN A8
def aYQ :Em Aq 28 false 1:=G5 A8
def ahE :Aq.underlying 28=some (.slice 9):=A8
def aYB :ED Aq 34 6 6:=EN A8
def aZf :ED Aq 34 7 7:=EN A8
def abL :ED Aq 32 0 0:=EN A8
def aO5 :Em Aq 29 false 1:=G5 A8
def aUT :Aq.underlying 29=some (.slice 146):=A8
def aij :ED Aq 32 1 1:=EN A8
def aVP :Em Aq 30 false 1:=G5 A8
def aSu :Aq.underlying 30=some (.slice 221):=A8
def alW :ED Aq 38 1 1:=EN A8
def RH :Em Aq 9 false 1:=G5 A8
def I4 :Aq.underlying 9=some (.string):=A8
def alT :ED Aq 38 2 2:=EN A8
def alv :ED Aq 38 5 5:=EN A8
def aXg :ED Aq 34 0 0:=EN A8
def aYo :ED Aq 34 4 4:=EN A8
def aiJ :ED Aq 38 12 27:=EN A8
def aZL :ED Aq 36 0 0:=EN A8
def akA :Em Aq 146 true 2:=G5 A8
def aXm :ED Aq 146 0 0:=EN A8
def Kv :Aq.underlying 22=some (.slice 38):=A8
def Gg :Em Aq 38 true 29:=G5 A8
def adX :ED Aq 34 1 1:=EN A8
def Ey :Em Aq 3 false 1:=G5 A8
def ajT :Jj Aq 34 [(0,1),(1,1),(2,1),(3,1),(4,1),(5,1),(6,1),(7,9)] (a4A):=NM A8 aSC A8
def Yt :Em Aq 32 true 9:=G5 A8
def akJ :ED Aq 34 2 2:=EN A8
def Md :(Aq.info? 38).bind (·.zero)=some (a2J):=A8
def aZX :ED Aq 38 3 3:=EN A8
def YX :Em Aq 26 false 1:=G5 A8
def atO :Aw 192=true:=A8
def aaC :ED Aq 146 1 1:=EN A8
def abC :Em Aq 221 true 2:=G5 A8
def aZO :ED Aq 221 0 0:=EN A8
def aiC :ED Aq 221 1 1:=EN A8
def aku :ED Aq 32 2 2:=EN A8
def ac9 :ED Aq 32 3 3:=EN A8
def aZl :ED Aq 32 4 4:=EN A8
def aji :ED Aq 32 5 5:=EN A8
def afE :ED Aq 32 6 6:=EN A8
def ajo :ED Aq 32 7 7:=EN A8
def adQ :ED Aq 32 8 8:=EN A8
def afc :ED Aq 34 3 3:=EN A8
def aG1 :Em Aq 4 false 1:=G5 A8
def aQJ :Aq.underlying 4=some (.bool):=A8
def atQ :Aw 181=true:=A8
def asI :Aw 182=true:=A8
def afX :ED Aq 38 0 0:=EN A8
def aau :ED Aq 38 4 4:=EN A8
def aat :ED Aq 38 6 6:=EN A8
def aiK :ED Aq 38 7 7:=EN A8
def atJ :Aw 43=true:=A8
def atm :Aw 106=true:=A8
def aht :ED Aq 38 11 26:=EN A8
def ah1 :ED Aq 36 1 1:=EN A8
def QW :Aq.underlying 3=some (.int .i64):=A8
def ace :Aq.underlying 202=some (.int .u64):=A8
def a8M :Aq.underlying 5=some (.int .u8):=A8
def Jz :Gm Aq 95 5 1 1:=Ku A8
def SI :(Aq.info? 5).bind (·.zero)=some (.int .u8 0):=A8
def arA :Aw 194=true:=A8
def ZL :Aw 117=true:=A8
def a5S :Aq.underlying 95=some (.slice 5):=A8
def aIr :Aw 116=true:=A8
def Dy :Gm Aq 27 3 1 8:=Ku A8
def zero3 :(Aq.info? 3).bind (·.zero)=some (.int .i64 0):=A8
def adS :Aw 328=true:=A8
def aNP :Aw 329=true:=A8
def zero32 :(Aq.info? 32).bind (·.zero)=some (a4O):=A8
def apm :Aw 330=true:=A8
def ajp :Em Aq 5 false 1:=G5 A8
def anY :Aw 196=true:=A8
def aqP :Aw 195=true:=A8
def aoD :Aw 265=true:=A8
def asJ :Aw 119=true:=A8
def aqa :Aw 193=true:=A8
def apc :Aw 114=true:=A8
def apk :Aw 36=true:=A8
def anl :Aw 115=true:=A8
def ano :Aw 42=true:=A8
def arU :Aw 183=true:=A8
def aoj :Aw 197=true:=A8
def aoM :Aw 198=true:=A8
def agH :ED Aq 45 1 1:=EN A8
def abT :Em Aq 22 false 1:=G5 A8
def a3s :Aw 125=true:=A8
def aqu :Aw 268=true:=A8
def aa2 :Aq.underlying 203=some (.int .u64):=A8
def aqr :Aw 199=true:=A8
def ara :Aw 200=true:=A8
def ar1 :Aw 126=true:=A8
def LH :Em Aq 45 true 9:=G5 A8
def atW :Aw 51=true:=A8
def aoK :Aw 107=true:=A8
def apg :Aw 122=true:=A8
def aof :Aw 121=true:=A8
def atT :Aw 120=true:=A8
def a0W :(Aq.info? 79).bind (·.zero)=some (a7C):=A8
def afd :ED Aq 45 2 2:=EN A8
def ahy :Em Aq 39 false 1:=G5 A8
def aVR :Aq.underlying 39=some (.slice 79):=A8
def wK :Em Aq 79 true 4:=G5 A8
def afD :ED Aq 79 1 1:=EN A8
def an5 :Jj Aq 79 [(0,1),(1,1),(2,1),(3,1)] (a7C):=NM A8 a0W A8
def atr :Aw 32=true:=A8
def akW :ED Aq 79 2 2:=EN A8
def aJd :Em Aq 71 false 1:=G5 A8
def arR :Aw 124=true:=A8
def aqK :Aw 123=true:=A8
def aXq :ED Aq 45 0 0:=EN A8
def aoF :Aw 47=true:=A8
def aq4 :Aw 48=true:=A8
def alG :ED Aq 45 5 5:=EN A8
def ajw :Em Aq 41 false 1:=G5 A8
def qR :Aq.underlying 41=some (.slice 82):=A8
def Qx :Em Aq 82 true 3:=G5 A8
def RD :(Aq.info? 82).bind (·.zero)=some (a4J):=A8
def abv :ED Aq 82 0 0:=EN A8
def aml :ED Aq 82 1 1:=EN A8
def ac1 :ED Aq 82 2 2:=EN A8
def asZ :Aw 50=true:=A8
def aii :Aw 33=true:=A8
def acd :Jj Aq 38 [(0,1),(1,1),(2,1),(3,1),(4,1),(5,1),(6,1),(7,1),(8,1),(9,1),(10,16),(26,1),(27,2)] (a2J):=NM A8 Md A8
def IJ :Gm Aq 22 38 29 376:=Ku A8
def jo :Gm Aq 39 79 4 32:=Ku A8
def aQn :(Aq.info? 45).bind (·.zero)=some (aAE):=A8
def amw :Jj Aq 45 [(0,1),(1,1),(2,1),(3,1),(4,1),(5,1),(6,1),(7,1),(8,1)] (aAE):=NM A8 aQn A8
def asO :Aw 342=true:=A8
def apQ :Aw 274=true:=A8
def aoq :Aw 271=true:=A8
def aoa :Aw 269=true:=A8
def aeS :Aw 272=true:=A8
def ahO :Aw 270=true:=A8
def arp :Aw 203=true:=A8
def aoJ :Aw 204=true:=A8
def atN :Aw 202=true:=A8
def apM :Aw 201=true:=A8
def apP :Aw 130=true:=A8
def aoh :Aw 166=true:=A8
def aqc :Aw 89=true:=A8
def aq6 :Aw 277=true:=A8
def arq :Aw 214=true:=A8
def ap1 :Aw 215=true:=A8
def a13 :(Aq.info? 146).bind (·.zero)=some (a7A):=A8
def aVJ :(Aq.info? 221).bind (·.zero)=some (aLB):=A8
def aLU :(Aq.info? 222).bind (·.zero)=some (a8V):=A8
def afH :gX Aq 222 1 (a8V):=a3u A8 aLU A8
def aAL :Aq.underlying 222=some (.array 7 3):=A8
def apY :Aw 134=true:=A8
def aoc :Aw 60=true:=A8
def OM :Gm Aq 28 9 1 16:=Ku A8
def a0t :Gm Aq 29 146 2 24:=Ku A8
def aIh :Gm Aq 30 221 2 16:=Ku A8
def ane :Aw 291=true:=A8
def aos :Aw 238=true:=A8
def apo :Aw 239=true:=A8
def asT :Aw 240=true:=A8
def aqb :Aw 149=true:=A8
def aqs :Aw 289=true:=A8
def anw :Aw 290=true:=A8
def arQ :Aw 354=true:=A8
def atS :Aw 355=true:=A8
def apq :Aw 358=true:=A8
def as4 :Aw 292=true:=A8
def aqA :Aw 356=true:=A8
def asK :Aw 357=true:=A8
def apt :Aw 293=true:=A8
def aG2 :(Aq.info? 276).bind (·.zero)=some (a8Q):=A8
def alK :Jj Aq 276 [(0,1),(1,1)] (a8Q):=NM A8 aG2 A8
def aZw :Gm Aq 277 276 2 16:=Ku A8
def ajG :Aq.underlying 277=some (.slice 276):=A8
def ac7 :Em Aq 276 true 2:=G5 A8
def afI :ED Aq 276 0 0:=EN A8
def anN :ED Aq 276 1 1:=EN A8
def aY6 :Em Aq 236 false 1:=G5 A8
def asG :Aw 300=true:=A8
def afZ :Aw 294=true:=A8
def aa6 :Aw 295=true:=A8
def ajx :Aw 296=true:=A8
def ahr :Aw 297=true:=A8
def aac :Aw 298=true:=A8
def afu :Aw 299=true:=A8
def as2 :Aw 301=true:=A8
def arK :Aw 231=true:=A8
def ap2 :Aw 232=true:=A8
def aox :Aw 233=true:=A8
def asE :Aw 234=true:=A8
def a9N (x y:IQ):AY:=(x.User.toList==y.User.toList&&(x.N==y.N&&true))
def aXu x y:Vq Aq 2 146 [.string x.User,.int .i64 x.N] [.string y.User,.int .i64 y.N] (a9N x y):=⟨λd w=>aX A8 A8 A8 (l:=[(9,0),(3,1)]) A8 (Lj (Gn RH A8 w) (Gn RH A8 w) (a1S w _ _ _ _ I4)<|Lj (Gn Ey A8 w) (Gn Ey A8 w) (QH w _ _ .i64 _ _ _ QW)<|Zn _ _ _ _)⟩
def adT :Program.eqGuardType Aq (Program.depth Aq) 146=false:=A8
def aCn :Aq.underlying 26=some (.int .i64):=A8
def a6N (x y:KL):AY:=(x.Kind==y.Kind&&(x.N==y.N&&true))
def agI x y:Vq Aq 2 221 [.int .i64 x.Kind,.int .i64 x.N] [.int .i64 y.Kind,.int .i64 y.N] (a6N x y):=⟨λd w=>aX A8 A8 A8 (l:=[(26,0),(3,1)]) A8 (Lj (Gn YX A8 w) (Gn YX A8 w) (QH w _ _ .i64 _ _ _ aCn)<|Lj (Gn Ey A8 w) (Gn Ey A8 w) (QH w _ _ .i64 _ _ _ QW)<|Zn _ _ _ _)⟩
def aYO :Program.eqGuardType Aq (Program.depth Aq) 221=false:=A8
def arF :Aw 235=true:=A8
def apD :Aw 236=true:=A8
def asb :Aw 237=true:=A8
def aUA :(Aq.info? 209).bind (·.zero)=some (a2u):=A8
def aaz :Jj Aq 209 [(0,1)] (a2u):=NM A8 aUA A8
def acU :ED Aq 209 0 0:=EN A8
def afn :Em Aq 95 false 1:=G5 A8
def ap4 :Aw 206=true:=A8
def aqY :Aw 205=true:=A8
def zero9 :(Aq.info? 9).bind (·.zero)=some (.string CX):=A8
def aqG :Aw 208=true:=A8
def aqI :Aw 207=true:=A8
def aeP :Gm Aq 258 4 1 1:=Ku A8
def xW :(Aq.info? 4).bind (·.zero)=some (.bool false):=A8
def afb :Aq.underlying 258=some (.slice 4):=A8
def as3 :Aw 210=true:=A8
def aon :Aw 209=true:=A8
def a4K :Gm Aq 244 27 1 24:=Ku A8
def pz :(Aq.info? 27).bind (·.zero)=some (.slice none 0 0):=A8
def a2W :Aq.underlying 244=some (.slice 27):=A8
def aoR :Aw 343=true:=A8
def apN :Aw 275=true:=A8
def arO :Aw 212=true:=A8
def aqO :Aw 211=true:=A8
def asR :Aw 131=true:=A8
def aWr :(Aq.info? 36).bind (·.zero)=some (aAZ):=A8
def akC :Jj Aq 36 [(0,1),(1,1)] (aAZ):=NM A8 aWr A8
def ais :Em Aq 36 true 2:=G5 A8
def aph :Aw 132=true:=A8
def aoi :Aw 147=true:=A8
def ao6 :Aw 137=true:=A8
def aom :Aw 148=true:=A8
def apf :Aw 58=true:=A8
def aoB :Aw 57=true:=A8
def a6x (x y:PZ):AY:=(x.Server.toList==y.Server.toList&&(x.Sum==y.Sum&&true))
def afV x y:Vq Aq 2 36 [.string x.Server,.int .i64 x.Sum] [.string y.Server,.int .i64 y.Sum] (a6x x y):=⟨λd w=>aX A8 A8 A8 (l:=[(9,0),(3,1)]) A8 (Lj (Gn RH A8 w) (Gn RH A8 w) (a1S w _ _ _ _ I4)<|Lj (Gn Ey A8 w) (Gn Ey A8 w) (QH w _ _ .i64 _ _ _ QW)<|Zn _ _ _ _)⟩
def aeV :Program.eqGuardType Aq (Program.depth Aq) 36=false:=A8
def ate :Aw 74=true:=A8
def ar8 :Aw 172=true:=A8
def afr :Aw 217=true:=A8
def apU :Aw 138=true:=A8
def aro :Aw 139=true:=A8
def asw :Aw 140=true:=A8
def Rf :Aq.underlying 196=some (.map 3 4):=A8
def IE :KeyTy Aq 3 D7:=ajA QW
def asU :Aw 184=true:=A8
def atF :Aw 109=true:=A8
def Py :Aq.underlying 183=some (.map 3 3):=A8
def arE :Aw 169=true:=A8
def ahG :(Aq.info? 183).bind (·.zero)=some (.map none):=A8
def aiI :Em Aq 183 false 1:=G5 A8
def aqV :Aw 255=true:=A8
def aoZ :Aw 168=true:=A8
def aor :Aw 170=true:=A8
def aDu :Gm Aq 249 251 2 16:=Ku A8
def a6B :(Aq.info? 251).bind (·.zero)=some (aA8):=A8
def aYZ :Jj Aq 251 [(0,1),(1,1)] (aA8):=NM A8 a6B A8
def Y2 :Aq.underlying 249=some (.slice 251):=A8
def VB :Em Aq 251 true 2:=G5 A8
def amN :ED Aq 251 0 0:=EN A8
def aah :ED Aq 251 1 1:=EN A8
def Ti :Aq.underlying 40=some (.slice 82):=A8
def aYE :Jj Aq 82 [(0,1),(1,1),(2,1)] (a4J):=NM A8 RD A8
def aqQ :Aw 405=true:=A8
def ar6 :Aw 403=true:=A8
def agV :Aw 404=true:=A8
def akN :Aw 406=true:=A8
def ao4 :Aw 327=true:=A8
def aBC :Aq.underlying 190=some (.slice 41):=A8
def aqU :Aw 323=true:=A8
def UZ :(Aq.info? 41).bind (·.zero)=some (.slice none 0 0):=A8
def ahp :Em Aq 190 false 1:=G5 A8
def anv :Aw 229=true:=A8
def aRP :Aw 288=true:=A8
def atb :Aw 393=true:=A8
def NZ :Gm Aq 41 82 3 32:=Ku A8
def adu :Aw 434=true:=A8
def al8 :Aw 435=true:=A8
def aUa :Aw 396=true:=A8
def asA :Aw 433=true:=A8
def apv :Aw 319=true:=A8
def asz :Aw 394=true:=A8
def asV :Aw 452=true:=A8
def aRz :Aw 436=true:=A8
def ant :Aw 64=true:=A8
def aoP :Aw 395=true:=A8
def asq :Aw 397=true:=A8
def yS :Aw 261=true:=A8
def ami :Aw 459=true:=A8
def aqt :Aw 457=true:=A8
def aqH :Aw 441=true:=A8
def aqy :Aw 458=true:=A8
def atV :Aw 223=true:=A8
def aSs :(Aq.info? 263).bind (·.zero)=some (a9z):=A8
def adP :Jj Aq 263 [(0,1)] (a9z):=NM A8 aSs A8
def aeY :(match Aq.underlying 263 with |some (.interface _)=>false|some _=>true|none=>false)=true:=A8
def wI :Aw 225=true:=A8
def Ug :Aw 224=true:=A8
def arN :Aw 280=true:=A8
def apA :Aw 227=true:=A8
def aUv :(Aq.info? 311).bind (·.zero)=some (a6E):=A8
def anX :gX Aq 311 1 (a6E):=a3u A8 aUv A8
def ab7 :Em Aq 311 true 5:=G5 A8
def aTm :Aq.underlying 311=some (.array 5 3):=A8
def aoS :Aw 282=true:=A8
def apb :Aw 345=true:=A8
def aqp :Aw 346=true:=A8
def asN :Aw 347=true:=A8
def asx :Aw 283=true:=A8
def agu :Aw 415=true:=A8
def anz :Aw 348=true:=A8
def ao8 :Aw 349=true:=A8
def asD :Aw 350=true:=A8
def aZM :Jj Aq 32 [(0,1),(1,1),(2,1),(3,1),(4,1),(5,1),(6,1),(7,1),(8,1)] (a4O):=NM A8 zero32 A8
def agk :Jj Aq 146 [(0,1),(1,1)] (a7A):=NM A8 a13 A8
def atj :Aw 351=true:=A8
def aog :Aw 284=true:=A8
def ao7 :Aw 285=true:=A8
def aeA :Aw 281=true:=A8
def arl :Aw 221=true:=A8
def arj :Aw 226=true:=A8
def apT :Aw 286=true:=A8
def aNE :Em Aq 222 true 7:=G5 A8
def aPR :Aw 353=true:=A8
def aGe :Aw 352=true:=A8
def aPH :(Aq.info? 320).bind (·.zero)=some (a4n):=A8
def ahw :gX Aq 320 1 (a4n):=a3u A8 aPH A8
def amq :Aq.underlying 320=some (.array 2 30):=A8
def aV7 :(Aq.info? 321).bind (·.zero)=some (a4D):=A8
def ajh :gX Aq 321 1 (a4D):=a3u A8 aV7 A8
def adq :Aq.underlying 321=some (.array 2 29):=A8
def aob :Aw 287=true:=A8
def arT :Aw 228=true:=A8
def aXN :Aw 222=true:=A8
def anq :Aw 456=true:=A8
def ap3 :Aw 143=true:=A8
def aOj :(Aq.info? 378).bind (·.zero)=some (a3m):=A8
def afw :Jj Aq 378 [] (a3m):=NM A8 aOj A8
def aiR :(match Aq.underlying 378 with |some (.interface _)=>false|some _=>true|none=>false)=true:=A8
def atA :Aw 437=true:=A8
def apu :Aw 438=true:=A8
def apV :Aw 399=true:=A8
def aMn :Aw 439=true:=A8
def aq9 :Aw 440=true:=A8
def anB :(Aq.info? 247).bind (·.zero)=some (aS6):=A8
def aot :Aw 320=true:=A8
def apK :Aw 321=true:=A8
def aPS :(Aq.info? 292).bind (·.zero)=some (a1m):=A8
def aYf :Jj Aq 292 [] (a1m):=NM A8 aPS A8
def amL :(match Aq.underlying 292 with |some (.interface _)=>false|some _=>true|none=>false)=true:=A8
def aIw :(Aq.info? 347).bind (·.zero)=some (a8H):=A8
def amO :Jj Aq 347 [(0,1),(1,1)] (a8H):=NM A8 aIw A8
def aEQ :Gm Aq 342 347 2 24:=Ku A8
def asH :Aw 400=true:=A8
def aFG :Aq.underlying 342=some (.slice 347):=A8
def aDj :Em Aq 347 true 2:=G5 A8
def aZd :ED Aq 347 0 0:=EN A8
def alZ :ED Aq 347 1 1:=EN A8
def aPD :Aw 402=true:=A8
def at6 :Aw 326=true:=A8
def aoL :Aw 479=true:=A8
def aEY :(Aq.info? 411).bind (·.zero)=some (a6s):=A8
def abU :Jj Aq 411 [(0,1),(1,1),(2,1),(3,1)] (a6s):=NM A8 aEY A8
def aFW :Gm Aq 408 411 4 48:=Ku A8
def aqL :Aw 477=true:=A8
def aBd :Aq.underlying 408=some (.slice 411):=A8
def aKZ :Em Aq 411 true 4:=G5 A8
def am6 :ED Aq 411 3 3:=EN A8
def akR :ED Aq 411 0 0:=EN A8
def aZr :ED Aq 411 1 1:=EN A8
def aYA :ED Aq 411 2 2:=EN A8
def ai7 :Aw 478=true:=A8
def apa :Aw 476=true:=A8
def afh :Aw 475=true:=A8
def adO :yV Aq 292 "fedchat/resolve.sort" 475=true:=A8
def aqW :Aw 398=true:=A8
def arL :Aw 322=true:=A8
def adx :ED Aq 247 1 1:=EN A8
def ar2 :Aw 324=true:=A8
def aOb :(Aq.info? 296).bind (·.zero)=some (a9v):=A8
def ab9 :Jj Aq 296 [(0,1)] (a9v):=NM A8 aOb A8
def alh :(match Aq.underlying 296 with |some (.interface _)=>false|some _=>true|none=>false)=true:=A8
def amP :ED Aq 296 0 0:=EN A8
def aoo :Aw 482=true:=A8
def aEl :(Aq.info? 415).bind (·.zero)=some (a3q):=A8
def aZS :Jj Aq 415 [(0,1),(1,1),(2,1)] (a3q):=NM A8 aEl A8
def aN3 :Gm Aq 413 415 3 24:=Ku A8
def ar4 :Aw 483=true:=A8
def a0q :Aq.underlying 413=some (.slice 415):=A8
def uf :Em Aq 415 true 3:=G5 A8
def a08 (x y:MZ):AY:=(x.nY==y.nY&&(x.Af==y.Af&&(x.Dv==y.Dv&&true)))
def aXJ x y:Vq Aq 2 415 [.int .i64 x.nY,.int .i64 x.Af,.int .i64 x.Dv] [.int .i64 y.nY,.int .i64 y.Af,.int .i64 y.Dv] (a08 x y):=⟨λd w=>aX A8 A8 A8 (l:=[(3,0),(3,1),(3,2)]) A8 (Lj (Gn Ey A8 w) (Gn Ey A8 w) (QH w _ _ .i64 _ _ _ QW)<|Lj (Gn Ey A8 w) (Gn Ey A8 w) (QH w _ _ .i64 _ _ _ QW)<|Lj (Gn Ey A8 w) (Gn Ey A8 w) (QH w _ _ .i64 _ _ _ QW)<|Zn _ _ _ _)⟩
def adL :Program.eqGuardType Aq (Program.depth Aq) 415=false:=A8
def aoT :Aw 486=true:=A8
def abb :ED Aq 415 0 0:=EN A8
def apr :Aw 481=true:=A8
def ai8 :Aw 480=true:=A8
def aeE :yV Aq 296 "fedchat/resolve.sort" 480=true:=A8
def agq :ED Aq 247 0 0:=EN A8
def aYi :ED Aq 247 2 2:=EN A8
def aWv :Em Aq 247 true 3:=G5 A8
def ao2 :Aw 259=true:=A8
def an0 :pX Aq 247 0 0 false 1=true:=A8
def asc :Aw 401=true:=A8
def zero22 :(Aq.info? 22).bind (·.zero)=some (.slice none 0 0):=A8
def aqJ :Aw 325=true:=A8
def ajN :ED Aq 142 2 2:=EN A8
def afo :Em Aq 140 false 1:=G5 A8
def a0w :Aq.underlying 140=some (.map 3 64):=A8
def zero64 :(Aq.info? 64).bind (·.zero)=some (.int .i64 0):=A8
def aoz :Aw 144=true:=A8
def aj7 :ED Aq 142 1 1:=EN A8
def alf :Em Aq 139 false 1:=G5 A8
def qJ :Aq.underlying 139=some (.map 3 41):=A8
def cG :Gm Aq 190 41 1 24:=Ku A8
def aok :Aw 178=true:=A8
def ard :Aw 260=true:=A8
def ahL :ED Aq 142 0 0:=EN A8
def arH :Aw 167=true:=A8
def aqx :Aw 91=true:=A8
def aRG :(Aq.info? 142).bind (·.zero)=some (a88):=A8
def aSH :Jj Aq 142 [(0,1),(1,1),(2,1)] (a88):=NM A8 aRG A8
def arP :Aw 179=true:=A8
def arY :Aw 180=true:=A8
def asB :Aw 104=true:=A8
def aXo :Aw 220=true:=A8
def aPh :Gm Aq 186 71 1 8:=Ku A8
def aS0 :(Aq.info? 71).bind (·.zero)=some (.int .i64 0):=A8
def apl :Aw 171=true:=A8
def ado :Aq.underlying 186=some (.slice 71):=A8
def aqz :Aw 105=true:=A8
def aZT :Em Aq 136 false 1:=G5 A8
def aq3 :Aw 258=true:=A8
def arD :Aw 257=true:=A8
def aqM :Aw 177=true:=A8
def aoO :Aw 176=true:=A8
def aql :Aw 175=true:=A8
def atC :Aw 65=true:=A8
def ang :Aw 141=true:=A8
def acz :ED Aq 45 6 6:=EN A8
def atD :Aw 142=true:=A8
def ajI :Aw 145=true:=A8
def ato :Aw 101=true:=A8
def aqe :Aw 103=true:=A8
def afF :ED Aq 45 4 4:=EN A8
def am4 :Aq.underlying 233=some (.slice 22):=A8
def atp :Aw 230=true:=A8
def af9 :ED Aq 45 3 3:=EN A8
def arn :Aw 66=true:=A8
def ah3 :Gm Aq 233 22 1 24:=Ku A8
def arz :Aw 146=true:=A8
def apW :Aw 67=true:=A8
def aqj :Aw 63=true:=A8
def apE :Aw 68=true:=A8
def aqw :Aw 30=true:=A8
def ar0 :Aw 20=true:=A8
def abP :ED Aq 45 7 7:=EN A8
def aki :Em Aq 42 false 1:=G5 A8
def aYL :Aq.underlying 42=some (.slice 102):=A8
def adF :ED Aq 45 8 8:=EN A8
def anP :Em Aq 43 false 1:=G5 A8
def ajQ :Aq.underlying 43=some (.slice 104):=A8
def arC :Aw 216=true:=A8
def aqB :Aw 62=true:=A8
def aru :Aw 135=true:=A8
def apj :Aw 136=true:=A8
def asC :Aw 61=true:=A8
def aqd :Aw 368=true:=A8
def as8 :Aw 249=true:=A8
def aow :Aw 76=true:=A8
def aq0 :Aw 369=true:=A8
def atl :Aw 370=true:=A8
def atX :Aw 451=true:=A8
def arB :Aw 426=true:=A8
def asl :Aw 427=true:=A8
def aqf :Aw 428=true:=A8
def asM :Aw 431=true:=A8
def aoA :Aw 371=true:=A8
def aqF :Aw 429=true:=A8
def aoW :Aw 430=true:=A8
def aq5 :Aw 372=true:=A8
def ap9 :Aw 373=true:=A8
def aqZ :Aw 374=true:=A8
def aq1 :Aw 375=true:=A8
def apy :Aw 376=true:=A8
def arX :Aw 377=true:=A8
def atG :Aw 378=true:=A8
def arw :Aw 379=true:=A8
def apX :Aw 380=true:=A8
def anu :Aw 303=true:=A8
def aqR :Aw 304=true:=A8
def atL :Aw 381=true:=A8
def aov :Aw 305=true:=A8
def ap7 :Aw 245=true:=A8
def aoG :Aw 246=true:=A8
def asy :Aw 19=true:=A8
def asW :Aw 159=true:=A8
def aq8 :Aw 150=true:=A8
def asX :Aw 187=true:=A8
def arG :Aw 160=true:=A8
def arW :Aw 111=true:=A8
def apw :Aw 112=true:=A8
def aaw :Aw 84=true:=A8
def apR :Aw 151=true:=A8
def aqS :Aw 152=true:=A8
def arS :Aw 306=true:=A8
def aYU :Aw 307=true:=A8
def aGT :(Aq.info? 174).bind (·.zero)=some (a3A):=A8
def a8h :Aq.underlying 171=some (.slice 174):=A8
def Zr :Em Aq 174 true 4:=G5 A8
def aco :ED Aq 174 0 0:=EN A8
def acA :Jj Aq 174 [(0,1),(1,1),(2,1),(3,1)] (a3A):=NM A8 aGT A8
def atK :Aw 364=true:=A8
def aKv :Aw 262=true:=A8
def apC :Aw 416=true:=A8
def aqN :Aw 186=true:=A8
def as9 :Aw 185=true:=A8
def atd :Aw 367=true:=A8
def abA :Aw 446=true:=A8
def aUJ :Aw 110=true:=A8
def at7 :Aw 447=true:=A8
def aps :Aw 445=true:=A8
def abh :Aw 420=true:=A8
def atf :Aw 444=true:=A8
def arv :Aw 359=true:=A8
def ao3 :Aw 417=true:=A8
def apO :Aw 418=true:=A8
def atg :Aw 419=true:=A8
def fC :Gm Aq 40 82 3 32:=Ku A8
def aoy :Aw 432=true:=A8
def arx :Aw 383=true:=A8
def atY :Aw 382=true:=A8
def ati :Aw 389=true:=A8
def ari :Aw 309=true:=A8
def apZ :Aw 315=true:=A8
def asY :Aw 316=true:=A8
def as6 :Aw 448=true:=A8
def apS :Aw 421=true:=A8
def aoX :Aw 422=true:=A8
def aj2 :Aw 449=true:=A8
def arI :Aw 251=true:=A8
def aoN :Aw 385=true:=A8
def apL :Aw 386=true:=A8
def aoQ :Aw 387=true:=A8
def ash :Aw 388=true:=A8
def at1 :Aw 253=true:=A8
def anj :Aw 311=true:=A8
def as7 :Aw 312=true:=A8
def aod :Aw 313=true:=A8
def aoC :Aw 314=true:=A8
def arM :Aw 391=true:=A8
def ar9 :Aw 390=true:=A8
def aqi :Aw 317=true:=A8
def asg :Aw 392=true:=A8
def asP :Aw 318=true:=A8
def apB :Aw 252=true:=A8
def apF :Aw 254=true:=A8
def aoI :Aw 310=true:=A8
def aoU :Aw 423=true:=A8
def arh :Aw 162=true:=A8
def apx :Aw 250=true:=A8
def atc :Aw 424=true:=A8
def arV :Aw 365=true:=A8
def ao9 :Aw 455=true:=A8
def asF :Aw 450=true:=A8
def ar5 :Aw 425=true:=A8
def ae1 :(Aq.info? 281).bind (·.zero)=some (aMQ):=A8
def afB :ED Aq 281 0 0:=EN A8
def ap5 :Aw 360=true:=A8
def aqm :Aw 361=true:=A8
def arb :Aw 362=true:=A8
def aem :ED Aq 281 1 1:=EN A8
def asL :Aw 363=true:=A8
def acj :ED Aq 281 2 2:=EN A8
def ao0 :Aw 366=true:=A8
def aYG :ED Aq 281 3 3:=EN A8
def aYs :ED Aq 281 4 4:=EN A8
def aKx :Em Aq 281 true 5:=G5 A8
def atn :Aw 302=true:=A8
def anT :pX Aq 281 4 4 false 1=true:=A8
def aOv :Aw 384=true:=A8
def ark :Aw 308=true:=A8
def aou :Aw 155=true:=A8
def aeh :ED Aq 174 3 3:=EN A8
def ahS :Em Aq 64 false 1:=G5 A8
def apn :Aw 163=true:=A8
def aq2 :Aw 247=true:=A8
def akb :ED Aq 174 2 2:=EN A8
def aqh :Aw 244=true:=A8
def aXB :ED Aq 174 1 1:=EN A8
def atU :Aw 248=true:=A8
def aP5 :Gm Aq 171 174 4 64:=Ku A8
def asf :Aw 161=true:=A8
def ase :Aw 78=true:=A8
def ars :Aw 241=true:=A8
def ai1 :ED Aq 79 0 0:=EN A8
def anh :Aw 153=true:=A8
def aoe :Aw 154=true:=A8
def atZ :Aw 156=true:=A8
def atH :Aw 77=true:=A8
def as1 :Aw 86=true:=A8
def ape :Aw 243=true:=A8
def aoE :Aw 242=true:=A8
def atB :Aw 157=true:=A8
def apz :Aw 158=true:=A8
def ank :Aw 79=true:=A8
def ath :Aw 80=true:=A8
def anp :Aw 81=true:=A8
def atM :Aw 37=true:=A8
def atI :Aw 82=true:=A8
def atq :Aw 71=true:=A8
def ata :Aw 108=true:=A8
def arJ :Aw 256=true:=A8
def aYF :Aw 173=true:=A8
def aop :Aw 174=true:=A8
def arZ :Aw 90=true:=A8
def aqT :Aw 92=true:=A8
def ak7 :(Aq.info? 93).bind (·.zero)=some (.nilFunc):=A8
def akT :Em Aq 93 false 1:=G5 A8
def aoY :Aw 95=true:=A8
def aeT :Aw 93=true:=A8
def aG5 :(Aq.info? 134).bind (·.zero)=some (a3O):=A8
def aej :Jj Aq 134 [(0,1),(1,1)] (a3O):=NM A8 aG5 A8
def aZE :Aw 97=true:=A8
def as5 :Aw 100=true:=A8
def aAj (x y:BK):AY:=(x.Kind==y.Kind&&(x.Key.toList==y.Key.toList&&(x.Id==y.Id&&true)))
def al9 x y:Vq Aq 2 82 [.int .i64 x.Kind,.string x.Key,.int .i64 x.Id] [.int .i64 y.Kind,.string y.Key,.int .i64 y.Id] (aAj x y):=⟨λd w=>aX A8 A8 A8 (l:=[(26,0),(9,1),(3,2)]) A8 (Lj (Gn YX A8 w) (Gn YX A8 w) (QH w _ _ .i64 _ _ _ aCn)<|Lj (Gn RH A8 w) (Gn RH A8 w) (a1S w _ _ _ _ I4)<|Lj (Gn Ey A8 w) (Gn Ey A8 w) (QH w _ _ .i64 _ _ _ QW)<|Zn _ _ _ _)⟩
def aZm :Program.eqGuardType Aq (Program.depth Aq) 82=false:=A8
def anf :Aw 102=true:=A8
def ajC :Gm Aq 135 134 2 16:=Ku A8
def nI :Aq.underlying 135=some (.slice 134):=A8
def zf :Em Aq 134 true 2:=G5 A8
def afj :ED Aq 134 1 1:=EN A8
def adK :Em Aq 25 false 1:=G5 A8
def aXC :Aw 94=true:=A8
def agR :ED Aq 134 0 0:=EN A8
def aXy :Aw 96=true:=A8
def amv :Aw 98=true:=A8
def aik :Aw 99=true:=A8
def ao5 :Aw 55=true:=A8
def aoH :Aw 38=true:=A8
def aol :Aw 28=true:=A8
def aqn :Aw 85=true:=A8
def apI :Aw 164=true:=A8
def aqo :Aw 165=true:=A8
def aqD :Aw 87=true:=A8
def ao1 :Aw 83=true:=A8
def anZ :Aw 88=true:=A8
def aVV :Aq.underlying 71=some (.int .i64):=A8
def aB4 (x y:F5):AY:=(x.Pos==y.Pos&&(x.Id==y.Id&&(x.Status==y.Status&&(x.Gone==y.Gone&&true))))
def agF x y:Vq Aq 2 79 [.int .i64 x.Pos,.int .i64 x.Id,.int .i64 x.Status,.bool x.Gone] [.int .i64 y.Pos,.int .i64 y.Id,.int .i64 y.Status,.bool y.Gone] (aB4 x y):=⟨λd w=>aX A8 A8 A8 (l:=[(3,0),(3,1),(71,2),(4,3)]) A8 (Lj (Gn Ey A8 w) (Gn Ey A8 w) (QH w _ _ .i64 _ _ _ QW)<|Lj (Gn Ey A8 w) (Gn Ey A8 w) (QH w _ _ .i64 _ _ _ QW)<|Lj (Gn aJd A8 w) (Gn aJd A8 w) (QH w _ _ .i64 _ _ _ aVV)<|Lj (Gn aG1 A8 w) (Gn aG1 A8 w) (run_equalIn_bool' w _ _ _ _ aQJ)<|Zn _ _ _ _)⟩
def aY3 :Program.eqGuardType Aq (Program.depth Aq) 79=false:=A8
def ajZ :Em Aq 102 true 4:=G5 A8
def a7g (x y:au):AY:=(x.User.toList==y.User.toList&&(x.Thread==y.Thread&&(x.Id==y.Id&&(x.Time==y.Time&&true))))
def abp x y:Vq Aq 2 102 [.string x.User,.int .i64 x.Thread,.int .i64 x.Id,.int .i64 x.Time] [.string y.User,.int .i64 y.Thread,.int .i64 y.Id,.int .i64 y.Time] (a7g x y):=⟨λd w=>aX A8 A8 A8 (l:=[(9,0),(3,1),(3,2),(3,3)]) A8 (Lj (Gn RH A8 w) (Gn RH A8 w) (a1S w _ _ _ _ I4)<|Lj (Gn Ey A8 w) (Gn Ey A8 w) (QH w _ _ .i64 _ _ _ QW)<|Lj (Gn Ey A8 w) (Gn Ey A8 w) (QH w _ _ .i64 _ _ _ QW)<|Lj (Gn Ey A8 w) (Gn Ey A8 w) (QH w _ _ .i64 _ _ _ QW)<|Zn _ _ _ _)⟩
def akG :Program.eqGuardType Aq (Program.depth Aq) 102=false:=A8
def alE :Em Aq 104 true 2:=G5 A8
def a8O (x y:Yf):AY:=(x.User.toList==y.User.toList&&(x.Until==y.Until&&true))
def aeW x y:Vq Aq 2 104 [.string x.User,.int .i64 x.Until] [.string y.User,.int .i64 y.Until] (a8O x y):=⟨λd w=>aX A8 A8 A8 (l:=[(9,0),(3,1)]) A8 (Lj (Gn RH A8 w) (Gn RH A8 w) (a1S w _ _ _ _ I4)<|Lj (Gn Ey A8 w) (Gn Ey A8 w) (QH w _ _ .i64 _ _ _ QW)<|Zn _ _ _ _)⟩
def akL :Program.eqGuardType Aq (Program.depth Aq) 104=false:=A8
def asQ :Aw 69=true:=A8
def aqC :Aw 70=true:=A8
def aq7 :Aw 72=true:=A8
def anH :Aw 23=true:=A8
def amV :Aw 24=true:=A8
def ahI :Aw 25=true:=A8
def arf :Aw 26=true:=A8
def asa :Aw 27=true:=A8
def ap0 :Aw 21=true:=A8
instance ani :Kn Aq where
 und:=[(9,.string),(4,.bool),(3,.int .i64),(202,.int .u64),(5,.int .u8),(203,.int .u64),(26,.int .i64),(71,.int .i64)]
 apd:=⟨I4,aQJ,QW,ace,a8M,aa2,aCn,aVV,trivial⟩
 ty:=[(34,true,16),(27,false,1),(28,false,1),(29,false,1),(30,false,1),(9,false,1),(146,true,2),(38,true,29),(3,false,1),(32,true,9),(26,false,1),(221,true,2),(4,false,1),(5,false,1),(22,false,1),(45,true,9),(39,false,1),(79,true,4),(71,false,1),(41,false,1),(82,true,3),(276,true,2),(236,false,1),(95,false,1),(36,true,2),(183,false,1),(251,true,2),(190,false,1),(311,true,5),(222,true,7),(347,true,2),(411,true,4),(415,true,3),(247,true,3),(140,false,1),(139,false,1),(136,false,1),(42,false,1),(43,false,1),(174,true,4),(281,true,5),(64,false,1),(93,false,1),(134,true,2),(25,false,1),(102,true,4),(104,true,2)]
 hty:=⟨VO,aJQ,aYQ,aO5,aVP,RH,akA,Gg,Ey,Yt,YX,abC,aG1,ajp,abT,LH,ahy,wK,aJd,ajw,Qx,ac7,aY6,afn,ais,aiI,VB,ahp,ab7,aNE,aDj,aKZ,uf,aWv,afo,alf,aZT,aki,anP,Zr,aKx,ahS,akT,zf,adK,ajZ,alE,trivial⟩
 fld:=[((38,10),10),((38,8),8),((38,9),9),((34,5),5),((34,6),6),((34,7),7),((32,0),0),((32,1),1),((38,1),1),((38,2),2),((38,5),5),((34,0),0),((34,4),4),((38,12),27),((36,0),0),((146,0),0),((34,1),1),((34,2),2),((38,3),3),((146,1),1),((221,0),0),((221,1),1),((32,2),2),((32,3),3),((32,4),4),((32,5),5),((32,6),6),((32,7),7),((32,8),8),((34,3),3),((38,0),0),((38,4),4),((38,6),6),((38,7),7),((38,11),26),((36,1),1),((45,1),1),((45,2),2),((79,1),1),((79,2),2),((45,0),0),((45,5),5),((82,0),0),((82,1),1),((82,2),2),((276,0),0),((276,1),1),((209,0),0),((251,0),0),((251,1),1),((347,0),0),((347,1),1),((411,3),3),((411,0),0),((411,1),1),((411,2),2),((247,1),1),((296,0),0),((415,0),0),((247,0),0),((247,2),2),((142,2),2),((142,1),1),((142,0),0),((45,6),6),((45,4),4),((45,3),3),((45,7),7),((45,8),8),((174,0),0),((281,0),0),((281,1),1),((281,2),2),((281,3),3),((281,4),4),((174,3),3),((174,2),2),((174,1),1),((79,0),0),((134,1),1),((134,0),0)]
 hfld:=⟨amf,amk,adl,aZn,aYB,aZf,abL,aij,alW,alT,alv,aXg,aYo,aiJ,aZL,aXm,adX,akJ,aZX,aaC,aZO,aiC,aku,ac9,aZl,aji,afE,ajo,adQ,afc,afX,aau,aat,aiK,aht,ah1,agH,afd,afD,akW,aXq,alG,abv,aml,ac1,afI,anN,acU,amN,aah,aZd,alZ,am6,akR,aZr,aYA,adx,amP,abb,agq,aYi,ajN,aj7,ahL,acz,afF,af9,abP,adF,aco,afB,aem,acj,aYG,aYs,aeh,akb,aXB,ai1,afj,agR,trivial⟩
 part:=[((247,0),0,false,1),((281,4),4,false,1)]
 hpart:=⟨an0,anT,trivial⟩
 zero:=[(34,a4A),(38,a2J),(5,.int .u8 0),(3,.int .i64 0),(32,a4O),(79,a7C),(82,a4J),(45,aAE),(146,a7A),(221,aLB),(222,a8V),(276,a8Q),(209,a2u),(9,.string CX),(4,.bool false),(27,.slice none 0 0),(36,aAZ),(183,.map none),(251,aA8),(41,.slice none 0 0),(263,a9z),(311,a6E),(320,a4n),(321,a4D),(378,a3m),(247,aS6),(292,a1m),(347,a8H),(411,a6s),(296,a9v),(415,a3q),(22,.slice none 0 0),(64,.int .i64 0),(142,a88),(71,.int .i64 0),(174,a3A),(281,aMQ),(93,.nilFunc),(134,a3O)]
 hzero:=⟨⟨aSC,A8⟩,⟨Md,A8⟩,⟨SI,A8⟩,⟨zero3,A8⟩,⟨zero32,A8⟩,⟨a0W,A8⟩,⟨RD,A8⟩,⟨aQn,A8⟩,⟨a13,A8⟩,⟨aVJ,A8⟩,⟨aLU,A8⟩,⟨aG2,A8⟩,⟨aUA,A8⟩,⟨zero9,A8⟩,⟨xW,A8⟩,⟨pz,A8⟩,⟨aWr,A8⟩,⟨ahG,A8⟩,⟨a6B,A8⟩,⟨UZ,A8⟩,⟨aSs,A8⟩,⟨aUv,A8⟩,⟨aPH,A8⟩,⟨aV7,A8⟩,⟨aOj,A8⟩,⟨anB,A8⟩,⟨aPS,A8⟩,⟨aIw,A8⟩,⟨aEY,A8⟩,⟨aOb,A8⟩,⟨aEl,A8⟩,⟨zero22,A8⟩,⟨zero64,A8⟩,⟨aRG,A8⟩,⟨aS0,A8⟩,⟨aGT,A8⟩,⟨ae1,A8⟩,⟨ak7,A8⟩,⟨aG5,A8⟩,trivial⟩
 st:=[(34,[(0,1),(1,1),(2,1),(3,1),(4,1),(5,1),(6,1),(7,9)],a4A),(79,[(0,1),(1,1),(2,1),(3,1)],a7C),(38,[(0,1),(1,1),(2,1),(3,1),(4,1),(5,1),(6,1),(7,1),(8,1),(9,1),(10,16),(26,1),(27,2)],a2J),(45,[(0,1),(1,1),(2,1),(3,1),(4,1),(5,1),(6,1),(7,1),(8,1)],aAE),(276,[(0,1),(1,1)],a8Q),(209,[(0,1)],a2u),(36,[(0,1),(1,1)],aAZ),(251,[(0,1),(1,1)],aA8),(82,[(0,1),(1,1),(2,1)],a4J),(263,[(0,1)],a9z),(32,[(0,1),(1,1),(2,1),(3,1),(4,1),(5,1),(6,1),(7,1),(8,1)],a4O),(146,[(0,1),(1,1)],a7A),(378,[],a3m),(292,[],a1m),(347,[(0,1),(1,1)],a8H),(411,[(0,1),(1,1),(2,1),(3,1)],a6s),(296,[(0,1)],a9v),(415,[(0,1),(1,1),(2,1)],a3q),(142,[(0,1),(1,1),(2,1)],a88),(174,[(0,1),(1,1),(2,1),(3,1)],a3A),(134,[(0,1),(1,1)],a3O)]
 hst:=⟨ajT,an5,acd,amw,alK,aaz,akC,aYZ,aYE,adP,aZM,agk,afw,aYf,amO,abU,ab9,aZS,aSH,acA,aej,trivial⟩
 arr:=[(222,1,a8V),(311,1,a6E),(320,1,a4n),(321,1,a4D)]
 harr:=⟨afH,anX,ahw,ajh,trivial⟩
 sl:=[(27,3),(28,9),(29,146),(30,221),(22,38),(95,5),(39,79),(41,82),(277,276),(258,4),(244,27),(249,251),(40,82),(190,41),(342,347),(408,411),(413,415),(186,71),(233,22),(42,102),(43,104),(171,174),(135,134)]
 hsl:=⟨Jc,ahE,aUT,aSu,Kv,a5S,aVR,qR,ajG,afb,a2W,Y2,Ti,aBC,aFG,aBd,a0q,ado,am4,aYL,ajQ,a8h,nI,trivial⟩
abbrev Cb :=λx=>BX.arr 3 1 (List.map Ad x)
abbrev F8 :=λx=>BX.arr 38 29 (List.map Ap x)
abbrev WC :=λx=>BX.arr 79 4 (List.map En x)
abbrev J4 :=λx=>BX.arr 5 1 (List.map Dl x)
abbrev Wv :=λx=>BX.arr 9 1 (List.map DX x)
abbrev MP :=λx=>BX.arr 82 3 (List.map BO x)
abbrev a0N :=λx=>BX.arr 27 1 (List.map (BP Ad) x)
abbrev Qq :=λx=>BX.arr 174 4 (List.map MW x)
abbrev jX :=λx=>BX.arr 415 3 (List.map QI x)
abbrev YG :=λx=>BX.arr 251 2 (List.map Kz x)
abbrev Fb :=λx=>Ai.d (CJ x)
abbrev AX :=λx=>Ai.d (Ad x)
abbrev BI :=λx=>Ai.d ((BP Ap) x)
abbrev Rk :=λx=>Ai.d ((BP MW) x)
abbrev Ag :=λx=>Ai.d (E9 x)
abbrev Bf :=λx=>Ai.d ((BP Ad) x)
abbrev Dh :=λx=>Ai.d ((BP BO) x)
abbrev DL :=λx=>Ai.d (Ap x)
abbrev D8 :=λx=>Ai.d (DX x)
abbrev WU :=λx=>Ai.d ((BP En) x)
abbrev Zx :=λx=>Ai.d (En x)
abbrev IW :=λx=>Ai.d (GU x)
abbrev Ib :=λx=>Ai.d ((BP DX) x)
abbrev Iu :=λx=>Ai.d (FV x)
abbrev Ik :=λx=>Ai.d ((BP Dl) x)
abbrev Q5 :=λx=>Ai.d ((BP FH) x)
abbrev Pg :=λx=>Ai.d ((BP FI) x)
abbrev YE :=λx=>Ai.d (MW x)
abbrev JO :=λx=>Ai.d ((BP (BP BO)) x)
abbrev Xi :=λx=>Ai.d (BO x)
abbrev WG :=λx=>Ai.d ((BP NG) x)
section
set_option maxRecDepth 20000
set_option maxHeartbeats 4000000
def yM (q:Int)(j:D9):AL D9:=(cond (q==1) (some j) (cond (q==2) (some ({ Ew with N:=j.N,Via:=j.Via })) (cond (q==3) (some ({ Ew with Levels:=j.Levels })) (cond (q==4) (some ({ Ew with N:=j.N,Allow:=j.Allow })) (cond (q==5) (some ({ Ew with N:=j.N })) (cond (q==6) (some ({ Ew with Allow:=j.Allow,iD:=j.iD })) (cond (q==14) (some ({ Ew with Target:=j.Target })) (some Ew))))))))
def aLm :=DW func192 rfl yM AX IW IW λu j r h=>AZ<|Aa<|AZ<|Aj<|AZ<|Df h (λh=>AZ<|Eb<|by rw[←CM h];exact⟨[IW j],[],⟨⟨1,Ar (GU j),true,16,A8,A8,A8,VO,DT A8,Ul,A8⟩,trivial⟩,A8,A8,A8⟩) λh=>AZ<|Df h (λh=>AZ<|Eb<|by rw[←CM h];exact⟨[IW ({ Ew with N:=j.N,Via:=j.Via })],[],⟨⟨1,Ar (GU ({ Ew with N:=j.N,Via:=j.Via })),true,16,A8,A8,A8,VO,DT A8,Ul,A8⟩,trivial⟩,A8,A8,A8⟩) λh=>AZ<|Df h (λh=>AZ<|Eb<|by rw[←CM h];exact⟨[IW ({ Ew with Levels:=j.Levels })],[],⟨⟨1,Ar (GU ({ Ew with Levels:=j.Levels })),true,16,A8,A8,A8,VO,DT A8,Ul,A8⟩,trivial⟩,A8,A8,A8⟩) λh=>AZ<|Df h (λh=>AZ<|Eb<|by rw[←CM h];exact⟨[IW ({ Ew with N:=j.N,Allow:=j.Allow })],[],⟨⟨1,Ar (GU ({ Ew with N:=j.N,Allow:=j.Allow })),true,16,A8,A8,A8,VO,DT A8,Ul,A8⟩,trivial⟩,A8,A8,A8⟩) λh=>AZ<|Df h (λh=>AZ<|Eb<|by rw[←CM h];exact⟨[IW ({ Ew with N:=j.N })],[],⟨⟨1,Ar (GU ({ Ew with N:=j.N })),true,16,A8,A8,A8,VO,DT A8,Ul,A8⟩,trivial⟩,A8,A8,A8⟩) λh=>AZ<|Df h (λh=>AZ<|Eb<|by rw[←CM h];exact⟨[IW ({ Ew with Allow:=j.Allow,iD:=j.iD })],[],⟨⟨1,Ar (GU ({ Ew with Allow:=j.Allow,iD:=j.iD })),true,16,A8,A8,A8,VO,DT A8,Ul,A8⟩,trivial⟩,A8,A8,A8⟩) λh=>AZ<|BA h (λh=>AZ<|Eb<|by rw[←CM h];exact⟨[IW ({ Ew with Target:=j.Target })],[],⟨⟨1,Ar (GU ({ Ew with Target:=j.Target })),true,16,A8,A8,A8,VO,DT A8,Ul,A8⟩,trivial⟩,A8,A8,A8⟩) λh=>AZ<|Eb<|by rw[←CM h];exact⟨[IW Ew],[],⟨⟨1,Ar (GU Ew),true,16,A8,A8,A8,VO,DT A8,Ul,A8⟩,trivial⟩,A8,A8,A8⟩
def Y5 (j:AQ):AL AQ:=(yM j.Kind j.Content).bind λq=>some ({ j with Content:=q })
def Vp :=Dc func114 rfl Y5 DL DL λj r h=>AZ<|AO h λq u h=>AP 4<|.ca (aLm u)<|aL8
def a0C (j:AV)(q:AV)(k3:(Int->AL AY)):Int->AL AY:=λv2=>(cond (v2<(j.length:Int)) ((Ak j v2).bind λu=>(Ak q v2).bind λz=>(cond (u != z) (some false) (k3 (Au (v2+1))))) (some true))
def aCh (j:AV)(q:AV):Int->AL AY:=bn (a0C j q) Am
def kZ (j:AV)(q:AV):AL AY:=(cond ((j.length:Int) != (q.length:Int)) (some false) (aCh j q 0))
def abJ :=DW func43 rfl kZ Bf Bf Ag λj q r h=>AZ<|Aa<|AP 1<|.p (BJ Ad j)<|.a 1<|.Z (BJ Ad q)<|BA h CB λh=>Aa<|AZ<|Aj<|Dp (λu=>⟨Az 26 [(0,Bf j),(1,Bf q),(5,AX u)],[],0⟩) _ _ _ (Ae []) h<|λu z I J h=>Aa<|AP 2<|.Z (BJ Ad j)<|Bo h (λh=>Aa<|Aj<|Bv h λu z J L h=>F6 A8 A8 A8 (.a 2<|.p (BD Ad z)<|.a 3<|.p (BD Ad L)<|.a 2<|.nil _)<|BA h CB λh=>SQ) λh=>El
abbrev Gq:=AA BL
def a5O (j:Gq)(q:Gq)(k3:(Int->AL AY)):Int->AL AY:=λv2=>(cond (v2<(j.length:Int)) ((Ak j v2).bind λu=>(Ak q v2).bind λz=>(cond (!(u.toList==z.toList)) (some false) (k3 (Au (v2+1))))) (some true))
def a7h (j:Gq)(q:Gq):Int->AL AY:=bn (a5O j q) Am
def Uz (j:Gq)(q:Gq):AL AY:=(cond ((j.length:Int) != (q.length:Int)) (some false) (a7h j q 0))
def aZU :=DW func181 rfl Uz Ib Ib Ag λj q r h=>AZ<|Aa<|AP 1<|.p (BJ DX j)<|.a 1<|.Z (BJ DX q)<|BA h CB λh=>Aa<|AZ<|Aj<|Dp (λu=>⟨Az 26 [(0,Ib j),(1,Ib q),(5,AX u)],[],0⟩) _ _ _ (Ae []) h<|λu z I J h=>Aa<|AP 2<|.Z (BJ DX j)<|Bo h (λh=>Aa<|Aj<|Bv h λu z J L h=>F6 A8 A8 A8 (.a 2<|.p (BD DX z)<|.a 3<|.p (BD DX L)<|.a 2<|.nil _)<|BA h CB λh=>SQ) λh=>El
def a0k (j:(Int->AL AY))(q:Int)(u:AY):AL AY:=(cond u (some false) (j (Au (q+1))))
def um (j:(Int->AL AY))(q:Int)(u:AY):AL AY:=(cond u (some false) (j (Au (q+1))))
def nH (j:Ci)(q:Ci)(z:(Int->AL AY)):Int->AL AY:=λu=>(bif u<(j.Kinds.length:Int) then(Ak j.Kinds u).bind λI=>(Ak q.Kinds u).bind λJ=>(cond (I.Kind != J.Kind) (um z u true) ((Ak j.Kinds u).bind λL=>(Ak q.Kinds u).bind λM=>um z u (L.N != M.N)))else(cond (j.User==q.User) (some (j.Message==q.Message)) (some false)).bind λO=>(cond O (some (j.State==q.State)) (some false)).bind λU=>(cond U (some (j.gY==q.gY)) (some false)).bind λY=>(cond Y (some (j.lg==q.lg)) (some false)).bind λZ=>(cond Z (some (j.oV==q.oV)) (some false)).bind λx34=>(cond x34 (some (j.iq==q.iq)) (some false)).bind λx36=>some x36)
def bT (j:Ci)(q:Ci):Int->AL AY:=bn (nH j q) Am
def mG (j:Ci)(q:Ci)(M:(Int->AL AY)):Int->AL AY:=λu=>(cond (u<(j.Users.length:Int)) ((Ak j.Users u).bind λz=>(Ak q.Users u).bind λI=>(cond (!(z.User.toList==I.User.toList)) (a0k M u true) ((Ak j.Users u).bind λJ=>(Ak q.Users u).bind λL=>a0k M u (J.N != L.N)))) (bT j q 0))
def a0S (j:Ci)(q:Ci):Int->AL AY:=bn (mG j q) Am
def XP (j:Ci)(q:Ci):AL AY:=(cond ((j.Users.length:Int) != (q.Users.length:Int)) (some true) (some ((j.Kinds.length:Int) != (q.Kinds.length:Int)))).bind λu=>(cond u (some false) (a0S j q 0))
def aOL :=DW func182 rfl XP Iu Iu Ag λq z r h=>AZ<|Aa<|AP 2<|.p (BJ FH q.Users)<|.a 2<|.p (BJ FH z.Users)<|.a 1<|AO h λu j h=>.mg 14 8 (Ag u) (.bi j (k2:=λh=>.a 2<|.p (BJ FI q.Kinds)<|.a 2<|.Z (BJ FI z.Kinds)<|Cc))<|.aY<|BA h CB λh=>Aa<|AZ<|Aj<|Dp (λu=>⟨Az 140 [(2,.ptr 0 0),(3,.ptr 1 0),(5,AX u)],[.box (Ar (FV q)),.box (Ar (FV z))],0⟩) _ _ _ (Ae [AU 0,AU 1]) h<|λu j J I h=>Aa<|AP 3<|.Z (BJ FH q.Users)<|Bo h (λh=>Aa<|Aj<|Cm (λs=>∃(O:AY),CO s ⟨Az 140 [(2,.ptr 0 0),(3,.ptr 1 0),(5,AX I),(57,Ag O)],[.box (Ar (FV q)),.box (Ar (FV z))],0⟩/\a0k j I O=some r) (by rintro s ⟨O,hs,h⟩;exact D6 hs<|BA h CB λh=>a2s)<|λu=>Bv h λj J I M h=>EX h (λj h=>DN A8 A8 A8 (.a 3<|.p (BD FH J)<|.a 5<|.p (BD FH M)<|.a 3<|.c (BF some j)<|.a 14<|.nil _)<|u _ ⟨true,Ae [AU 0,AU 1],h⟩) λj h=>Bv h λI U Y Z h=>DN A8 A8 A8 (.a 3<|.p (BD FH J)<|.a 5<|.p (BD FH M)<|.a 3<|.c (BF some j)<|.a 3<|.p (BD FH U)<|.a 5<|.p (BD FH Z)<|.a 4<|.nil _)<|u _ ⟨(I.N != Y.N),Ae [AU 0,AU 1],h⟩) λh=>CZ<|Aa<|AZ<|Aj<|Dp (λu=>⟨Az 140 [(2,.ptr 0 0),(3,.ptr 1 0),(6,AX u)],[.box (Ar (FV q)),.box (Ar (FV z))],0⟩) _ _ _ (Ae [AU 0,AU 1]) h<|λu j J I h=>Aa<|AP 3<|.Z (BJ FI q.Kinds)<|Bo h (λh=>Aa<|Aj<|Cm (λs=>∃(L:AY),CO s ⟨Az 140 [(2,.ptr 0 0),(3,.ptr 1 0),(6,AX I),(92,Ag L)],[.box (Ar (FV q)),.box (Ar (FV z))],0⟩/\um j I L=some r) (by rintro s ⟨L,hs,h⟩;exact D6 hs<|BA h CB λh=>a2s)<|λu=>Bv h λj J I M h=>EX h (λj h=>DN A8 A8 A8 (.a 3<|.p (BD FI J)<|.a 5<|.p (BD FI M)<|.a 3<|.c (BF some j)<|.a 14<|.nil _)<|u _ ⟨true,Ae [AU 0,AU 1],h⟩) λj h=>Bv h λI U Y Z h=>DN A8 A8 A8 (.a 3<|.p (BD FI J)<|.a 5<|.p (BD FI M)<|.a 3<|.c (BF some j)<|.a 3<|.p (BD FI U)<|.a 5<|.p (BD FI Z)<|.a 4<|.nil _)<|u _ ⟨(I.N != Y.N),Ae [AU 0,AU 1],h⟩) λh=>CZ<|AP 5<|AO h λu j h=>.mg 98 6 (Ag u) (.bi j)<|.a 1<|AO h λu j h=>.mg 106 5 (Ag u) (DC j)<|.a 1<|AO h λu j h=>.mg 113 5 (Ag u) (DC j)<|.a 1<|AO h λu j h=>.mg 120 5 (Ag u) (DC j)<|.a 1<|AO h λu j h=>.mg 127 5 (Ag u) (DC j)<|.a 1<|AO h λu j h=>.mg 134 5 (Ag u) (DC j)<|.aW<|CY
def VJ (j:D9)(q:D9):AL AY:=(cond (j.Text.toList==q.Text.toList) (some (j.N==q.N)) (some false)).bind λM=>(cond M (some (j.Target==q.Target)) (some false)).bind λO=>(cond O (some (j.Thread==q.Thread)) (some false)).bind λU=>(cond U (some (j.Via.toList==q.Via.toList)) (some false)).bind λY=>(cond Y ((Uz j.Allow q.Allow).bind λu=>some u) (some false)).bind λZ=>(cond Z ((Uz j.iD q.iD).bind λz=>some z) (some false)).bind λI=>(cond I ((XP j.Levels q.Levels).bind λJ=>some J) (some false)).bind λL=>some L
def aFM :=DW func106 rfl VJ IW IW Ag λu z r h=>AZ<|AP 5<|AO h λq j h=>.mg 10 6 (Ag q) (.bi j)<|.a 1<|AO h λq j h=>.mg 18 5 (Ag q) (DC j)<|.a 1<|AO h λq j h=>.mg 25 5 (Ag q) (DC j)<|.a 1<|AO h λq j h=>.mg 32 5 (Ag q) (DC j)<|.a 1<|AO h λq j h=>.mg 39 5 (Ag q) (DC j (λe i=>aP8))<|.a 1<|AO h λq j h=>.mg 46 5 (Ag q) (DC j (λe i=>aP8))<|.a 1<|AO h λq j h=>.mg 53 5 (Ag q) (DC j (λe i=>by subst e;have h:=i;exact AO h λq j h=>.a 4<|.X (aOL j)<|Cc))<|.aW<|CY
def Vt (j:AQ)(q:AQ):AL AY:=(cond (j.Id==q.Id) (some (j.Room.toList==q.Room.toList)) (some false)).bind λx1=>(cond x1 (some (j.bU.toList==q.bU.toList)) (some false)).bind λx3=>(cond x3 (some (j.Kind==q.Kind)) (some false)).bind λx5=>(cond x5 (some (j.State==q.State)) (some false)).bind λx7=>(cond x7 (some (j.Key.toList==q.Key.toList)) (some false)).bind λx9=>(cond x9 (some (j.Time==q.Time)) (some false)).bind λu=>(cond u (some (j.Depth==q.Depth)) (some false)).bind λz=>(cond z ((kZ j.bG q.bG).bind λI=>some I) (some false)).bind λJ=>(cond J ((kZ j.bI q.bI).bind λL=>some L) (some false)).bind λM=>(cond M ((VJ j.Content q.Content).bind λO=>some O) (some false)).bind λU=>(cond U (some (j.Hash==q.Hash)) (some false)).bind λY=>(cond Y (some (j.sF.Server.toList==q.sF.Server.toList)) (some false)).bind λZ=>(cond Z (some (j.sF.Sum==q.sF.Sum)) (some false)).bind λx28=>some x28
def qo :=DW func36 rfl Vt DL DL Ag λu z r h=>AZ<|AP 5<|AO h λq j h=>.mg 10 6 (Ag q) (.bi j)<|.a 1<|AO h λq j h=>.mg 18 5 (Ag q) (DC j)<|.a 1<|AO h λq j h=>.mg 25 5 (Ag q) (DC j)<|.a 1<|AO h λq j h=>.mg 32 5 (Ag q) (DC j)<|.a 1<|AO h λq j h=>.mg 39 5 (Ag q) (DC j)<|.a 1<|AO h λq j h=>.mg 46 5 (Ag q) (DC j)<|.a 1<|AO h λq j h=>.mg 53 5 (Ag q) (DC j)<|.a 1<|AO h λq j h=>.mg 60 5 (Ag q) (DC j (λe i=>aUf))<|.a 1<|AO h λq j h=>.mg 67 5 (Ag q) (DC j (λe i=>aUf))<|.a 1<|AO h λq j h=>.mg 74 5 (Ag q) (DC j (λe i=>by subst e;have h:=i;exact AO h λq j h=>.a 4<|.X (aFM j)<|Cc))<|.a 1<|AO h λq j h=>.mg 81 5 (Ag q) (DC j)<|.a 1<|AO h λq j h=>.mg 88 7 (Ag q) (DC j)<|.a 1<|AO h λq j h=>.mg 97 7 (Ag q) (DC j)<|.aW<|CY
def XL (z:(Int->AV->AL AV)):Int->AV->AL AV:=λj u=>(cond (j>=128) ((Xm j 128).bind λI=>(D5 1 u [IntKind.u8.wrap (IntKind.u64.wrap (I+128))]).bind λJ=>(yu .u64 j 128).bind λL=>z L J) ((D5 1 u [IntKind.u8.wrap j]).bind λq=>some q))
def aOs  :Int->AV->AL AV:=aQ (XL) Am
def aAb (v2:Int):AL AV:=aOs v2 []
def a0x (j:Int):AL AV:=(Qc .shl .u64 (IntKind.u64.wrap j) 1).bind λq=>(cond (j<0) (aAb (fA .u64 q)) (aAb q))
def aV2 :=LX func194 rfl a0x AX J4 λz r h=>BM<|.f (CV 5 1)<|.aY<|AO h λq j h=>AP 2<|.Z (a7K (k:=.u64) (k':=.u64) j)<|Cm (λs=>∃(v2:Int),CO s ⟨Az 28 [(3,.d ((qX .u64) v2))],[],0⟩/\aAb v2=some r) (by rintro s ⟨v2,hs,h⟩;exact D6 hs<|BM<|.f (CV 5 1)<|.aY<|Aa<|Aj<|DV (λq j=>⟨Az 28 [(3,.d ((qX .u64) q)),(4,.aS 0)],[(J4 j)],0⟩) _ _ _ _ (Ae [AU 0]) h<|λq j L I J h=>Aa<|AZ<|Bo h (λh=>Aj<|Bv h λq j I J h=>AP 2<|.p (aK6 (k:=.u64) j)<|.a 2<|.p (EG Jz SI [Dl (IntKind.u8.wrap (IntKind.u64.wrap (q+128)))])<|.Y (Dk (k:=0) Dl J Jz A8 (λ_=>rfl) Bl)<|AO h λq j h=>CU<|.a 1<|.p (alO (k:=.u64) j)<|.aN<|L _ _ _ (Ae [AU 1]) h) λh=>CZ<|AO h λq j h=>AP 3<|.p (EG Jz SI [Dl (IntKind.u8.wrap I)])<|.Y (Dk (k:=0) Dl j Jz A8 (λ_=>rfl) Bl)<|Jm)<|λj=>AZ<|BA h (λh=>CU<|.a 1<|.p (aUz (k:=.u64) (u:=q))<|.aN<|j _ ⟨(fA .u64 q),Ae [],h⟩) λh=>j _ ⟨q,Ae [],h⟩
def NI (j:AV)(q:Int):AL AV:=(D5 1 [] j).bind λu=>(a0x q).bind λz=>(D5 1 u z).bind λI=>some I
def Oh :=Gj func117 rfl NI Ik AX J4 λj q r h=>BM<|.f (CV 5 1)<|.aY<|Hq h λJ u L z M I h=>BM<|.f (Ht Jz SI [])<|.a 1<|.f (Dk (k:=1) Dl u Jz A8 (λ_=>rfl) Bl)<|.a 1<|.ca (aV2 z).view<|.Y (Dk (k:=2) Dl I Jz A8 (λ_=>rfl) Bl)<|iP
def Rs (q:AV)(j:BL):AL AV:=(NI q (j.size:Int)).bind λu=>(D5 1 u (DI j)).bind λz=>some z
def XY :=Gj func116 rfl Rs Ik D8 J4 λq j r h=>BM<|.f (CV 5 1)<|.aY<|Bv h λI u J z h=>AP 3<|.f (x:=.aS 1) (Jt [Ik q,AX (j.size:Int)] (Oh u))<|.a 1<|.p (ajL (s:=j) I4 a5S a8M)<|.Y (Dk (k:=1) Dl z Jz A8 (λ_=>rfl) Bl)<|MJ
def rW (q:AV)(j:AY):AL AV:=(D5 1 [] q).bind λu=>(cond j ((D5 1 u [1]).bind λz=>some z) ((D5 1 u [0]).bind λI=>some I))
def aQz :=Gj func328 rfl rW Ik Ag J4 λu q r h=>BM<|.f (CV 5 1)<|.aY<|AO h λz j h=>BM<|.f (Ht Jz SI [])<|.a 1<|.Y (Dk (k:=1) Dl j Jz A8 (λ_=>rfl) Bl)<|Aa<|AZ<|BA h (λh=>AO h λz j h=>AP 1<|.p (EG Jz SI [Dl 1])<|.Y (Dk (k:=2) Dl j Jz A8 (λ_=>rfl) Bl)<|iP) λh=>AO h λz j h=>AP 1<|.p (EG Jz SI [Dl 0])<|.Y (Dk (k:=2) Dl j Jz A8 (λ_=>rfl) Bl)<|iP
def a5Z (j:Gq)(u:(AV->Int->AL AV)):AV->Int->AL AV:=λv2 q=>(cond (q<(j.length:Int)) ((Ak j q).bind λz=>(Rs v2 z).bind λI=>u I (Au (q+1))) (some v2))
def aVT (j:Gq):AV->Int->AL AV:=aQ (a5Z j) Am
def yK (q:AV)(j:Gq):AL AV:=(NI q (j.length:Int)).bind λu=>aVT j u 0
def aUc :=Gj func329 rfl yK Ik Ib J4 λz j r h=>BM<|.f (CV 5 1)<|.aY<|AO h λq u h=>AP 2<|.p (BJ DX j)<|.Y (x:=.aS 1) (Jt [Ik z,AX (j.length:Int)] (Oh u))<|Aa<|AZ<|Aj<|DV (λq u=>⟨Az 24 [(1,Ib j),(5,.aS 0),(6,AX u)],[(J4 q)],0⟩) _ _ _ _ (Ae [AU 1]) h<|λq u J I L h=>Aa<|AP 2<|.Z (BJ DX j)<|Bo h (λh=>Aa<|Aj<|Bv h λq u L M h=>CU<|.a 3<|.p (BD DX u)<|.a 1<|.f (Jr (eH:=[.aS 0,D8 q]) (fH:=[.d (.sl (List.map Dl I)),D8 q]) (XY M) (λx q=>OQ) aIr ⟨⟨5,1,List.map Dl I,A8,rfl⟩,rfl,trivial⟩ rfl)<|aE1) λh=>JC
def aIX (j:Ci):AL AV:=some [j.User,j.Message,j.State,j.gY,j.lg,j.oV,j.iq]
def aXZ :=LX func330 rfl aIX Iu Cb λj r h=>AP 1<|.f (CV 3 1)<|.aY<|AP 14<|.Y (Ht Dy zero3 [Ad j.User,Ad j.Message,Ad j.State,Ad j.gY,Ad j.lg,Ad j.oV,Ad j.iq])<|MJ
def a4F (q:AV)(z:(AV->Int->AL AV)):AV->Int->AL AV:=λu j=>(cond (j<(q.length:Int)) ((Ak q j).bind λI=>(NI u I).bind λJ=>z J (Au (j+1))) (some u))
def aDI (j:AV):AV->Int->AL AV:=aQ (a4F j) Am
def a6Z (j:D9)(z:(AV->Int->AL AV)):AV->Int->AL AV:=λu q=>(bif q<(j.Levels.Kinds.length:Int) then(Ak j.Levels.Kinds q).bind λI=>(NI u I.Kind).bind λJ=>(Ak j.Levels.Kinds q).bind λL=>(NI J L.N).bind λM=>z M (Au (q+1))else(aIX j.Levels).bind λO=>aDI O u 0)
def aKg (j:D9):AV->Int->AL AV:=aQ (a6Z j) Am
def a5T (j:D9)(u:(AV->Int->AL AV)):AV->Int->AL AV:=λO q=>(bif q<(j.Levels.Users.length:Int) then(Ak j.Levels.Users q).bind λz=>(Rs O z.User).bind λI=>(Ak j.Levels.Users q).bind λJ=>(NI I J.N).bind λL=>u L (Au (q+1))else(NI O (j.Levels.Kinds.length:Int)).bind λM=>aKg j M 0)
def aOq (j:D9):AV->Int->AL AV:=aQ (a5T j) Am
def oL (j:D9):AL AV:=(Rs [] j.Text).bind λq=>(NI q j.N).bind λu=>(NI u j.Target).bind λz=>(rW z j.Thread).bind λI=>(Rs I j.Via).bind λJ=>(yK J j.Allow).bind λL=>(yK L j.iD).bind λM=>(NI M (j.Levels.Users.length:Int)).bind λO=>aOq j O 0
def aW2 :=LX func265 rfl oL IW J4 λj r h=>AP 1<|.f (CV 5 1)<|.aY<|AO h λq u h=>AP 2<|.Y (x:=.aS 2) (Jt [.d (.lit (.slice none 0 0)),D8 j.Text] (XY u))<|AO h λu z h=>AP 3<|.Y (Jr (eH:=[.aS 2,AX j.N]) (fH:=[.d (.sl (List.map Dl q)),AX j.N]) (Oh z) (λx q=>OQ) ZL ⟨⟨5,1,List.map Dl q,A8,rfl⟩,rfl,trivial⟩ rfl)<|AO h λq z h=>AP 3<|.Y (Jr (eH:=[.aS 3,AX j.Target]) (fH:=[.d (.sl (List.map Dl u)),AX j.Target]) (Oh z) (λx q=>OQ) ZL ⟨⟨5,1,List.map Dl u,A8,rfl⟩,rfl,trivial⟩ rfl)<|AO h λu z h=>AP 3<|.Y (Jr (eH:=[.aS 4,Ag j.Thread]) (fH:=[.d (.sl (List.map Dl q)),Ag j.Thread]) (aQz z) (λx q=>OQ) adS ⟨⟨5,1,List.map Dl q,A8,rfl⟩,rfl,trivial⟩ rfl)<|AO h λq z h=>AP 3<|.Y (Jr (eH:=[.aS 5,D8 j.Via]) (fH:=[.d (.sl (List.map Dl u)),D8 j.Via]) (XY z) (λx q=>OQ) aIr ⟨⟨5,1,List.map Dl u,A8,rfl⟩,rfl,trivial⟩ rfl)<|AO h λu z h=>AP 3<|.Y (Jr (eH:=[.aS 6,Ib j.Allow]) (fH:=[.d (.sl (List.map Dl q)),Ib j.Allow]) (aUc z) (λx q=>OQ) aNP ⟨⟨5,1,List.map Dl q,A8,rfl⟩,rfl,trivial⟩ rfl)<|AO h λq z h=>AP 3<|.Y (Jr (eH:=[.aS 7,Ib j.iD]) (fH:=[.d (.sl (List.map Dl u)),Ib j.iD]) (aUc z) (λx q=>OQ) aNP ⟨⟨5,1,List.map Dl u,A8,rfl⟩,rfl,trivial⟩ rfl)<|AZ<|AO h λu z h=>AP 3<|.p (BJ FH j.Levels.Users)<|.Y (Jr (eH:=[.aS 8,AX (j.Levels.Users.length:Int)]) (fH:=[.d (.sl (List.map Dl q)),AX (j.Levels.Users.length:Int)]) (Oh z) (λx q=>OQ) ZL ⟨⟨5,1,List.map Dl q,A8,rfl⟩,rfl,trivial⟩ rfl)<|Aa<|AZ<|Aj<|DV (λq u=>⟨Az 109 [(3,.aS 0),(4,.ptr 1 0),(5,AX u)],[(J4 q),.box (Ar (FV j.Levels))],0⟩) _ _ _ _ (Ae [AU 10,AU 9]) h<|λq u z I J h=>Aa<|AP 3<|.Z (BJ FH j.Levels.Users)<|Bo h (λh=>Aa<|Aj<|Bv h λq u J L h=>AP 4<|.p (BD FH u)<|.a 2<|.Y (Jr (eH:=[.aS 0,D8 q.User]) (fH:=[.d (.sl (List.map Dl I)),D8 q.User]) (XY L) (λx q=>OQ) aIr ⟨⟨5,1,List.map Dl I,A8,rfl⟩,rfl,trivial⟩ rfl)<|Bv h λq u I L h=>CU<|.a 4<|.p (BD FH u)<|.a 2<|.f (Jr (eH:=[.aS 2,AX q.N]) (fH:=[.d (.sl (List.map Dl J)),AX q.N]) (Oh L) (λx q=>OQ) ZL ⟨⟨5,1,List.map Dl J,A8,rfl⟩,rfl,trivial⟩ rfl)<|.aN<|Cx<|z _ _ _ (Ae [AU 3,AU 1]) h) λh=>CZ<|AO h λq u h=>AP 3<|.p (BJ FI j.Levels.Kinds)<|.Y (Jr (eH:=[.aS 0,AX (j.Levels.Kinds.length:Int)]) (fH:=[.d (.sl (List.map Dl I)),AX (j.Levels.Kinds.length:Int)]) (Oh u) (λx q=>OQ) ZL ⟨⟨5,1,List.map Dl I,A8,rfl⟩,rfl,trivial⟩ rfl)<|Aa<|AZ<|Aj<|DV (λq u=>⟨Az 109 [(3,.aS 0),(4,.ptr 1 0),(6,AX u)],[(J4 q),.box (Ar (FV j.Levels))],0⟩) _ _ _ _ (Ae [AU 2,AU 1]) h<|λq u z I J h=>Aa<|AP 3<|.Z (BJ FI j.Levels.Kinds)<|Bo h (λh=>Aa<|Aj<|Bv h λq u J L h=>AP 4<|.p (BD FI u)<|.a 2<|.Y (Jr (eH:=[.aS 0,AX q.Kind]) (fH:=[.d (.sl (List.map Dl I)),AX q.Kind]) (Oh L) (λx q=>OQ) ZL ⟨⟨5,1,List.map Dl I,A8,rfl⟩,rfl,trivial⟩ rfl)<|Bv h λq u I L h=>CU<|.a 4<|.p (BD FI u)<|.a 2<|.f (Jr (eH:=[.aS 2,AX q.N]) (fH:=[.d (.sl (List.map Dl J)),AX q.N]) (Oh L) (λx q=>OQ) ZL ⟨⟨5,1,List.map Dl J,A8,rfl⟩,rfl,trivial⟩ rfl)<|.aN<|Cx<|z _ _ _ (Ae [AU 3,AU 1]) h) λh=>CZ<|AO h λq u h=>AP 1<|.X (aXZ u).view<|Aa<|AZ<|Aj<|DV (λu z=>⟨Az 109 [(3,.aS 0),(7,Bf q),(8,AX z)],[(J4 u)],0⟩) _ _ _ _ (Ae [AU 0]) h<|λu z I J L h=>Aa<|AP 2<|.Z (BJ Ad q)<|Bo h (λh=>Aa<|Aj<|Bv h λq u z L h=>CU<|.a 3<|.p (BD Ad u)<|.a 1<|.f (Jr (eH:=[.aS 0,AX q]) (fH:=[.d (.sl (List.map Dl J)),AX q]) (Oh L) (λx q=>OQ) ZL ⟨⟨5,1,List.map Dl J,A8,rfl⟩,rfl,trivial⟩ rfl)<|aJU) λh=>JC
def aI9  :AL Int:=some 860922984064492325
def aYM r(h:aI9=some r):E8 196 [] [] (AX r) []:=Ec func196 rfl<|dF
def aFP (j:AV)(u:(Int->Int->AL Int)):Int->Int->AL Int:=λv2 q=>(cond (q<(j.length:Int)) ((Ak j q).bind λz=>(Xm (IntKind.u64.wrap ((FD .xor .u64 v2 (IntKind.u64.wrap z))*1099511628211)) 4611686018427387904).bind λI=>u I (Au (q+1))) (some (Au v2)))
def aVC (j:AV):Int->Int->AL Int:=aQ (aFP j) Am
def aBW (j:Int)(q:AV):AL Int:=(Xm (IntKind.u64.wrap j) 4611686018427387904).bind λu=>aVC q u 0
def aZa :=DW func195 rfl aBW AX Ik AX λI j r h=>AZ<|AO h λz q h=>AP 2<|.Z (aK6 (k:=.u64) q)<|Aa<|AZ<|Aj<|DV (λz q=>⟨Az 27 [(1,Ik j),(5,.d ((qX .u64) z)),(6,AX q)],[],0⟩) _ _ _ _ (Ae []) h<|λz q J L M h=>Aa<|AP 2<|.Z (BJ Dl j)<|Bo h (λh=>Aa<|Aj<|Bv h λz q M O h=>CU<|.a 3<|.p (BD Dl q)<|.a 2<|.p (aVs (k:=.u64) (u:=L) (v:=(IntKind.u64.wrap z)))<|.a 1<|.p (aK6 (k:=.u64) O)<|.aN<|Cx<|J _ _ _ (Ae []) h) λh=>El
def yY (j:AV):AL Int:=(aI9).bind λq=>(aBW q j).bind λu=>some u
def aWF :=Dc func119 rfl yY Ik AX λj r h=>AZ<|Bv h λq u I z h=>BM<|.ca (aYM  q u)<|.a 1<|.X (aZa z)<|CY
def a8S (j:AQ):AL Int:=(oL j.Content).bind λq=>(yY q).bind λu=>some u
def ail :=Dc func193 rfl a8S DL AX λj r h=>AZ<|Bv h λz q I u h=>AP 2<|.ca (aW2 q).view<|.X (aWF u)<|CY
def Rz (j:AQ):AL AY:=(a8S j).bind λq=>some (q==j.Hash)
def X4 :=Dc func115 rfl Rz DL Ag λj r h=>AZ<|AO h λu q h=>F6 A8 A8 A8 (.a 1<|.ca (ail q)<|.a 4<|.nil _)<|CY
def a0g (j:AY):AL AY:=some j
def a7W (j:AQ)(q:AQ):AL AY:=(Y5 j).bind λz=>(Y5 q).bind λI=>(Vt z I).bind λJ=>(cond (!J) (a0g true) ((Rz j).bind λL=>(cond L ((Rz q).bind λM=>(cond M ((Vt j q).bind λu=>a0g (!u)) (a0g false))) (a0g false))))
def aZ6 :=DW func42 rfl a7W DL DL Ag λY Z r h=>AZ<|Cm (λs=>∃(M:AY),CO s ⟨Az 25 [(4,Ag M)],[],0⟩/\a0g M=some r) (by rintro s ⟨M,hs,h⟩;exact D6 hs<|CY)<|λz=>Hq h λx2 I x4 J x6 L h=>EX h (λj h=>DN A8 A8 A8 (.a 1<|.ca (Vp I)<|.a 1<|.ca (Vp J)<|.ca (qo L)<|.a 1<|.c (BF some j)<|.a 14<|.nil _)<|z _ ⟨true,Ae [],h⟩) λj h=>AO h λx7 q h=>by cases x7 with |true=>exact(have h:=Ru rfl h;AO h λx9 u h=>by cases x9 with |true=>exact(have h:=Ru rfl h;AO h λO U h=>DN A8 A8 A8 (.a 1<|.ca (Vp I)<|.a 1<|.ca (Vp J)<|.ca (qo L)<|.a 1<|.c (BF some j)<|.a 1<|.ca (X4 q)<|.a 2<|.ca (X4 u)<|.a 4<|.ca (qo U)<|.a 4<|.nil _)<|z _ ⟨(!O),Ae [],h⟩)|false=>exact(have h:=Rl rfl h;DN A8 A8 A8 (.a 1<|.ca (Vp I)<|.a 1<|.ca (Vp J)<|.ca (qo L)<|.a 1<|.c (BF some j)<|.a 1<|.ca (X4 q)<|.a 2<|.ca (X4 u)<|.a 9<|.nil _)<|z _ ⟨false,Ae [],h⟩))|false=>exact(have h:=Rl rfl h;DN A8 A8 A8 (.a 1<|.ca (Vp I)<|.a 1<|.ca (Vp J)<|.ca (qo L)<|.a 1<|.c (BF some j)<|.a 1<|.ca (X4 q)<|.a 12<|.nil _)<|z _ ⟨false,Ae [],h⟩)
def wX (j:AV):AL AV:=(D5 8 [] j).bind λq=>some q
def aNA {nJ r}(h:wX nJ=some r):E8 183 [Bf nJ] [] (.aS 0) [(Cb r)]:=by
 refine Ec func183 rfl ?_;unfold wX at h;refine BM<|.f (CV 3 1)<|.aY<|Aa<|ou (x:=.tmp 3) (t':=27) (d:=4) (es:=List.map Ad nJ) 1 rfl (.a 1<|.nil _) A8 A8 A8 Jc A8 ?_;intro b j;cases b
 ·clear j;refine Nu A8<|F9 ?_;obtain⟨u,q,h⟩:=Du h;refine BM<|.f (Ht Dy zero3 [])<|.a 1<|.f (Dk (k:=1) Ad q Dy A8 (λ_=>rfl) Bl)<|.aM 1 ?_;rw[←CM h];exact .ret (Ez [AU 2])
 replace j:=sJ j;replace h:some []=some r:=s0
 refine OG A8<|BM<|.f (CV 3 1)<|.aY ?_;rw[←CM h];exact .ret (Ez [AU 1])
def Un (j:AV):AL AV:=(wX j).bind λq=>(PS q).bind λu=>(Xa u).bind λz=>some z
def Ye :=LX func125 rfl Un Bf Cb λj r h=>BM<|.f (CV 3 1)<|.aY<|AO h λu q h=>AP 1<|.Y (x:=.aS 1) (Jt [Bf j] (aNA q))<|AO h λq z h=>AP 1<|.f (x:=.eP []) (EK [.ent 1] [.aS 1] (uK u q z))<|.aY<|AO h λu z h=>AP 1<|.Y (x:=.aS 2) (EK [.ent 1] [.aS 1] (aCm q u z))<|MJ
def cmp_isNaN_int (j:Int):AL AY:=some (j != j)
def aVj :=Dc func268 rfl cmp_isNaN_int AX Ag λj r h=>dF
def cmp_Less_int (j:Int)(q:Int):AL AY:=(cmp_isNaN_int j).bind λu=>(cond u ((cmp_isNaN_int q).bind λz=>some (!z)) (some false)).bind λI=>(cond I (some true) (some (decide (j<q)))).bind λJ=>some J
def ahJ :=DW func199 rfl cmp_Less_int AX AX Ag λu z r h=>AZ<|AO h λq j h=>AP 1<|.ca (aVj j)<|.a 1<|AO h λq j h=>.mg 8 3 (Ag q) (DC j (λe i=>by subst e;have h:=i;exact AO h λq j h=>.a 1<|.X (aVj j)<|Cc))<|.a 1<|AO h λq j h=>.mg 13 3 (Ag q) (DC j)<|.aW<|CY
def a4d (j:Int):AL AY:=some (j != j)
def aSo :=Dc func200 rfl a4d AX Ag λj r h=>dF
def aTO (q:AV)(j:Int)(k3:(Int->Int->AL (Int×AY))):Int->Int->AL (Int×AY):=λu v2=>(bif u<v2 then(Qc .shr .u64 (IntKind.u64.wrap (Au (u+v2))) 1).bind λz=>(Ak q (Au z)).bind λY=>(cmp_Less_int Y j).bind λZ=>(cond Z (k3 (Au ((Au z)+1)) v2) (k3 u (Au z)))else(cond (u<(q.length:Int)) ((Ak q u).bind λI=>(cond (I==j) (some true) ((Ak q u).bind λJ=>(a4d J).bind λL=>(cond L ((a4d j).bind λM=>some M) (some false)).bind λO=>some O)).bind λU=>some U) (some false)).bind λx9=>some (u,x9))
def aSU (q:AV)(j:Int):Int->Int->AL (Int×AY):=aQ (aTO q j) Am
def a6O (q:AV)(j:Int):AL (Int×AY):=aSU q j 0 (q.length:Int)
def amx :=DW func126 rfl a6O Bf AX (λr=>.eP [AX r.1,Ag r.2]) λz q r h=>AZ<|AP 1<|.Z (BJ Ad z)<|AZ<|Aa<|Aj<|DV (λu j=>⟨Az 54 [(0,Bf z),(1,AX q),(6,AX (z.length:Int)),(7,AX u),(8,AX j)],[],0⟩) _ _ _ _ (Ae []) h<|λu j I J L h=>Aa<|AZ<|Bo h (λh=>Aj<|AO h λu j h=>AP 4<|.Z (aVo (k:=.u64) (k':=.u64) j)<|Bv h λu j J L h=>AP 2<|.p (BD Ad j)<|.a 2<|.ca (ahJ L)<|.aY<|Df h (λh=>a1J) λh=>a1J) λh=>CZ<|AP 4<|AO h λu j h=>.mg 35 18 (Ag u) (.bi j (λh=>AO h λu j h=>.a 2<|.p (BD Ad j)<|.a 3<|AO h λu j h=>.mg 42 10 (Ag u) (.bi j (k2:=λh=>Bv h λu j I J h=>.a 2<|.p (BD Ad j)<|.a 1<|.ca (aSo J)<|.a 1<|AO h λu j h=>.mg 49 2 (Ag u) (DC j (λe i=>by subst e;have h:=i;exact AO h λu j h=>.a 1<|.X (aSo j)<|Cc))<|.aW<|Cc))<|.aW<|Cc))<|.aW<|CY
def a3g (j:(AV->Int->AL AV))(q:Int)(u:AV):AL AV:=j u (Au (q+1))
def aGA (I:AV)(M:AV)(J:(AV->Int->AL AV)):AV->Int->AL AV:=λq j=>(cond (j<(I.length:Int)) ((Ak I j).bind λL=>(a6O M L).bind λu=>(cond (!u.2) ((D5 8 q [L]).bind λz=>a3g J j z) (a3g J j q))) (some q))
def aRk (j:AV)(q:AV):AV->Int->AL AV:=aQ (aGA j q) Am
def aA4 (j:AV)(q:AV):AL AV:=(Un q).bind λu=>(Un j).bind λz=>aRk z u [] 0
def abD :=Gj func51 rfl aA4 Bf Bf Cb λL M r h=>BM<|.f (CV 3 1)<|.aY<|AO h λz j h=>AP 1<|.X (Ye j).view<|BM<|.f (CV 3 1)<|.aY<|Aa<|AO h λj u h=>AP 1<|.ca (Ye u).view<|.Z (BJ Ad j)<|Aj<|DV (λu q=>⟨Az 34 [(5,Bf z),(6,.aS 0),(14,Bf j),(15,AX (j.length:Int)),(16,AX q)],[(Cb u)],0⟩) _ _ _ _ (Ae [AU 1]) h<|λu q I U O h=>AZ<|Aa<|Bo h (λh=>Cm (λs=>∃(J:(AA Int)),CO s ⟨Az 34 [(5,Bf z),(6,.aS 0),(14,Bf j),(15,AX (j.length:Int)),(16,AX O)],[(Cb J)],0⟩/\a3g q O J=some r) (by rintro s ⟨J,hs,h⟩;exact D6 hs<|Tj)<|λj=>Aj<|AO h λu q h=>BM<|.Z (BD Ad q)<|AO h λq I h=>AP 2<|.X (amx I)<|AZ<|BA h (λh=>AO h λz q h=>CU<|.a 2<|.p (EG Dy zero3 [Ad u])<|.f (Dk (k:=0) Ad q Dy A8 (λ_=>rfl) Bl)<|.aN<|j _ ⟨z,Ae [AU 1],h⟩) λh=>j _ ⟨U,Ae [AU 0],h⟩) λh=>JC
def aVE (j:AV)(q:AV):AL AV:=(wX j).bind λu=>(D5 8 u q).bind λz=>(Un z).bind λI=>some I
def aY4 :=Gj func107 rfl aVE Bf Bf Cb λj q r h=>BM<|.f (CV 3 1)<|.aY<|Hq h λL z u I M J h=>AP 1<|.f (x:=.aS 1) (Jt [Bf j] (aNA z))<|.a 1<|.f (Dk (k:=1) Ad I Dy A8 (λ_=>rfl) Bl)<|.conv _ (JI (e:=3) (s:=1) 2 (xs:=List.map Ad u) A8)<|.Y (x:=.aS 3) (Jt [Bf u] (Ye J))<|iP
def Yh (j:AV)(q:Int):AL AV:=(Jg 1 0 (j.length:Int) (Au ((j.length:Int)+q))).bind λu=>some (gCopy u j)
def yD :=Gj func121 rfl Yh Ik AX J4 λj q r h=>BM<|.f (CV 5 1)<|.aY<|AO h λu z h=>AP 1<|.p (BJ Dl j)<|.a 1<|.p (BJ Dl j)<|.a 2<|.Y (ZV Dl 0 z Jz SI A8 A8 A8 Bl)<|AP 2<|.f (ahY (k:=1) Dl u j Jz A8 (λ_=>rfl))<|.aY<|AZ<|Jm
def XT (u:(AV->Int->AL AV)):AV->Int->AL AV:=λq j=>(cond (j>=128) ((D5 1 q [FD .or .u8 (IntKind.u8.wrap j) 128]).bind λz=>(Qc .shr .u64 j 7).bind λI=>u z I) ((D5 1 q [IntKind.u8.wrap j]).bind λJ=>some J))
def aS4  :AV->Int->AL AV:=aQ (XT) Am
def a2q (j:AV)(v2:Int):AL AV:=aS4 j v2
def aV (j:AV)(q:Int):AL AV:=(Qc .shl .u64 (IntKind.u64.wrap q) 1).bind λu=>(cond (q<0) (a2q j (fA .u64 u)) (a2q j u))
def a0M {WQ FZ r}(h:aV WQ FZ=some r):E8 122 [.aS 0,AX FZ] [(J4 WQ)] (.aS 1) [.dead,(J4 r)]:=Ec func122 rfl<|BM<|.f (CV 5 1)<|.aY<|AO h λq j h=>AP 2<|.Z (a7K (k:=.u64) (k':=.u64) j)<|Cm (λs=>∃(v2:Int),CO s ⟨Az 28 [(0,.aS 1),(5,.d ((qX .u64) v2))],[.dead,(J4 WQ)],1⟩/\a2q WQ v2=some r) (by rintro s ⟨v2,hs,h⟩;exact D6 hs<|Aa<|Aj<|DV (λq j=>⟨Az 28 [(0,.aS 1),(5,.d ((qX .u64) j))],[.dead,(J4 q)],1⟩) _ _ _ _ (Ae [(0,false),AU 1]) h<|λq j I J z h=>Aa<|AZ<|Bo h (λh=>Aj<|AO h λq j h=>AP 3<|.p (XR (k:=.u8) (u:=(IntKind.u8.wrap z)) (v:=128))<|.p (EG Jz SI [Dl (FD .or .u8 (IntKind.u8.wrap z) 128)])<|.Y (Dk (k:=1) Dl j Jz A8 (λ_=>rfl) Bl)<|AO h λq j h=>CU<|.a 1<|.p (aVo (k:=.u64) (k':=.u64) j)<|.aN<|I _ _ _ (Ae [(0,false),AU 2]) h) λh=>CZ<|AO h λq j h=>AP 3<|.p (EG Jz SI [Dl (IntKind.u8.wrap z)])<|.Y (Dk (k:=1) Dl j Jz A8 (λ_=>rfl) Bl)<|by cases h;exact .ret (Ez [(0,false),AU 2]))<|λj=>AZ<|BA h (λh=>CU<|.a 1<|.p (aUz (k:=.u64) (u:=q))<|.aN<|j _ ⟨(fA .u64 q),Ae [(0,false),AU 0],h⟩) λh=>j _ ⟨q,Ae [(0,false),AU 0],h⟩
def a00 (q:AV)(j:BL):AL AV:=(aV q (j.size:Int)).bind λu=>(D5 1 u (DI j)).bind λz=>some z
def aNZ {WQ sN r}(h:a00 WQ sN=some r):E8 120 [.aS 0,D8 sN] [(J4 WQ)] (.aS 1) [.dead,(J4 r)]:=Ec func120 rfl<|BM<|.f (CV 5 1)<|.aY<|Bv h λu j z q h=>AP 3<|.f (x:=.aS 2) (EK [.ent 0] [.aS 0,AX (sN.size:Int)] (a0M j))<|.a 1<|.Y (abS (k:=2) q Jz SI I4 A8)<|by cases h;exact .ret (Ez [(0,false),AU 3])
def UM (q:AV)(j:BL):AL AV:=(Yh q (Au ((j.size:Int)+10))).bind λu=>(a00 u j).bind λz=>some z
def a7b :=Gj func47 rfl UM Ik D8 J4 λq j r h=>BM<|.f (CV 5 1)<|.aY<|Bv h λI u J z h=>AP 4<|.f (x:=.aS 1) (Jt [Ik q,AX (Au ((j.size:Int)+10))] (yD u))<|.a 1<|.Y (x:=.aS 2) (EK [.ent 1] [.aS 1,D8 j] (aNZ z))<|MJ
def Oq (j:AV)(q:Int):AL AV:=(Yh j 10).bind λu=>(aV u q).bind λz=>some z
def YI :=Gj func48 rfl Oq Ik AX J4 λj q r h=>BM<|.f (CV 5 1)<|.aY<|Bv h λI u J z h=>AP 1<|.f (x:=.aS 1) (Jt [Ik j,AX 10] (yD u))<|.a 1<|.Y (x:=.aS 2) (EK [.ent 1] [.aS 1,AX q] (a0M z))<|MJ
def Vb (j:Bj)(q:Int)(k3:(Int->F5->AL (F5×AY))):Int->F5->AL (F5×AY):=λu v2=>(cond (u<(j.Rows.length:Int)) ((Ak j.Rows u).bind λz=>(cond (z.Id==q) (some (z,true)) (k3 (Au (u+1)) v2))) (some (LG,false)))
def aUC (q:Bj)(j:Int):Int->F5->AL (F5×AY):=aQ (Vb q j) Am
def Yc (q:Bj)(j:Int):AL (F5×AY):=aUC q j 0 LG
def aBx :=DW func32 rfl Yc Fb AX (λr=>.eP [Zx r.1,Ag r.2]) λj q r h=>AZ<|Aa<|AP 2<|.Z (BJ En j.Rows)<|Aj<|DV (λu z=>⟨Az 22 [(1,AX q),(4,.ptr 0 0),(9,WU j.Rows),(10,AX (j.Rows.length:Int)),(11,AX u)],[.box (Ar (En z))],0⟩) _ _ _ _ (Ae [AU 1]) h<|λu z J L M h=>AZ<|Aa<|Bo h (λh=>Aa<|Aj<|AO h λu z h=>BM<|.Z (BD En z)<|AZ<|BA h (λh=>AZ<|Eb<|by rw[←CM h];exact⟨[Zx u,Ag true],[],⟨⟨0,Ar (En u),true,4,A8,A8,A8,wK,DT A8,Ls,A8⟩,FU A8,trivial⟩,A8,A8,A8⟩) λh=>qK) λh=>CZ<|AZ<|Eb<|by rw[←CM h];exact⟨[Zx LG,Ag false],[],⟨⟨0,Ar (En LG),true,4,A8,A8,A8,wK,DT A8,Ls,A8⟩,FU A8,trivial⟩,A8,A8,A8⟩
def aGw  :AL Int:=some 860922984064492325
def ahK r(h:aGw=some r):E8 124 [] [] (AX r) []:=Ec func124 rfl<|dF
def aBH (j:AV)(k3:(Int->Int->AL Int)):Int->Int->AL Int:=λq v2=>(cond (v2<(j.length:Int)) ((Ak j v2).bind λu=>k3 (FD .and .u64 (IntKind.u64.wrap ((FD .xor .u64 q (IntKind.u64.wrap u))*1099511628211)) 4611686018427387903) (Au (v2+1))) (some (Au q)))
def aWb (j:AV):Int->Int->AL Int:=aQ (aBH j) Am
def aFi (j:Int)(q:AV):AL Int:=aWb q (FD .and .u64 (IntKind.u64.wrap j) 4611686018427387903) 0
def aax :=DW func123 rfl aFi AX Ik AX λq j r h=>AZ<|AP 2<|.Z (Sz (k:=.u64) (u:=(IntKind.u64.wrap q)) (v:=4611686018427387903))<|Aa<|AP 1<|.Z (BJ Dl j)<|Aj<|DV (λz I=>⟨Az 26 [(5,.d ((qX .u64) z)),(11,Ik j),(12,AX (j.length:Int)),(13,AX I)],[],0⟩) _ _ _ _ (Ae []) h<|λz I L J M h=>AZ<|Aa<|Bo h (λh=>Aa<|Aj<|AO h λz I h=>BM<|.Z (BD Dl I)<|CU<|.a 3<|.p (aVs (k:=.u64) (u:=J) (v:=(IntKind.u64.wrap z)))<|.a 1<|.p (Sz (k:=.u64) (u:=(IntKind.u64.wrap ((FD .xor .u64 J (IntKind.u64.wrap z))*1099511628211))) (v:=4611686018427387903))<|.aN<|Cx<|L _ _ _ (Ae []) h) λh=>El
def ug (j:AV):AL Int:=(aGw).bind λq=>(aFi q j).bind λu=>some u
def aQ4 :=Dc func50 rfl ug Ik AX λj r h=>AZ<|Bv h λq u I z h=>BM<|.ca (ahK  q u)<|.a 1<|.X (aax z)<|CY
def VL (j:Bj)(q:Int)(k3:(Int->F5->AL (F5×AY))):Int->F5->AL (F5×AY):=λu v2=>(cond (u<(j.Rows.length:Int)) ((Ak j.Rows u).bind λz=>(cond (z.Id==q) ((Ak j.Rows u).bind λI=>some (I,true)) (k3 (Au (u+1)) v2))) (some (LG,false)))
def aSd (q:Bj)(j:Int):Int->F5->AL (F5×AY):=aQ (VL q j) Am
def YK (q:Bj)(j:Int):AL (F5×AY):=aSd q j 0 LG
def a7V :=DW func33 rfl YK Fb AX (λr=>.eP [Zx r.1,Ag r.2]) λj q r h=>AZ<|Aa<|AZ<|Aj<|DV (λu z=>⟨Az 28 [(1,AX q),(2,.ptr 0 0),(4,.ptr 1 0),(6,AX u)],[.box (Ar (CJ j)),.box (Ar (En z))],0⟩) _ _ _ _ (Ae [AU 0,AU 1]) h<|λu z J L M h=>Aa<|AP 3<|.Z (BJ En j.Rows)<|Bo h (λh=>Aa<|Aj<|AO h λu z h=>AP 3<|.Z (BD En z)<|BA h (λh=>AO h λu z h=>AP 3<|.Z (BD En z)<|Eb<|by rw[←CM h];exact⟨[Zx u,Ag true],[],⟨⟨1,Ar (En u),true,4,A8,A8,A8,wK,DT A8,Ls,A8⟩,FU A8,trivial⟩,A8,A8,A8⟩) λh=>zS) λh=>CZ<|AZ<|Eb<|by rw[←CM h];exact⟨[Zx LG,Ag false],[],⟨⟨1,Ar (En LG),true,4,A8,A8,A8,wK,DT A8,Ls,A8⟩,FU A8,trivial⟩,A8,A8,A8⟩
def aKu (j:BL)(q:BL):AL (BL×BL×AY):=(a6y j q).bind λu=>(cond (u>=0) ((Oi j 0 u).bind λz=>(Oi j (Au (u+(q.size:Int))) ((j).size)).bind λI=>some (z,I,true)) (some (j,CX,false)))
def afk :=DW func274 rfl aKu D8 D8 (λr=>.eP [D8 r.1,D8 r.2.1,Ag r.2.2]) λq j r h=>AZ<|Aa<|AO h λJ u h=>AP 2<|.X (aey q j J u)<|AZ<|BA h (λh=>Bv h λJ u L z h=>F6 A8 A8 A8 (.a 2<|.p (qM u (λ_=>rfl) Ls I4 rfl)<|.a 5<|.p (qM z Ls (λ_=>rfl) I4 rfl)<|.a 3<|.nil _)<|CY) λh=>AZ<|CY
def strings_Cut (q:BL)(j:BL):AL (BL×BL×AY):=(aKu q j).bind λu=>some (u.1,u.2.1,u.2.2)
def agp :=DW func204 rfl strings_Cut D8 D8 (λr=>.eP [D8 r.1,D8 r.2.1,Ag r.2.2]) λq j r h=>AZ<|AO h λz u h=>AP 2<|.X (afk u)<|CY
def Fin (j:Int):AL AY:=(cond (j==95) (some true) (some (j==46))).bind λq=>(cond q (some true) (some (j==45))).bind λu=>(cond u (some true) (some (j==61))).bind λz=>some z
def aiN :=Dc func272 rfl Fin (λj=>.d (Dl j)) Ag λj r h=>AZ<|AP 2<|AO h λq u h=>.mg 5 3 (Ag q) (.bi u)<|.a 1<|AO h λq u h=>.mg 10 2 (Ag q) (DC u)<|.a 1<|AO h λq u h=>.mg 14 2 (Ag q) (DC u)<|.aW<|CY
def rF (j:Int):AL AY:=(cond (j>=97) (some (decide (j<=122))) (some false)).bind λq=>(cond q (some true) ((cond (j>=48) (some (decide (j<=57))) (some false)).bind λu=>some u)).bind λz=>some z
def aKS :=Dc func271 rfl rF (λj=>.d (Dl j)) Ag λj r h=>AZ<|AP 2<|AO h λq u h=>.mg 5 3 (Ag q) (.bi u)<|.a 1<|AO h λq u h=>.mg 10 6 (Ag q) (DC u (k2:=λe i=>aP1))<|.aW<|CY
def aGn (q:BL)(j:(Int->AL AY))(J:(Int->AL AY)):Int->AL AY:=λu=>(cond (u<(q.size:Int)) ((Ic q u).bind λL=>(rF L).bind λM=>(cond (!M) ((Ic q u).bind λz=>(j z).bind λI=>some (!I)) (some false)).bind λO=>(cond O (some false) (J (Au (u+1))))) (some true))
def aFc (q:BL)(j:(Int->AL AY)):Int->AL AY:=bn (aGn q j) Am
def jy (q:BL)(j:(Int->AL AY)):AL AY:=(cond ((q.size:Int)<1) (some true) (some (decide ((q.size:Int)>32)))).bind λu=>(cond u (some false) (aFc q j 0))
def aPb z q j(u:U0 Aq Dl E9 j q)r(h:jy z q=some r):E8 269 [D8 z,.d j] [] (Ag r) []:=Ec func269 rfl<|AZ<|Aa<|AP 3<|AO h λI J h=>.mg 9 4 (Ag I) (.bi J)<|.aY<|BA h CB λh=>Aa<|AZ<|Aj<|Dp (λI=>⟨Az 33 [(0,D8 z),(1,.d j),(15,AX (z.size:Int)),(16,AX I)],[],0⟩) _ _ _ (Ae []) h<|λI J M L h=>AZ<|Aa<|Bo h (λh=>Aa<|Aj<|AZ<|Bv h λI J L O h=>AP 2<|.p (Lp (k:=.i64) J I4)<|.ca (aKS O)<|.a 1<|AO h λI J h=>.mg 24 7 (Ag I) (.bi J (λh=>Bv h λI J M L h=>.a 3<|.p (Lp (k:=.i64) J I4)<|.Z (vC (d:=j) (u:U0 Aq Dl E9 j q) L)<|Cc))<|.aY<|BA h CB λh=>Cx<|M _ _ (Ae []) h) λh=>El
def aAe (j:BL):AL AY:=(jy j (λa0=>Fin a0)).bind λq=>some q
def aea :=Dc func202 rfl aAe D8 Ag λj r h=>AZ<|AO h λq u h=>AP 1<|.X (aPb j (λq=>Fin q) (.fn (.func 272) [] []) ⟨272,[],rfl,aeS,λq u z=>aiN z⟩ q u)<|CY
def a0L (j:Int):AL AY:=(cond (j==46) (some true) (some (j==45))).bind λq=>some q
def aXn :=Dc func270 rfl a0L (λj=>.d (Dl j)) Ag λj r h=>AZ<|AP 2<|AO h λq u h=>.mg 5 3 (Ag q) (.bi u)<|.aW<|CY
def a8Z (j:BL):AL AY:=(jy j (λa0=>a0L a0)).bind λq=>(cond q ((Ic j 0).bind λu=>(rF u).bind λz=>some z) (some false)).bind λI=>(cond I ((Ic j (Au ((j.size:Int)-1))).bind λJ=>(rF J).bind λL=>some L) (some false)).bind λM=>some M
def alF :=Dc func201 rfl a8Z D8 Ag λu r h=>AZ<|AO h λj q h=>AP 1<|.ca (aPb u (λj=>a0L j) (.fn (.func 270) [] []) ⟨270,[],rfl,ahO,λj q z=>aXn z⟩ j q)<|.a 1<|AO h λj q h=>.mg 6 3 (Ag j) (DC q (λe i=>by subst e;have h:=i;exact Bv h λj q z I h=>.a 1<|.p (Lp (k:=.i64) q I4)<|.X (aKS I)<|Cc))<|.a 1<|AO h λj q h=>.mg 11 6 (Ag j) (DC q (λe i=>by subst e;have h:=i;exact Bv h λj q z I h=>.a 4<|.p (Lp (k:=.i64) q I4)<|.X (aKS I)<|Cc))<|.aW<|CY
def qO (j:BL)(q:BL):AL (BL×BL×AY):=(cond (j.toList==CX.toList) (some true) ((Ic j 0).bind λL=>(strings_IndexByte q L).bind λM=>some (decide (M<0)))).bind λO=>(cond O (some (CX,CX,false)) ((Oi j 1 ((j).size)).bind λU=>(strings_Cut U Mid).bind λu=>(cond (!u.2.2) (some true) ((aAe u.1).bind λz=>some (!z))).bind λY=>(cond Y (some true) ((a8Z u.2.1).bind λI=>some (!I))).bind λJ=>(cond J (some (CX,CX,false)) (some (u.1,u.2.1,true)))))
def aLC :=DW func130 rfl qO D8 D8 (λr=>.eP [D8 r.1,D8 r.2.1,Ag r.2.2]) λz j r h=>AZ<|Aa<|AP 2<|AO h λu q h=>.mg 12 6 (Ag u) (.bi q (k2:=λh=>Bv h λu q J I h=>.a 2<|.p (Lp (k:=.i64) q I4)<|.X (an8 j u J I)<|Cc))<|.aY<|BA h CB λh=>Bv h λu q J I h=>AP 1<|.p (qM q a2X (λ_=>rfl) I4 rfl)<|.X (agp I)<|Aa<|AP 2<|AO h λu q h=>.mg 28 4 (Ag u) (.bi q (k2:=λh=>AO h λu q h=>.a 1<|.X (aea q)<|Cc))<|.a 1<|AO h λu q h=>.mg 34 3 (Ag u) (DC q (k2:=λe i=>by subst e;have h:=i;exact AO h λu q h=>.a 1<|.X (alF q)<|Cc))<|.aY<|JW
def uM (q:BL)(j:BL):AL Int:=(qO q j).bind λu=>(cond (!u.2.2) (some 3) (some 0))
def aPU :=DW func166 rfl uM D8 D8 AX λq j r h=>AZ<|Aa<|AO h λz u h=>AP 2<|.X (aLC u)<|AZ<|JW
def gJ (j:BL):AL Int:=(uM j a3a).bind λq=>some q
def aAp :=Dc func89 rfl gJ D8 AX λj r h=>AZ<|AO h λu q h=>AP 1<|.X (aPU q)<|CY
def aVG (j:BL):AL (Bj×Int):=(gJ j).bind λq=>(cond (q != 0) (some (Jl,3)) (some ({ Jl with Id:=j },0)))
def agl :=Dc func30 rfl aVG D8 (λr=>.eP [Fb r.1,AX r.2]) λj r h=>AZ<|Aa<|AO h λz u h=>AP 1<|.X (aAp u)<|BA h (λh=>AZ<|Eb<|by rw[←CM h];exact⟨[Fb Jl,AX 3],[],⟨⟨0,Ar (CJ Jl),true,9,A8,A8,A8,LH,DT A8,Ul,A8⟩,FU A8,trivial⟩,A8,A8,A8⟩) λh=>AZ<|Eb<|by rw[←CM h];exact⟨[Fb ({ Jl with Id:=j }),AX 0],[],⟨⟨0,Ar (CJ ({ Jl with Id:=j })),true,9,A8,A8,A8,LH,DT A8,Ul,A8⟩,FU A8,trivial⟩,A8,A8,A8⟩
def dM (q:AV)(j:AY):AL AV:=(Yh q 1).bind λu=>(cond j ((D5 1 u [1]).bind λz=>some z) ((D5 1 u [0]).bind λI=>some I))
def aNr :=Gj func214 rfl dM Ik Ag J4 λj u r h=>BM<|.f (CV 5 1)<|.aY<|AO h λz q h=>AP 1<|.Y (x:=.aS 1) (Jt [Ik j,AX 1] (yD q))<|Aa<|AZ<|BA h (λh=>AO h λz q h=>AP 1<|.p (EG Jz SI [Dl 1])<|.Y (Dk (k:=1) Dl q Jz A8 (λ_=>rfl) Bl)<|MJ) λh=>AO h λz q h=>AP 1<|.p (EG Jz SI [Dl 0])<|.Y (Dk (k:=1) Dl q Jz A8 (λ_=>rfl) Bl)<|MJ
def aFk (j:Gq)(u:(AV->Int->AL AV)):AV->Int->AL AV:=λv2 q=>(cond (q<(j.length:Int)) ((Ak j q).bind λz=>(a00 v2 z).bind λI=>u I (Au (q+1))) (some v2))
def aWg (j:Gq):AV->Int->AL AV:=aQ (aFk j) Am
def a3W (q:AV)(j:Gq):AL AV:=(aV q (j.length:Int)).bind λu=>aWg j u 0
def aYy {WQ iV r}(h:a3W WQ iV=some r):E8 277 [.aS 0,Ib iV,.d (.fn (.func 120) [] [])] [(J4 WQ)] (.aS 1) [.dead,(J4 r)]:=Ec func277 rfl<|BM<|.f (CV 5 1)<|.aY<|AO h λq j h=>AP 2<|.p (BJ DX iV)<|.Y (x:=.aS 2) (EK [.ent 0] [.aS 0,AX (iV.length:Int)] (a0M j))<|Aa<|AP 1<|.Z (BJ DX iV)<|Aj<|DV (λq j=>⟨Az 25 [(0,.aS 1),(2,.d (.fn (.func 120) [] [])),(13,Ib iV),(14,AX (iV.length:Int)),(15,AX j)],[.dead,(J4 q)],1⟩) _ _ _ _ (Ae [(0,false),AU 2]) h<|λq j z I u h=>AZ<|Aa<|Bo h (λh=>Aa<|Aj<|AO h λq j h=>BM<|.Z (BD DX j)<|AO h λj u h=>CU<|.a 3<|.f (x:=.aS 2) (aPZ [.ent 1] [] [] [.aS 1,D8 q] (aNZ u))<|aGg) λh=>CZ<|AZ<|sQ
def xE (q:AV)(j:Gq):AL AV:=(Yh q (Au ((Au (8*(j.length:Int)))+10))).bind λu=>(a3W u j).bind λz=>some z
def aQ0 :=Gj func215 rfl xE Ik Ib J4 λq j r h=>BM<|.f (CV 5 1)<|.aY<|Bv h λI u J z h=>AP 2<|.p (BJ DX j)<|.a 2<|.f (x:=.aS 1) (Jt [Ik q,AX (Au ((Au (8*(j.length:Int)))+10))] (yD u))<|.a 1<|.Y (x:=.aS 2) (EK [.ent 1] [.aS 1,Ib j,.d (.fn (.func 120) [] [])] (aYy z))<|MJ
def aG7 (j:D9)(z:(AV->Int->AL AV)):AV->Int->AL AV:=λu q=>(cond (q<7) ((Ak ([j.Levels.User,j.Levels.Message,j.Levels.State,j.Levels.gY,j.Levels.lg,j.Levels.oV,j.Levels.iq]:AV) q).bind λI=>(Oq u I).bind λJ=>z J (Au (q+1))) (some u))
def aHI (j:D9):AV->Int->AL AV:=aQ (aG7 j) Am
def a2p (j:D9)(I:(AV->Int->AL AV)):AV->Int->AL AV:=λu q=>(cond (q<(j.Levels.Kinds.length:Int)) ((Ak j.Levels.Kinds q).bind λz=>(Oq u z.Kind).bind λJ=>(Oq J z.N).bind λL=>I L (Au (q+1))) (aHI j u 0))
def aDv (j:D9):AV->Int->AL AV:=aQ (a2p j) Am
def a4I (j:D9)(z:(AV->Int->AL AV)):AV->Int->AL AV:=λM q=>(bif q<(j.Levels.Users.length:Int) then(Ak j.Levels.Users q).bind λu=>(UM M u.User).bind λI=>(Oq I u.N).bind λJ=>z J (Au (q+1))else(Oq M (j.Levels.Kinds.length:Int)).bind λL=>aDv j L 0)
def aNW (j:D9):AV->Int->AL AV:=aQ (a4I j) Am
def qI (j:D9):AL AV:=(UM [] j.Text).bind λq=>(Oq q j.N).bind λu=>(Oq u j.Target).bind λz=>(dM z j.Thread).bind λI=>(UM I j.Via).bind λJ=>(xE J j.Allow).bind λL=>(xE L j.iD).bind λM=>(Oq M (j.Levels.Users.length:Int)).bind λO=>aNW j O 0
def aKy :=Dc func134 rfl qI IW Ik λj r h=>AZ<|AO h λz q h=>AP 2<|.Z (x:=(Ik z)) (aRi [.d (.lit (.slice none 0 0)),D8 j.Text] (a7b q).view)<|AO h λq u h=>AP 3<|.X (YI u).view<|AO h λz u h=>AP 3<|.X (YI u).view<|AO h λq u h=>AP 3<|.X (aNr u).view<|AO h λz u h=>AP 3<|.X (a7b u).view<|AO h λq u h=>AP 3<|.X (aQ0 u).view<|AO h λz u h=>AP 3<|.X (aQ0 u).view<|AZ<|AO h λq u h=>AP 3<|.p (BJ FH j.Levels.Users)<|.X (YI u).view<|Aa<|AP 2<|.Z (BJ FH j.Levels.Users)<|Aj<|DV (λz q=>⟨Az 103 [(3,Ik z),(4,.ptr 0 0),(46,Q5 j.Levels.Users),(47,AX (j.Levels.Users.length:Int)),(48,AX q)],[.box (Ar (FV j.Levels))],0⟩) _ _ _ _ (Ae [AU 1]) h<|λz q u L I h=>AZ<|Aa<|Bo h (λh=>Aa<|Aj<|AO h λz q h=>BM<|.Z (BD FH q)<|Bv h λq I M J h=>DN A8 A8 A8 (.a 3<|.ca (a7b I).view<|.a 2<|.ca (YI J).view<|.a 1<|.nil _)<|a0c) λh=>CZ<|AO h λz q h=>AP 3<|.p (BJ FI j.Levels.Kinds)<|.X (YI q).view<|Aa<|AP 2<|.Z (BJ FI j.Levels.Kinds)<|Aj<|DV (λz q=>⟨Az 103 [(3,Ik z),(4,.ptr 0 0),(66,Pg j.Levels.Kinds),(67,AX (j.Levels.Kinds.length:Int)),(68,AX q)],[.box (Ar (FV j.Levels))],0⟩) _ _ _ _ (Ae [AU 0]) h<|λz q u L I h=>AZ<|Aa<|Bo h (λh=>Aa<|Aj<|AO h λz q h=>BM<|.Z (BD FI q)<|Bv h λq I M J h=>DN A8 A8 A8 (.a 3<|.ca (YI I).view<|.a 2<|.ca (YI J).view<|.a 1<|.nil _)<|a0c) λh=>CZ<|Aa<|AZ<|Aj<|DV (λz q=>⟨Az 103 [(3,Ik z),(94,.d ((OT Ad) ([j.Levels.User,j.Levels.Message,j.Levels.State,j.Levels.gY,j.Levels.lg,j.Levels.oV,j.Levels.iq]:(AA Int)))),(95,AX q)],[],0⟩) _ _ _ _ (Ae []) h<|λz q u L I h=>AZ<|Aa<|Bo h (λh=>Aa<|Aj<|AO h λz q h=>BM<|.Z (aAI (k:=.i64) Ad q aAL Ey A8)<|AO h λq I h=>CU<|.a 2<|.ca (YI I).view<|.aN<|Cx<|u _ _ _ (Ae []) h) λh=>El
def wL (j:AQ):AL Int:=(qI j.Content).bind λq=>(ug q).bind λu=>some u
def aPg :=Dc func60 rfl wL DL AX λj r h=>AZ<|Bv h λz q I u h=>AP 2<|.ca (aKy q)<|.X (aQ4 u)<|CY
def Td (j:AQ):AL AY:=(wL j).bind λq=>some (q==j.Hash)
def yP :=Dc func137 rfl Td DL Ag λj r h=>AZ<|AO h λu q h=>F6 A8 A8 A8 (.a 1<|.ca (aPg q)<|.a 4<|.nil _)<|CY
def Tf (j:Gq):AL Gq:=(D5 16 [] j).bind λq=>some q
def a8v :=LX func238 rfl Tf Ib Wv λj r h=>BM<|.f (CV 9 1)<|.aY<|AO h λu q h=>AP 1<|.Y (a8e 9 1 (Dk (k:=_) DX q OM A8 (λ_=>rfl) Bl))<|MJ
def eB (j:Ci):AL Ci:=(D5 24 [] j.Users).bind λq=>(D5 16 [] (({ j with Users:=q }).Kinds)).bind λu=>some ({ { j with Users:=q }with Kinds:=u })
def aOF :=Dc func239 rfl eB Iu Iu λj r h=>AZ<|AO h λu q h=>AP 2<|.f (a8e 146 2 (Dk (k:=_) FH q a0t A8 (λ_=>rfl) Bl))<|.conv _ (JI (e:=146) (s:=2) 3 (xs:=List.map FH u) A8)<|.aW<|AO h λq z h=>AP 2<|.f (a8e 221 2 (Dk (k:=_) FI z aIh A8 (λ_=>rfl) Bl))<|.conv _ (JI (e:=221) (s:=2) 5 (xs:=List.map FI q) A8)<|.aW<|AZ<|Eb<|by rw[←CM h];exact⟨[Iu ({ { j with Users:=u }with Kinds:=q })],[],⟨⟨1,Ar (FV ({ { j with Users:=u }with Kinds:=q })),true,9,A8,A8,A8,Yt,DT A8,Ls,A8⟩,trivial⟩,A8,A8,A8⟩
def zF (j:AY):AL Int:=(cond j (some 5) (some 0))
def xY (j:Int)(q:AY):AL Int:=(cond q (some 2) (cond (j==6) (some 96) (cond (j==7) (some 1) (cond (j==9) (some 3) (cond (j==11) (some 13) (cond (j==12) (zF (j==12)) (cond (j==13) (zF (j==13)) (zF (j==14)))))))))
def su (j:Int):AL Int:=(cond (j==2) (some 19) (cond (j==3) (some 128) (cond (j==4) (some 34) (cond (j==5) (xY j (j==5)) (cond (j==8) (xY j (j==8)) (xY j (j==10)))))))
def aKw :=Dc func291 rfl su AX AX λj r h=>AZ<|Aa<|AZ<|Aj<|AZ<|Df h CB λh=>AZ<|Df h CB λh=>AZ<|Df h CB λh=>Cm (λs=>∃(z:AY),CO s ⟨Az 26 [(3,AX j),(10,Ag z)],[],0⟩/\xY j z=some r) (by rintro s ⟨z,hs,h⟩;exact D6 hs<|Df h CB λh=>AZ<|Df h CB λh=>AZ<|Df h CB λh=>AZ<|Df h CB λh=>AZ<|Df h CB λh=>Cm (λs=>∃(q:AY),CO s ⟨Az 26 [(22,Ag q)],[],0⟩/\zF q=some r) (by rintro s ⟨q,hs,h⟩;exact D6 hs<|JW)<|aQH)<|aW7
def qB (j:Int)(v2:AY):AL Int:=(cond v2 ((su j).bind λq=>some q) (cond (j==14) (some 4) (some 0)))
def pV (j:Int):AL Int:=(cond (j==2) (some 18) (cond (j==3) (qB j (j==3)) (cond (j==4) (qB j (j==4)) (cond (j==5) (qB j (j==5)) (qB j (j==6))))))
def aT0 :=Dc func240 rfl pV AX AX λj r h=>AZ<|Aa<|AZ<|Aj<|AZ<|Df h CB λh=>Cm (λs=>∃(v2:AY),CO s ⟨Az 15 [(0,AX j),(3,AX j),(6,Ag v2)],[],0⟩/\qB j v2=some r) (by rintro s ⟨v2,hs,h⟩;exact D6 hs<|Df h (λh=>AO h λq u h=>AP 1<|.X (aKw u)<|CY) λh=>AZ<|JW)<|λq=>AZ<|Bo h (λh=>q _ ⟨(j==3),Ae [],h⟩) λh=>AZ<|Bo h (λh=>q _ ⟨(j==4),Ae [],h⟩) λh=>AZ<|Bo h (λh=>q _ ⟨(j==5),Ae [],h⟩) λh=>Cx<|q _ ⟨(j==6),Ae [],h⟩
def aJZ (j:D9):AL D9:=some j
def aEW (z:Int)(j:D9)(q:D9):AL D9:=(cond ((FD .and .i64 z 128) != 0) ((eB j.Levels).bind λu=>aJZ ({ q with Levels:=u })) (aJZ q))
def aE4 (q:Int)(j:D9)(z:D9):AL D9:=(cond ((FD .and .i64 q 64) != 0) ((Tf j.iD).bind λu=>aEW q j ({ z with iD:=u })) (aEW q j z))
def aJb (q:Int)(j:D9)(z:D9):AL D9:=(cond ((FD .and .i64 q 32) != 0) ((Tf j.Allow).bind λu=>aE4 q j ({ z with Allow:=u })) (aE4 q j z))
def aFy (q:Int)(j:D9)(u:D9):AL D9:=(cond ((FD .and .i64 q 16) != 0) (aJb q j ({ u with Via:=j.Via })) (aJb q j u))
def aHw (q:Int)(j:D9)(u:D9):AL D9:=(cond ((FD .and .i64 q 4) != 0) (aFy q j ({ u with Target:=j.Target })) (aFy q j u))
def pG (q:Int)(j:D9):AL D9:=(cond (q==1) ((Tf j.Allow).bind λz=>(Tf j.iD).bind λI=>(eB j.Levels).bind λJ=>some ({ { { j with Allow:=z }with iD:=I }with Levels:=J })) ((pV q).bind λu=>(cond ((FD .and .i64 u 2) != 0) (aHw u j ({ Ew with N:=j.N })) (aHw u j Ew))))
def aU4 :=DW func149 rfl pG AX IW IW λaGW j r h=>AZ<|Aa<|AZ<|BA h (λh=>Hq h λq z L x4 x5 x6 h=>F6 A8 A8 A8 (.a 2<|.ca (a8v z).view<|.a 2<|.ca (a8v x4).view<|.a 2<|.ca (aOF x6)<|.a 6<|.nil _)<|AZ<|Eb<|by rw[←CM h];exact⟨[IW ({ { { j with Allow:=q }with iD:=L }with Levels:=x5 })],[],⟨⟨1,Ar (GU ({ { { j with Allow:=q }with iD:=L }with Levels:=x5 })),true,16,A8,A8,A8,VO,DT A8,WY,A8⟩,trivial⟩,A8,A8,A8⟩) λh=>AZ<|AO h λq z h=>AP 1<|.X (aT0 z)<|Cm (λs=>∃(M:D9),CO s ⟨Az 64 [(3,.ptr 0 0),(4,.ptr 1 0),(5,.ptr 2 0),(6,AX q)],[.box (Ar (GU j)),.box (Ar (GU Ew)),.box (Ar (GU M))],0⟩/\aHw q j M=some r) (by rintro s ⟨M,hs,h⟩;exact D6 hs<|Cm (λs=>∃(O:D9),CO s ⟨Az 64 [(3,.ptr 0 0),(4,.ptr 1 0),(5,.ptr 2 0),(6,AX q)],[.box (Ar (GU j)),.box (Ar (GU Ew)),.box (Ar (GU O))],0⟩/\aFy q j O=some r) (by rintro s ⟨O,hs,h⟩;exact D6 hs<|Cm (λs=>∃(U:D9),CO s ⟨Az 64 [(3,.ptr 0 0),(4,.ptr 1 0),(5,.ptr 2 0),(6,AX q)],[.box (Ar (GU j)),.box (Ar (GU Ew)),.box (Ar (GU U))],0⟩/\aJb q j U=some r) (by rintro s ⟨U,hs,h⟩;exact D6 hs<|Cm (λs=>∃(Y:D9),CO s ⟨Az 64 [(3,.ptr 0 0),(4,.ptr 1 0),(5,.ptr 2 0),(6,AX q)],[.box (Ar (GU j)),.box (Ar (GU Ew)),.box (Ar (GU Y))],0⟩/\aE4 q j Y=some r) (by rintro s ⟨Y,hs,h⟩;exact D6 hs<|Cm (λs=>∃(I:D9),CO s ⟨Az 64 [(3,.ptr 0 0),(4,.ptr 1 0),(5,.ptr 2 0),(6,AX q)],[.box (Ar (GU j)),.box (Ar (GU Ew)),.box (Ar (GU I))],0⟩/\aEW q j I=some r) (by rintro s ⟨I,hs,h⟩;exact D6 hs<|Cm (λs=>∃(J:D9),CO s ⟨Az 64 [(4,.ptr 0 0),(5,.ptr 1 0)],[.box (Ar (GU Ew)),.box (Ar (GU J))],0⟩/\aJZ J=some r) (by rintro s ⟨J,hs,h⟩;exact D6 hs<|AZ<|Eb<|by rw[←CM h];exact⟨[IW J],[],⟨⟨0,Ar (GU J),true,16,A8,A8,A8,VO,DT A8,WY,A8⟩,trivial⟩,A8,A8,A8⟩)<|λZ=>AP 1<|.Z (Sz (k:=.i64) (u:=q) (v:=128))<|BA h (λh=>AO h λq z h=>CU<|.a 2<|.ca (aOF z)<|.aN<|Z _ ⟨({ I with Levels:=q }),Ae [AU 1,AU 2],h⟩) λh=>Z _ ⟨I,Ae [AU 1,AU 2],h⟩)<|λz=>AP 1<|.Z (Sz (k:=.i64) (u:=q) (v:=64))<|BA h (λh=>AO h λq L h=>CU<|.a 2<|.ca (a8v L).view<|.aN<|z _ ⟨({ Y with iD:=q }),Ae [AU 0,AU 1,AU 2],h⟩) λh=>z _ ⟨Y,Ae [AU 0,AU 1,AU 2],h⟩)<|λz=>AP 1<|.Z (Sz (k:=.i64) (u:=q) (v:=32))<|BA h (λh=>AO h λq L h=>CU<|.a 2<|.ca (a8v L).view<|.aN<|z _ ⟨({ U with Allow:=q }),Ae [AU 0,AU 1,AU 2],h⟩) λh=>z _ ⟨U,Ae [AU 0,AU 1,AU 2],h⟩)<|λz=>AP 1<|.Z (Sz (k:=.i64) (u:=q) (v:=16))<|BA h (λh=>Cx<|z _ ⟨({ O with Via:=j.Via }),Ae [AU 0,AU 1,AU 2],h⟩) λh=>z _ ⟨O,Ae [AU 0,AU 1,AU 2],h⟩)<|λz=>AP 1<|.Z (Sz (k:=.i64) (u:=q) (v:=4))<|BA h (λh=>Cx<|z _ ⟨({ M with Target:=j.Target }),Ae [AU 0,AU 1,AU 2],h⟩) λh=>z _ ⟨M,Ae [AU 0,AU 1,AU 2],h⟩)<|λz=>AP 1<|.Z (Sz (k:=.i64) (u:=q) (v:=2))<|BA h (λh=>Cx<|z _ ⟨({ Ew with N:=j.N }),Ae [AU 0,AU 1,AU 2],h⟩) λh=>z _ ⟨Ew,Ae [AU 0,AU 1,AU 2],h⟩
def eI (j:AQ):AL AQ:=(pG j.Kind j.Content).bind λq=>some ({ j with Content:=q })
def aSy :=Dc func131 rfl eI DL DL λj r h=>AZ<|AO h λq u h=>AP 4<|.ca (aU4 u)<|aL8
def jk (j:Int):AL AY:=(cond (j>=1) (some (decide (j<=10))) (some false)).bind λq=>some q
def rU :=Dc func231 rfl jk AX Ag λj r h=>AZ<|AP 2<|AO h λq u h=>.mg 5 3 (Ag q) (.bi u)<|.aW<|CY
def iL (j:BL):AL Int:=(uM j a3e).bind λq=>some q
def a9n :=Dc func289 rfl iL D8 AX λj r h=>AZ<|AO h λu q h=>AP 1<|.X (aPU q)<|CY
def aFH (j:BL)(k2:(Int->AL AY)):Int->AL AY:=λq=>(bif q<(j.size:Int) then(Ic j q).bind λu=>(cond (u<33) (some true) ((Ic j q).bind λz=>some (decide (z>126)))).bind λI=>(cond I (some false) (k2 (Au (q+1))))else(cond ((j.size:Int)>=1) (some (decide ((j.size:Int)<=32))) (some false)).bind λJ=>some J)
def aMR (j:BL):Int->AL AY:=bn (aFH j) Am
def a2G (j:BL):AL AY:=aMR j 0
def aXM :=Dc func290 rfl a2G D8 Ag λj r h=>AZ<|Aa<|AZ<|Aj<|Dp (λq=>⟨Az 28 [(0,D8 j),(5,AX (j.size:Int)),(6,AX q)],[],0⟩) _ _ _ (Ae []) h<|λq k2 u z h=>AZ<|Aa<|Bo h (λh=>Aa<|Aj<|AZ<|AO h λq z h=>AP 2<|.p (Lp (k:=.i64) z I4)<|.a 1<|AO h λq z h=>.mg 13 5 (Ag q) (.bi z (k2:=λh=>AO h λq u h=>.a 2<|.Z (Lp (k:=.i64) u I4)<|Cc))<|.aY<|BA h CB λh=>Cx<|u _ _ (Ae []) h) λh=>CZ<|AP 3<|AO h λq u h=>.mg 23 4 (Ag q) (.bi u)<|.aW<|CY
def aAX (j:AQ):AL AY:=(gJ j.Room).bind λq=>(cond (q != 0) (some true) ((iL j.bU).bind λu=>some (u != 0))).bind λz=>(cond z (some false) (cond (j.Kind==2) ((iL j.Key).bind λI=>some (I==0)) (cond (j.Kind==9) ((a2G j.Key).bind λJ=>some J) (some true))))
def abr :=Dc func232 rfl aAX DL Ag λu r h=>AZ<|Aa<|AO h λq j h=>AP 2<|.ca (aAp j)<|.a 1<|AO h λq j h=>.mg 7 5 (Ag q) (.bi j (k2:=λh=>AO h λq j h=>.a 2<|.X (a9n j)<|Cc))<|.aY<|BA h CB λh=>Aa<|AZ<|Aj<|AZ<|Df h (λh=>AO h λq j h=>AP 2<|.X (a9n j)<|CY) λh=>AZ<|BA h (λh=>AO h λq j h=>AP 2<|.X (aXM j)<|CY) λh=>AZ<|CY
def aE3 (j:AV)(k2:(Int->AL AY)):Int->AL AY:=λq=>(cond (q<(j.length:Int)) ((Ak j q).bind λu=>(cond (u<0) (some true) ((cond (q>0) ((Ak j (Au (q-1))).bind λz=>some (decide (z>=u))) (some false)).bind λI=>some I)).bind λJ=>(cond J (some false) (k2 (Au (q+1))))) (some true))
def aR3 (j:AV):Int->AL AY:=bn (aE3 j) Am
def Rep (j:AV):AL AY:=aR3 j 0
def aTc :=Dc func233 rfl Rep Bf Ag λj r h=>AZ<|Aa<|AP 1<|.Z (BJ Ad j)<|Aj<|Dp (λq=>⟨Az 28 [(0,Bf j),(5,Bf j),(6,AX (j.length:Int)),(7,AX q)],[],0⟩) _ _ _ (Ae []) h<|λq k2 u z h=>AZ<|Aa<|Bo h (λh=>Aa<|Aj<|AO h λq z h=>AP 1<|.Z (BD Ad z)<|AP 2<|AO h λq z h=>.mg 14 12 (Ag q) (.bi z (k2:=λh=>.a 2<|AO h λq u h=>.mg 17 8 (Ag q) (.bi u (λh=>AO h λq u h=>.a 3<|.Z (BD Ad u)<|Cc))<|.aW<|Cc))<|.aY<|BA h CB λh=>Cx<|u _ _ (Ae []) h) λh=>El
def a19 (j:Int):AL AY:=(cond (j>=1) (some (decide (j<=14))) (some false)).bind λq=>some q
def aUu :=Dc func292 rfl a19 AX Ag λj r h=>AZ<|AP 2<|AO h λq u h=>.mg 5 3 (Ag q) (.bi u)<|.aW<|CY
def a4v (j:Ci):AL AY:=(cond ((j.Users.length:Int)==0) (some ((j.Kinds.length:Int)==0)) (some false)).bind λI=>(cond I (some (j.User==0)) (some false)).bind λJ=>(cond J (some (j.Message==0)) (some false)).bind λL=>(cond L (some (j.State==0)) (some false)).bind λM=>(cond M (some (j.gY==0)) (some false)).bind λO=>(cond O (some (j.lg==0)) (some false)).bind λq=>(cond q (some (j.oV==0)) (some false)).bind λu=>(cond u (some (j.iq==0)) (some false)).bind λz=>some z
def alx :=Dc func354 rfl a4v Iu Ag λu r h=>AZ<|AP 2<|.p (BJ FH u.Users)<|.a 1<|AO h λj q h=>.mg 7 5 (Ag j) (.bi q (λh=>.a 2<|.Z (BJ FI u.Kinds)<|Cc))<|.a 1<|AO h λj q h=>.mg 14 3 (Ag j) (DC q)<|.a 1<|AO h λj q h=>.mg 19 3 (Ag j) (DC q)<|.a 1<|AO h λj q h=>.mg 24 3 (Ag j) (DC q)<|.a 1<|AO h λj q h=>.mg 29 3 (Ag j) (DC q)<|.a 1<|AO h λj q h=>.mg 34 3 (Ag j) (DC q)<|.a 1<|AO h λj q h=>.mg 39 3 (Ag j) (DC q)<|.a 1<|AO h λj q h=>.mg 44 3 (Ag j) (DC q)<|.aW<|CY
def a9h (j:Int):AL Int:=some j
def a4y (j:D9)(u:Int):AL Int:=(a4v j.Levels).bind λq=>(cond (!q) (a9h (FD .or .i64 u 128)) (a9h u))
def a4x (j:D9)(q:Int):AL Int:=(cond ((j.iD.length:Int)>0) (a4y j (FD .or .i64 q 64)) (a4y j q))
def a8A (j:D9)(q:Int):AL Int:=(cond ((j.Allow.length:Int)>0) (a4x j (FD .or .i64 q 32)) (a4x j q))
def a7N (j:D9)(q:Int):AL Int:=(cond (!(j.Via.toList==CX.toList)) (a8A j (FD .or .i64 q 16)) (a8A j q))
def aAk (j:D9)(q:Int):AL Int:=(cond j.Thread (a7N j (FD .or .i64 q 8)) (a7N j q))
def a4G (j:D9)(v2:Int):AL Int:=(cond (j.Target != 0) (aAk j (FD .or .i64 v2 4)) (aAk j v2))
def aAx (j:D9)(q:Int):AL Int:=(cond (j.N != 0) (a4G j (FD .or .i64 q 2)) (a4G j q))
def a0X (j:D9):AL Int:=(cond (!(j.Text.toList==CX.toList)) (aAx j (FD .or .i64 0 1)) (aAx j 0))
def aPk :=Dc func293 rfl a0X IW AX λj r h=>AZ<|AZ<|Cm (λs=>∃(z:Int),CO s ⟨Az 47 [(1,.ptr 0 0),(3,AX z)],[.box (Ar (GU j))],0⟩/\aAx j z=some r) (by rintro s ⟨z,hs,h⟩;exact D6 hs<|Cm (λs=>∃(v2:Int),CO s ⟨Az 47 [(1,.ptr 0 0),(3,AX v2)],[.box (Ar (GU j))],0⟩/\a4G j v2=some r) (by rintro s ⟨v2,hs,h⟩;exact D6 hs<|Cm (λs=>∃(I:Int),CO s ⟨Az 47 [(1,.ptr 0 0),(3,AX I)],[.box (Ar (GU j))],0⟩/\aAk j I=some r) (by rintro s ⟨I,hs,h⟩;exact D6 hs<|Cm (λs=>∃(J:Int),CO s ⟨Az 47 [(1,.ptr 0 0),(3,AX J)],[.box (Ar (GU j))],0⟩/\a7N j J=some r) (by rintro s ⟨J,hs,h⟩;exact D6 hs<|Cm (λs=>∃(L:Int),CO s ⟨Az 47 [(1,.ptr 0 0),(3,AX L)],[.box (Ar (GU j))],0⟩/\a8A j L=some r) (by rintro s ⟨L,hs,h⟩;exact D6 hs<|Cm (λs=>∃(M:Int),CO s ⟨Az 47 [(1,.ptr 0 0),(3,AX M)],[.box (Ar (GU j))],0⟩/\a4x j M=some r) (by rintro s ⟨M,hs,h⟩;exact D6 hs<|Cm (λs=>∃(O:Int),CO s ⟨Az 47 [(1,.ptr 0 0),(3,AX O)],[.box (Ar (GU j))],0⟩/\a4y j O=some r) (by rintro s ⟨O,hs,h⟩;exact D6 hs<|Cm (λs=>∃(U:Int),CO s ⟨Az 47 [(3,AX U)],[],0⟩/\a9h U=some r) (by rintro s ⟨U,hs,h⟩;exact D6 hs<|AZ<|CY)<|λq=>AO h λZ Y h=>AP 2<|.X (alx Y)<|BA h (λh=>CU<|.a 1<|.p (XR (k:=.i64) (u:=O) (v:=128))<|.aN<|q _ ⟨(FD .or .i64 O 128),Ae [],h⟩) λh=>q _ ⟨O,Ae [],h⟩)<|λq=>AP 2<|.Z (BJ DX j.iD)<|BA h (λh=>CU<|.a 1<|.p (XR (k:=.i64) (u:=M) (v:=64))<|.aN<|q _ ⟨(FD .or .i64 M 64),Ae [AU 0],h⟩) λh=>q _ ⟨M,Ae [AU 0],h⟩)<|λq=>AP 2<|.Z (BJ DX j.Allow)<|BA h (λh=>CU<|.a 1<|.p (XR (k:=.i64) (u:=L) (v:=32))<|.aN<|q _ ⟨(FD .or .i64 L 32),Ae [AU 0],h⟩) λh=>q _ ⟨L,Ae [AU 0],h⟩)<|λq=>AZ<|BA h (λh=>CU<|.a 1<|.p (XR (k:=.i64) (u:=J) (v:=16))<|.aN<|q _ ⟨(FD .or .i64 J 16),Ae [AU 0],h⟩) λh=>q _ ⟨J,Ae [AU 0],h⟩)<|λq=>AZ<|BA h (λh=>CU<|.a 1<|.p (XR (k:=.i64) (u:=I) (v:=8))<|.aN<|q _ ⟨(FD .or .i64 I 8),Ae [AU 0],h⟩) λh=>q _ ⟨I,Ae [AU 0],h⟩)<|λq=>AZ<|BA h (λh=>CU<|.a 1<|.p (XR (k:=.i64) (u:=v2) (v:=4))<|.aN<|q _ ⟨(FD .or .i64 v2 4),Ae [AU 0],h⟩) λh=>q _ ⟨v2,Ae [AU 0],h⟩)<|λq=>AZ<|BA h (λh=>CU<|.a 1<|.p (XR (k:=.i64) (u:=z) (v:=2))<|.aN<|q _ ⟨(FD .or .i64 z 2),Ae [AU 0],h⟩) λh=>q _ ⟨z,Ae [AU 0],h⟩)<|λq=>AZ<|BA h (λh=>CU<|.a 1<|.p (XR (k:=.i64) (u:=0) (v:=1))<|.aN<|q _ ⟨(FD .or .i64 0 1),Ae [AU 0],h⟩) λh=>q _ ⟨0,Ae [AU 0],h⟩
def aFD (j:BL)(u:(Int->AL Int)):Int->AL Int:=λq=>(cond (q<(j.size:Int)) ((Ic j q).bind λz=>(cond (z<33) (some true) ((Ic j q).bind λI=>some (decide (I>126)))).bind λJ=>(cond J (some 3) (u (Au (q+1))))) (some 0))
def aGM (j:BL):Int->AL Int:=bn (aFD j) Am
def a0r (j:BL):AL Int:=(cond (j.toList==CX.toList) (some 9) (cond ((j.size:Int)>64) (some 7) (aGM j 0)))
def aTP :=Dc func355 rfl a0r D8 AX λj r h=>AZ<|Aa<|Aj<|AZ<|Df h CB λh=>AZ<|BA h CB λh=>Aa<|AZ<|Aj<|Dp (λq=>⟨Az 27 [(0,D8 j),(12,AX (j.size:Int)),(13,AX q)],[],0⟩) _ _ _ (Ae []) h<|λq u z I h=>AZ<|Aa<|Bo h (λh=>Aa<|Aj<|AZ<|AO h λq u h=>AP 2<|.p (Lp (k:=.i64) u I4)<|.a 1<|AO h λq u h=>.mg 20 5 (Ag q) (.bi u (k2:=λh=>AO h λq u h=>.a 2<|.Z (Lp (k:=.i64) u I4)<|Cc))<|aHf) λh=>El
def aBn (j:Gq)(k3:(Int->AL Int)):Int->AL Int:=λv2=>(cond (v2<(j.length:Int)) ((Ak j v2).bind λu=>(a0r u).bind λq=>(cond (q != 0) (some q) (k3 (Au (v2+1))))) (some 0))
def aOY (j:Gq):Int->AL Int:=bn (aBn j) Am
def Ya (j:Gq):AL Int:=(cond ((j.length:Int)>100) (some 7) (aOY j 0))
def aNt :=Dc func300 rfl Ya Ib AX λj r h=>AZ<|Aa<|AP 1<|.Z (BJ DX j)<|BA h CB λh=>Aa<|AP 1<|.Z (BJ DX j)<|Aj<|Dp (λq=>⟨Az 21 [(9,Ib j),(10,AX (j.length:Int)),(11,AX q)],[],0⟩) _ _ _ (Ae []) h<|λq u I z h=>AZ<|Aa<|Bo h (λh=>Aa<|Aj<|AO h λq u h=>BM<|.Z (BD DX u)<|AO h λu z h=>AP 1<|.X (aTP z)<|AZ<|BA h CB λh=>SQ) λh=>El
def oG (j:Int):AL AY:=(cond (j<(-1000)) (some true) (some (decide (j>1000)))).bind λq=>some q
def aOW :=Dc func358 rfl oG AX Ag λj r h=>AZ<|AP 2<|AO h λq u h=>.mg 5 3 (Ag q) (.bi u)<|.aW<|CY
def a2Y (q:IQ)(k3:(Int->AL Int))(v2:Int)(u:AY):AL Int:=(cond u (some 8) ((oG q.N).bind λj=>(cond j (some 2) (k3 (Au (v2+1))))))
abbrev OU:=AA IQ
def aBp (j:OU)(k3:(Int->AL Int)):Int->AL Int:=λv2=>(cond (v2<(j.length:Int)) ((Ak j v2).bind λq=>(iL q.User).bind λz=>(cond (z != 0) (some 3) (cond (v2>0) ((Ak j (Au (v2-1))).bind λu=>a2Y q k3 v2 (Op.bytesLess (q.User.toList) (u.User.toList)||q.User.toList==u.User.toList)) (a2Y q k3 v2 false)))) (some 0))
def aMU (j:OU):Int->AL Int:=bn (aBp j) Am
def aAi (j:OU):AL Int:=(cond ((j.length:Int)>100) (some 7) (aMU j 0))
def aaP :=Dc func356 rfl aAi Q5 AX λj r h=>AZ<|Aa<|AP 1<|.Z (BJ FH j)<|BA h CB λh=>Aa<|AP 1<|.Z (BJ FH j)<|Aj<|Dp (λq=>⟨Az 39 [(0,Q5 j),(8,Q5 j),(9,AX (j.length:Int)),(10,AX q)],[],0⟩) _ _ _ (Ae []) h<|λq z J u h=>AZ<|Aa<|Bo h (λh=>Aa<|Aj<|AO h λq I h=>AP 1<|.Z (BD FH I)<|Aj<|AO h λI M h=>AP 2<|.X (a9n M)<|Df h CB λh=>Cm (λs=>∃(L:AY),CO s ⟨Az 39 [(0,Q5 j),(4,.ptr 0 0),(8,Q5 j),(9,AX (j.length:Int)),(10,AX u),(20,Ag L)],[.box (Ar (FH q))],0⟩/\a2Y q z u L=some r) aTG<|λz=>EX h (λJ h=>AO h λu I h=>DN A8 A8 A8 (.a 2<|.c (BF some J)<|.a 5<|.p (BD FH I)<|.a 5<|.nil _)<|z _ ⟨(Op.bytesLess (q.User.toList) (u.User.toList)||q.User.toList==u.User.toList),Ae [AU 0],h⟩) λq h=>DN A8 A8 A8 (.a 2<|.c (BF some q)<|.a 11<|.nil _)<|z _ ⟨false,Ae [AU 0],h⟩) λh=>El
def a4C (q:KL)(k3:(Int->AL Int))(v2:Int)(u:AY):AL Int:=(cond u (some 8) ((oG q.N).bind λj=>(cond j (some 2) (k3 (Au (v2+1))))))
abbrev OJ:=AA KL
def aBv (j:OJ)(k3:(Int->AL Int)):Int->AL Int:=λv2=>(cond (v2<(j.length:Int)) ((Ak j v2).bind λq=>(a19 q.Kind).bind λz=>(cond (!z) (some 1) (cond (v2>0) ((Ak j (Au (v2-1))).bind λu=>a4C q k3 v2 (decide (q.Kind<=u.Kind))) (a4C q k3 v2 false)))) (some 0))
def aR6 (j:OJ):Int->AL Int:=bn (aBv j) Am
def a8j (j:OJ):AL Int:=(cond ((j.length:Int)>100) (some 7) (aR6 j 0))
def aaW :=Dc func357 rfl a8j Pg AX λj r h=>AZ<|Aa<|AP 1<|.Z (BJ FI j)<|BA h CB λh=>Aa<|AP 1<|.Z (BJ FI j)<|Aj<|Dp (λq=>⟨Az 39 [(0,Pg j),(8,Pg j),(9,AX (j.length:Int)),(10,AX q)],[],0⟩) _ _ _ (Ae []) h<|λq z J u h=>AZ<|Aa<|Bo h (λh=>Aa<|Aj<|AO h λq I h=>AP 1<|.Z (BD FI I)<|Aj<|AO h λI M h=>AP 2<|.X (aUu M)<|Df h CB λh=>Cm (λs=>∃(L:AY),CO s ⟨Az 39 [(0,Pg j),(4,.ptr 0 0),(8,Pg j),(9,AX (j.length:Int)),(10,AX u),(20,Ag L)],[.box (Ar (FI q))],0⟩/\a4C q z u L=some r) aTG<|λz=>EX h (λJ h=>AO h λu I h=>DN A8 A8 A8 (.a 2<|.c (BF some J)<|.a 5<|.p (BD FI I)<|.a 5<|.nil _)<|z _ ⟨(decide (q.Kind<=u.Kind)),Ae [AU 0],h⟩) λq h=>DN A8 A8 A8 (.a 2<|.c (BF some q)<|.a 11<|.nil _)<|z _ ⟨false,Ae [AU 0],h⟩) λh=>El
def aOM (j:Ci)(u:(Int->AL Int)):Int->AL Int:=λq=>(cond (q<7) ((Ak ([j.User,j.Message,j.State,j.gY,j.lg,j.oV,j.iq]:AV) q).bind λz=>(oG z).bind λI=>(cond I (some 2) (u (Au (q+1))))) (some 0))
def aKm (j:Ci):Int->AL Int:=bn (aOM j) Am
def dw (j:Ci):AL Int:=(aAi j.Users).bind λq=>(cond (q != 0) (some q) ((a8j j.Kinds).bind λu=>(cond (u != 0) (some u) (aKm j 0))))
def aXi :=Dc func301 rfl dw Iu AX λj r h=>AZ<|Aa<|AO h λu q h=>AP 2<|.X (aaP q)<|AZ<|BA h CB λh=>Aa<|AO h λu q h=>AP 2<|.X (aaW q)<|AZ<|BA h CB λh=>Aa<|AZ<|Aj<|Dp (λu=>⟨Az 40 [(33,.d ((OT Ad) ([j.User,j.Message,j.State,j.gY,j.lg,j.oV,j.iq]:(AA Int)))),(34,AX u)],[],0⟩) _ _ _ (Ae []) h<|λu q I z h=>AZ<|Aa<|Bo h (λh=>Aa<|Aj<|AO h λu q h=>BM<|.Z (aAI (k:=.i64) Ad q aAL Ey A8)<|AO h λq z h=>AP 1<|.ca (aOW z)<|aAw) λh=>El
def a4N (j:AY):AL Int:=(cond j (some 7) (some 0))
def Sr (q:Int)(j:D9):AL Int:=(cond (q==9) (some (!(j.Text.toList==CX.toList))) (some false)).bind λz=>(cond z ((a0r j.Text).bind λI=>some I) ((cond (q==12) (some (j.Text.toList==CX.toList)) (some false)).bind λJ=>(cond J (some 9) ((cond (q==12) (some (decide ((j.Text.size:Int)>32))) (some false)).bind λu=>(cond u (a4N u) (a4N (decide ((j.Text.size:Int)>400))))))))
def aj1 :=DW func294 rfl Sr AX IW AX λI u r h=>AZ<|Aa<|Aj<|AP 2<|AO h λq j h=>.mg 8 4 (Ag q) (.bi j)<|.aW<|Df h (λh=>AO h λq j h=>AP 2<|.X (aTP j)<|CY) λh=>AP 2<|AO h λq j h=>.mg 19 4 (Ag q) (.bi j)<|.aW<|Df h CB λh=>Cm (λs=>∃(z:AY),CO s ⟨Az 37 [(24,Ag z)],[],0⟩/\a4N z=some r) aMK<|λq=>AP 2<|AO h λj J h=>.mg 27 5 (Ag j) (.bi J)<|.aW<|Bo h (λh=>q _ ⟨j,Ae [],h⟩) λh=>Cx<|q _ ⟨(decide ((u.Text.size:Int)>400)),Ae [],h⟩
def zY (j:D9)(q:Int)(v2:Int):AL Int:=(cond (j.N<q) (some true) (some (decide (j.N>v2)))).bind λu=>(cond u (some 2) (some 0))
def Q7 (q:Int)(j:D9):AL Int:=(cond (q==2) (zY j 0 4) (cond (q==8) (zY j 0 1000000000) (cond (q==10) (zY j 1 10000) (cond (q==9) ((cond (j.N==1) (some true) (some (j.N==2))).bind λu=>(cond u (some true) (some (j.N==6))).bind λz=>(cond z (some 0) (some 2))) (zY j 0 3)))))
def aZR :=DW func295 rfl Q7 AX IW AX λI q r h=>AZ<|AZ<|Cm (λs=>∃(z:Int) (v2:Int),CO s ⟨Az 39 [(3,.ptr 0 0),(5,AX z),(6,AX v2)],[.box (Ar (GU q))],0⟩/\zY q z v2=some r) (by rintro s ⟨z,v2,hs,h⟩;exact D6 hs<|Aa<|AP 4<|AO h λj u h=>.mg 33 5 (Ag j) (.bi u)<|.aY<|JW)<|λj=>AZ<|Aj<|AZ<|Df h (λh=>Cx<|j _ ⟨0,4,Ae [AU 0],h⟩) λh=>AZ<|Df h (λh=>Cx<|j _ ⟨0,1000000000,Ae [AU 0],h⟩) λh=>AZ<|Df h (λh=>Cx<|j _ ⟨1,10000,Ae [AU 0],h⟩) λh=>AZ<|BA h (λh=>Aa<|AZ<|AP 2<|AO h λj u h=>.mg 21 3 (Ag j) (.bi u)<|.a 1<|AO h λj u h=>.mg 26 2 (Ag j) (DC u)<|.aY<|JW) λh=>j _ ⟨0,3,Ae [AU 0],h⟩
def TW (q:Int)(j:D9):AL Int:=(cond (j.Target<0) (some true) ((cond (j.Target==0) (some (q != 11)) (some false)).bind λu=>some u)).bind λz=>(cond z (some 2) (some 0))
def af5 :=DW func296 rfl TW AX IW AX λu z r h=>AZ<|Aa<|AP 3<|AO h λj q h=>.mg 8 8 (Ag j) (.bi q (k2:=λh=>.a 3<|AO h λj q h=>.mg 12 3 (Ag j) (.bi q)<|.aW<|Cc))<|.aY<|JW
def gZ (q:Int)(j:D9):AL Int:=(cond j.Thread (some (j.Target==0)) (some false)).bind λu=>(cond u (some 1) (some 0))
def anR :=DW func297 rfl gZ AX IW AX λj q r h=>AZ<|Aa<|AP 2<|AO h λu z h=>.mg 7 4 (Ag u) (.bi z)<|.aY<|JW
def er (q:Int)(j:D9):AL Int:=(cond (j.Via.toList==CX.toList) (some 0) (cond (j.N != 3) (some 1) ((iL j.Via).bind λu=>some u)))
def alB :=DW func298 rfl er AX IW AX λj q r h=>AZ<|Aa<|Aj<|AZ<|Df h CB λh=>AZ<|BA h CB λh=>AO h λz u h=>AP 2<|.X (a9n u)<|CY
end
section
set_option maxRecDepth 20000
set_option maxHeartbeats 4000000
def aHr (j:D9)(L:(Int->AL Int)):Int->AL Int:=λu=>(cond (u<(j.Allow.length:Int)) ((Ak j.Allow u).bind λq=>(gJ q).bind λI=>(cond (I != 0) (some 3) ((cond (u>0) ((Ak j.Allow (Au (u-1))).bind λz=>some (Op.bytesLess (q.toList) (z.toList)||q.toList==z.toList)) (some false)).bind λJ=>(cond J (some 8) (L (Au (u+1))))))) (some 0))
def aWx (j:D9):Int->AL Int:=bn (aHr j) Am
def YN (q:Int)(j:D9):AL Int:=(cond (q==6) ((Ya j.Allow).bind λu=>some u) ((cond ((j.Allow.length:Int)>0) (some (j.N != 3)) (some false)).bind λz=>(cond z (some 1) (cond ((j.Allow.length:Int)>100) (some 7) (aWx j 0)))))
def aee :=DW func299 rfl YN AX IW AX λz j r h=>AZ<|Aa<|Aj<|AZ<|Df h (λh=>AO h λu q h=>AP 2<|.X (aNt q)<|CY) λh=>AP 2<|.p (BJ DX j.Allow)<|.a 1<|AO h λu q h=>.mg 18 4 (Ag u) (.bi q)<|.aW<|Df h CB λh=>AP 2<|.Z (BJ DX j.Allow)<|BA h CB λh=>Aa<|AP 2<|.Z (BJ DX j.Allow)<|Aj<|Dp (λu=>⟨Az 52 [(3,.ptr 0 0),(29,Ib j.Allow),(30,AX (j.Allow.length:Int)),(31,AX u)],[.box (Ar (GU j))],0⟩) _ _ _ (Ae [AU 0]) h<|λu q J I h=>AZ<|Aa<|Bo h (λh=>Aa<|Aj<|AO h λu q h=>AP 1<|.Z (BD DX q)<|Aa<|AO h λq I h=>AP 1<|.X (aAp I)<|BA h CB λh=>AP 2<|AO h λu q h=>.mg 41 9 (Ag u) (.bi q (λh=>AO h λu q h=>.a 5<|.Z (BD DX q)<|Cc))<|aDt) λh=>El
def a6t (n:Nat)(a0:Int)(j:D9):AL Int:=bif n==294 then Sr a0 j else bif n==295 then Q7 a0 j else bif n==296 then TW a0 j else bif n==297 then gZ a0 j else bif n==298 then er a0 j else bif n==299 then YN a0 j else none
def aYI {n a0 q r}(h:a6t n a0 q=some r):bH Aq Ad GU Ad (aUQ n) (a6t n):=by
 by_cases u:n=294
 ·subst u;exact⟨294,[],rfl,afZ,λa0 q c j=>aj1 j⟩
 by_cases h1:n=295
 ·subst h1;exact⟨295,[],rfl,aa6,λa0 q c j=>aZR j⟩
 by_cases h2:n=296
 ·subst h2;exact⟨296,[],rfl,ajx,λa0 q c j=>af5 j⟩
 by_cases h3:n=297
 ·subst h3;exact⟨297,[],rfl,ahr,λa0 q c j=>anR j⟩
 by_cases z:n=298
 ·subst z;exact⟨298,[],rfl,aac,λa0 q c j=>alB j⟩
 by_cases I:n=299
 ·subst I;exact⟨299,[],rfl,afu,λa0 q c j=>aee j⟩
 rw[a6t,qL u,qL h1,qL h2,qL h3,qL z,qL I]at h;have h:(none:AL Int)=some r:=h;cases h
def jh :(AA QF):=[(⟨1,294⟩:QF),(⟨2,295⟩:QF),(⟨4,296⟩:QF),(⟨8,297⟩:QF),(⟨16,298⟩:QF),(⟨32,299⟩:QF)]
def aGI (j:(Int->D9->AL Int))(q:Int)(u:D9):AL Int:=j (Au (q+1)) u
def cO (L:Int)(u:Int)(z:(Int->D9->AL Int)):Int->D9->AL Int:=λq j=>(cond (q<(jh.length:Int)) ((Ak jh q).bind λI=>(cond ((FD .and .i64 L I.aGh)==0) (aGI z q j) ((a6t I.aEy u j).bind λJ=>(cond (J != 0) (some J) (aGI z q j))))) (cond ((FD .and .i64 L 64) != 0) ((Ya j.iD).bind λM=>some M) (cond ((FD .and .i64 L 128) != 0) ((dw j.Levels).bind λO=>some O) (some 0))))
def Ns (q:Int)(j:Int):Int->D9->AL Int:=aQ (cO q j) Am
def NV (j:Int)(q:D9):AL Int:=(su j).bind λz=>(a19 j).bind λI=>(cond (!I) (some true) ((a0X q).bind λJ=>some ((FD .andNot .i64 J z) != 0))).bind λL=>(cond L (some 1) ((a0X q).bind λM=>(cond (M==0) ((pV j).bind λu=>some (u==0)) (some false)).bind λO=>(cond O (some 0) (Ns z j 0 q))))
def ah6 :=DW func234 rfl NV AX IW AX λI L r h=>AZ<|AO h λz j h=>AP 1<|.X (aKw j)<|Aa<|AO h λj q h=>AP 1<|.ca (aUu q)<|.a 1<|AO h λj q h=>.mg 15 6 (Ag j) (.bi q (k2:=λh=>AO h λj q h=>.a 1<|.ca (aPk q)<|.a 1<|.Z (aky (k:=.i64) (u:=j) (v:=z))<|Cc))<|.aY<|BA h CB λh=>Aa<|AO h λj q h=>AP 1<|.ca (aPk q)<|.a 1<|AO h λj q h=>.mg 25 4 (Ag j) (.bi q (λh=>AO h λz j h=>.a 1<|.X (aT0 j)<|Cc))<|.aY<|BA h CB λh=>AP 6<|.Z (EG aZw aG2 [Wn (⟨1,294⟩:QF),Wn (⟨2,295⟩:QF),Wn (⟨4,296⟩:QF),Wn (⟨8,297⟩:QF),Wn (⟨16,298⟩:QF),Wn (⟨32,299⟩:QF)])<|Aa<|AP 1<|.Z (BJ Wn jh)<|Aj<|DV (λj q=>⟨Az 69 [(0,AX I),(3,.ptr 0 0),(5,AX z),(37,.d ((BP Wn) jh)),(38,AX (jh.length:Int)),(39,AX j)],[.box (Ar (GU q))],0⟩) _ _ _ _ (Ae [AU 0]) h<|λj q J M O h=>AZ<|Aa<|Bo h (λh=>Cm (λs=>CO s ⟨Az 69 [(0,AX I),(3,.ptr 0 0),(5,AX z),(37,.d ((BP Wn) jh)),(38,AX (jh.length:Int)),(39,AX M)],[.box (Ar (GU O))],0⟩/\aGI q M O=some r) (by rintro s ⟨hs,h⟩;exact D6 hs<|qK)<|λj=>Aj<|AO h λq J h=>BM<|.Z (BD Wn J)<|Aa<|AP 3<|.Z (Sz (k:=.i64) (u:=z) (v:=q.aGh))<|BA h (λh=>CZ<|j _ ⟨Ae [AU 0],h⟩) λh=>AO h λz J h=>AP 4<|.Z (jd (aYI J) J)<|AZ<|BA h CB λh=>j _ ⟨Ae [AU 0],h⟩) λh=>CZ<|Aa<|AP 1<|.Z (Sz (k:=.i64) (u:=z) (v:=64))<|BA h (λh=>AO h λz j h=>AP 2<|.X (aNt j)<|CY) λh=>Aa<|AP 1<|.Z (Sz (k:=.i64) (u:=z) (v:=128))<|BA h (λh=>AO h λz j h=>AP 2<|.X (aXi j)<|CY) λh=>AZ<|CY
def bQ (j:AQ)(U:AY):AL Int:=(cond U (some 1) ((aAX j).bind λY=>(cond (!Y) (some 3) ((cond (j.Time<0) (some true) (some (decide (j.Time>1000000000)))).bind λZ=>(cond Z (some true) (some (decide (j.Depth<1)))).bind λx9=>(cond x9 (some true) (some (decide (j.Depth>100000)))).bind λq=>(cond q (some 2) ((cond ((j.bG.length:Int)>10) (some true) (some (decide ((j.bI.length:Int)>8)))).bind λu=>(cond u (some 7) ((Rep j.bG).bind λz=>(cond (!z) (some true) ((Rep j.bI).bind λI=>some (!I))).bind λJ=>(cond J (some 8) ((cond ((j.bG.length:Int)==0) (some (j.Kind != 1)) (some false)).bind λL=>(cond L (some 9) ((cond (j.Kind==1) (some (decide ((Au ((j.bG.length:Int)+(j.bI.length:Int)))>0))) (some false)).bind λM=>(cond M (some 6) ((NV j.Kind j.Content).bind λO=>some O))))))))))))))
def a8c (j:AQ):AL Int:=(cond (j.Kind==2) (some true) (some (j.Kind==9))).bind λu=>(cond (j.Kind<1) (bQ j true) (cond (j.Kind>14) (bQ j true) ((jk j.Kind).bind λq=>(cond (!(j.State==q)) (bQ j true) (cond (!(j.Key.toList==CX.toList)) (bQ j (!u)) (bQ j false))))))
def ad3 :=Dc func147 rfl a8c DL AX λu r h=>AZ<|AP 3<|AO h λq j h=>.mg 7 4 (Ag q) (.bi j)<|.aW<|Aa<|Aj<|Cm (λs=>∃(I:AY),CO s ⟨Az 112 [(1,.ptr 0 0),(12,Ag I)],[.box (Ar (Ap u))],0⟩/\bQ u I=some r) (by rintro s ⟨I,hs,h⟩;exact D6 hs<|Df h CB λh=>AO h λq j h=>AP 1<|.X (abr j)<|Df h CB λh=>AP 3<|AO h λq j h=>.mg 46 4 (Ag q) (.bi j)<|.a 1<|AO h λq j h=>.mg 52 3 (Ag q) (DC j)<|.a 1<|AO h λq j h=>.mg 57 3 (Ag q) (DC j)<|.aW<|Df h CB λh=>AP 2<|.p (BJ Ad u.bG)<|.a 1<|AO h λq j h=>.mg 66 5 (Ag q) (.bi j (k2:=λh=>.a 2<|.Z (BJ Ad u.bI)<|Cc))<|.aW<|Df h CB λh=>AO h λq j h=>AP 2<|.ca (aTc j)<|.a 1<|AO h λq j h=>.mg 77 5 (Ag q) (.bi j (k2:=λh=>AO h λq j h=>.a 2<|.X (aTc j)<|Cc))<|.aW<|Df h CB λh=>AP 2<|.p (BJ Ad u.bG)<|.a 1<|AO h λq j h=>.mg 88 4 (Ag q) (.bi j)<|.aW<|Df h CB λh=>AP 3<|AO h λq j h=>.mg 97 9 (Ag q) (.bi j (λh=>.a 2<|.p (BJ Ad u.bG)<|.a 2<|.Z (BJ Ad u.bI)<|Cc))<|.aW<|BA h CB λh=>AO h λq j h=>AP 4<|.X (ah6 j)<|CY)<|λj=>EX h (λq h=>DN A8 A8 A8 (.a 3<|.c (BF some q)<|.a 22<|.nil _)<|j _ ⟨true,Ae [AU 0],h⟩) λz h=>EX h (λq h=>DN A8 A8 A8 (.a 3<|.c (BF some z)<|.a 4<|.c (BF some q)<|.a 17<|.nil _)<|j _ ⟨true,Ae [AU 0],h⟩) λJ h=>AO h λU L h=>EX h (λq h=>DN A8 A8 A8 (.a 3<|.c (BF some z)<|.a 4<|.c (BF some J)<|.a 4<|.ca (rU L)<|.a 2<|.c (BF some q)<|.a 9<|.nil _)<|j _ ⟨true,Ae [AU 0],h⟩) λM h=>EX h (λO h=>DN A8 A8 A8 (.a 3<|.c (BF some z)<|.a 4<|.c (BF some J)<|.a 4<|.ca (rU L)<|.a 2<|.c (BF some M)<|.a 3<|.c (BF some O)<|.a 5<|.nil _)<|j _ ⟨(!q),Ae [AU 0],h⟩) λq h=>DN A8 A8 A8 (.a 3<|.c (BF some z)<|.a 4<|.c (BF some J)<|.a 4<|.ca (rU L)<|.a 2<|.c (BF some M)<|.a 3<|.c (BF some q)<|.a 5<|.nil _)<|j _ ⟨false,Ae [AU 0],h⟩
def aBV (j:Gq)(q:Gq)(k3:(Int->AL AY)):Int->AL AY:=λv2=>(cond (v2<(j.length:Int)) ((Ak j v2).bind λu=>(Ak q v2).bind λz=>(cond (!(u.toList==z.toList)) (some false) (k3 (Au (v2+1))))) (some true))
def aRp (j:Gq)(q:Gq):Int->AL AY:=bn (aBV j q) Am
def a0d (j:Gq)(q:Gq):AL AY:=(cond ((j.length:Int) != (q.length:Int)) (some false) (aRp j q 0))
def aan :=DW func235 rfl a0d Ib Ib Ag λj q r h=>AZ<|Aa<|AP 1<|.p (BJ DX j)<|.a 1<|.Z (BJ DX q)<|BA h CB λh=>Aa<|AP 1<|.Z (BJ DX j)<|Aj<|Dp (λu=>⟨Az 26 [(0,Ib j),(1,Ib q),(12,AX (j.length:Int)),(13,AX u)],[],0⟩) _ _ _ (Ae []) h<|λu z I J h=>AZ<|Aa<|Bo h (λh=>Aa<|Aj<|AZ<|Bv h λu z J L h=>F6 A8 A8 A8 (.a 2<|.p (BD DX z)<|.a 3<|.p (BD DX L)<|.a 2<|.nil _)<|BA h CB λh=>SQ) λh=>El
def aKY (j:OU)(q:OU)(k3:(Int->AL AY)):Int->AL AY:=λv2=>(cond (v2<(j.length:Int)) ((Ak j v2).bind λu=>(Ak q v2).bind λz=>(cond (!a9N u z) (some false) (k3 (Au (v2+1))))) (some true))
def aQQ (j:OU)(q:OU):Int->AL AY:=bn (aKY j q) Am
def a6Q (j:OU)(q:OU):AL AY:=(cond ((j.length:Int) != (q.length:Int)) (some false) (aQQ j q 0))
def aga :=DW func236 rfl a6Q Q5 Q5 Ag λj q r h=>AZ<|Aa<|AP 1<|.p (BJ FH j)<|.a 1<|.Z (BJ FH q)<|BA h CB λh=>Aa<|AP 1<|.Z (BJ FH j)<|Aj<|Dp (λu=>⟨Az 26 [(0,Q5 j),(1,Q5 q),(12,AX (j.length:Int)),(13,AX u)],[],0⟩) _ _ _ (Ae []) h<|λu I J z h=>AZ<|Aa<|Bo h (λh=>Aa<|Aj<|AZ<|Bv h λu I z L h=>F6 A8 A8 A8 (.a 2<|.p (BD FH I)<|.a 3<|.p (BD FH L)<|.a 1<|.p (x:=(Ag (!a9N u z))) (jw [.string u.User,.int .i64 u.N] [.string z.User,.int .i64 z.N] (aXu u z) Bl adT)<|.nil _)<|BA h CB λh=>XD) λh=>El
def aCF (j:OJ)(q:OJ)(k3:(Int->AL AY)):Int->AL AY:=λv2=>(cond (v2<(j.length:Int)) ((Ak j v2).bind λu=>(Ak q v2).bind λz=>(cond (!a6N u z) (some false) (k3 (Au (v2+1))))) (some true))
def aUd (j:OJ)(q:OJ):Int->AL AY:=bn (aCF j q) Am
def a8F (j:OJ)(q:OJ):AL AY:=(cond ((j.length:Int) != (q.length:Int)) (some false) (aUd j q 0))
def aeM :=DW func237 rfl a8F Pg Pg Ag λj q r h=>AZ<|Aa<|AP 1<|.p (BJ FI j)<|.a 1<|.Z (BJ FI q)<|BA h CB λh=>Aa<|AP 1<|.Z (BJ FI j)<|Aj<|Dp (λu=>⟨Az 26 [(0,Pg j),(1,Pg q),(12,AX (j.length:Int)),(13,AX u)],[],0⟩) _ _ _ (Ae []) h<|λu I J z h=>AZ<|Aa<|Bo h (λh=>Aa<|Aj<|AZ<|Bv h λu I z L h=>F6 A8 A8 A8 (.a 2<|.p (BD FI I)<|.a 3<|.p (BD FI L)<|.a 1<|.p (x:=(Ag (!a6N u z))) (jw [.int .i64 u.Kind,.int .i64 u.N] [.int .i64 z.Kind,.int .i64 z.N] (agI u z) Bl aYO)<|.nil _)<|BA h CB λh=>XD) λh=>El
def a4g (j:D9)(q:D9):AL AY:=(cond (!(j.Text.toList==q.Text.toList)) (some true) (some (j.N != q.N))).bind λx1=>(cond x1 (some true) (some (j.Target != q.Target))).bind λx3=>(cond x3 (some true) (some (!(j.Thread==q.Thread)))).bind λx5=>(cond x5 (some true) (some (!(j.Via.toList==q.Via.toList)))).bind λx7=>(cond x7 (some true) ((a0d j.Allow q.Allow).bind λu=>some (!u))).bind λx9=>(cond x9 (some true) ((a0d j.iD q.iD).bind λz=>some (!z))).bind λI=>(cond I (some false) ((a6Q j.Levels.Users q.Levels.Users).bind λJ=>(cond J ((a8F j.Levels.Kinds q.Levels.Kinds).bind λL=>some L) (some false)).bind λM=>(cond M (some (j.Levels.User==q.Levels.User)) (some false)).bind λO=>(cond O (some (j.Levels.Message==q.Levels.Message)) (some false)).bind λU=>(cond U (some (j.Levels.State==q.Levels.State)) (some false)).bind λY=>(cond Y (some (j.Levels.gY==q.Levels.gY)) (some false)).bind λZ=>(cond Z (some (j.Levels.lg==q.Levels.lg)) (some false)).bind λx28=>(cond x28 (some (j.Levels.oV==q.Levels.oV)) (some false)).bind λx30=>(cond x30 (some (j.Levels.iq==q.Levels.iq)) (some false)).bind λx32=>some x32))
def amB :=DW func148 rfl a4g IW IW Ag λu z r h=>AZ<|Bq.axc [] [51,52] ⟨Az 121 [(2,.ptr 0 0),(3,.ptr 1 0),(5,.ptr 2 0),(6,.ptr 3 0)],[.box (Ar (GU u)),.box (Ar (GU z)),.box (Ar (FV u.Levels)),.box (Ar (FV z.Levels))],0⟩ ⟨oU (Ae [AU 0,AU 1,AU 2,AU 3]),oU (Ae [AU 0,AU 1,AU 3,AU 2]),trivial⟩<|Aa<|AP 5<|AO h λq j h=>.mg 16 6 (Ag q) (.bi j)<|.a 1<|AO h λq j h=>.mg 24 5 (Ag q) (DC j)<|.a 1<|AO h λq j h=>.mg 31 5 (Ag q) (DC j)<|.a 1<|AO h λq j h=>.mg 38 5 (Ag q) (DC j)<|.a 1<|AO h λq j h=>.mg 45 6 (Ag q) (DC j (k2:=λe i=>aLN))<|.a 1<|AO h λq j h=>.mg 53 6 (Ag q) (DC j (k2:=λe i=>aLN))<|.aY<|BA h CB λh=>AO h λq j h=>AP 4<|.ca (aga j)<|.a 1<|AO h λq j h=>.mg 66 5 (Ag q) (DC j (λe i=>by subst e;have h:=i;exact AO h λq j h=>.a 4<|.X (aeM j)<|Cc))<|.a 1<|AO h λq j h=>.mg 73 5 (Ag q) (DC j)<|.a 1<|AO h λq j h=>.mg 80 5 (Ag q) (DC j)<|.a 1<|AO h λq j h=>.mg 87 5 (Ag q) (DC j)<|.a 1<|AO h λq j h=>.mg 94 5 (Ag q) (DC j)<|.a 1<|AO h λq j h=>.mg 101 5 (Ag q) (DC j)<|.a 1<|AO h λq j h=>.mg 108 5 (Ag q) (DC j)<|.a 1<|AO h λq j h=>.mg 115 5 (Ag q) (DC j)<|.aW<|CY
def nK (j:G9)(q:Int):AL G9:=(Oq j.b_ q).bind λu=>some ({ j with b_:=u })
def ada {acr FZ r}(h:nK acr FZ=some r):E8 206 [.ptr 0 0,AX FZ] [.box (Ar (Na acr))] (.eP []) [.box (Ar (Na r))]:=Ec func206 rfl<|AO h λq j h=>CU<|.a 6<|.ca (YI j).view<|.aN<|aC
def aCk (j:AV)(k3:(Int->G9->AL G9)):Int->G9->AL G9:=λq v2=>(cond (q<(j.length:Int)) ((Ak j q).bind λu=>(nK v2 u).bind λz=>k3 (Au (q+1)) z) (some v2))
def aSE (j:AV):Int->G9->AL G9:=aQ (aCk j) Am
def VU (j:G9)(q:AV):AL G9:=aSE q 0 j
def a0n {uH iV r}(h:VU uH iV=some r):E8 205 [.fn (.func 206) [.ptr 0 0] [],Bf iV] [.box (Ar (Na uH))] (.eP []) [.box (Ar (Na r))]:=Ec func205 rfl<|AP 1<|.Z (BJ Ad iV)<|Aj<|DV (λq j=>⟨Az 16 [(0,.fn (.func 206) [.ptr 0 0] []),(6,Bf iV),(7,AX (iV.length:Int)),(8,AX q)],[.box (Ar (Na j))],1⟩) _ _ _ _ (Ae [AU 0]) h<|λq j z u I h=>AZ<|Aa<|Bo h (λh=>Aa<|Aj<|AO h λq j h=>BM<|.Z (BD Ad j)<|AO h λj u h=>CU<|.a 2<|.f (x:=.eP []) (iC [.ent 0] [.ptr 0 0] [] [AX q] (ada u))<|.nil<|Xp) λh=>CZ<|aC
def lM (j:G9)(q:BL):AL G9:=(UM j.b_ q).bind λu=>some ({ j with b_:=u })
def afL {acr sN r}(h:lM acr sN=some r):E8 208 [.ptr 0 0,D8 sN] [.box (Ar (Na acr))] (.eP []) [.box (Ar (Na r))]:=Ec func208 rfl<|AO h λq j h=>CU<|.a 6<|.ca (a7b j).view<|.aN<|aC
def aCo (j:Gq)(k3:(Int->G9->AL G9)):Int->G9->AL G9:=λq v2=>(cond (q<(j.length:Int)) ((Ak j q).bind λu=>(lM v2 u).bind λz=>k3 (Au (q+1)) z) (some v2))
def aNm (j:Gq):Int->G9->AL G9:=aQ (aCo j) Am
def X9 (j:G9)(q:Gq):AL G9:=aNm q 0 j
def aA5 {uH iV r}(h:X9 uH iV=some r):E8 207 [.fn (.func 208) [.ptr 0 0] [],Ib iV] [.box (Ar (Na uH))] (.eP []) [.box (Ar (Na r))]:=Ec func207 rfl<|AP 1<|.Z (BJ DX iV)<|Aj<|DV (λq j=>⟨Az 16 [(0,.fn (.func 208) [.ptr 0 0] []),(6,Ib iV),(7,AX (iV.length:Int)),(8,AX q)],[.box (Ar (Na j))],1⟩) _ _ _ _ (Ae [AU 0]) h<|λq j z u I h=>AZ<|Aa<|Bo h (λh=>Aa<|Aj<|AO h λq j h=>BM<|.Z (BD DX j)<|AO h λj u h=>CU<|.a 2<|.f (x:=.eP []) (iC [.ent 0] [.ptr 0 0] [] [D8 q] (afL u))<|.nil<|Xp) λh=>CZ<|aC
def uD (j:G9)(q:AY):AL G9:=(dM j.b_ q).bind λu=>some ({ j with b_:=u })
def aeZ {acr aHW r}(h:uD acr aHW=some r):E8 210 [.ptr 0 0,Ag aHW] [.box (Ar (Na acr))] (.eP []) [.box (Ar (Na r))]:=Ec func210 rfl<|AO h λq j h=>CU<|.a 6<|.ca (aNr j).view<|.aN<|aC
def aBz (j:(AA AY))(k3:(Int->G9->AL G9)):Int->G9->AL G9:=λq v2=>(cond (q<(j.length:Int)) ((Ak j q).bind λu=>(uD v2 u).bind λz=>k3 (Au (q+1)) z) (some v2))
def aR9 (j:(AA AY)):Int->G9->AL G9:=aQ (aBz j) Am
def zT (j:G9)(q:(AA AY)):AL G9:=aR9 q 0 j
def ak2 {uH iV r}(h:zT uH iV=some r):E8 209 [.fn (.func 210) [.ptr 0 0] [],.d ((BP E9) iV)] [.box (Ar (Na uH))] (.eP []) [.box (Ar (Na r))]:=Ec func209 rfl<|AP 1<|.Z (BJ E9 iV)<|Aj<|DV (λq j=>⟨Az 16 [(0,.fn (.func 210) [.ptr 0 0] []),(6,.d ((BP E9) iV)),(7,AX (iV.length:Int)),(8,AX q)],[.box (Ar (Na j))],1⟩) _ _ _ _ (Ae [AU 0]) h<|λq j z u I h=>AZ<|Aa<|Bo h (λh=>Aa<|Aj<|AO h λq j h=>BM<|.Z (BD E9 j)<|AO h λj u h=>CU<|.a 2<|.f (x:=.eP []) (iC [.ent 0] [.ptr 0 0] [] [Ag q] (aeZ u))<|.nil<|Xp) λh=>CZ<|aC
def aJX (j:AV)(u:(AV->Int->AL AV)):AV->Int->AL AV:=λv2 q=>(cond (q<(j.length:Int)) ((Ak j q).bind λz=>(aV v2 z).bind λI=>u I (Au (q+1))) (some v2))
def aPQ (j:AV):AV->Int->AL AV:=aQ (aJX j) Am
def a6j (q:AV)(j:AV):AL AV:=(aV q (j.length:Int)).bind λu=>aPQ j u 0
def aYj {WQ iV r}(h:a6j WQ iV=some r):E8 343 [.aS 0,Bf iV,.d (.fn (.func 122) [] [])] [(J4 WQ)] (.aS 1) [.dead,(J4 r)]:=Ec func343 rfl<|BM<|.f (CV 5 1)<|.aY<|AO h λq j h=>AP 2<|.p (BJ Ad iV)<|.Y (x:=.aS 2) (EK [.ent 0] [.aS 0,AX (iV.length:Int)] (a0M j))<|Aa<|AP 1<|.Z (BJ Ad iV)<|Aj<|DV (λq j=>⟨Az 25 [(0,.aS 1),(2,.d (.fn (.func 122) [] [])),(13,Bf iV),(14,AX (iV.length:Int)),(15,AX j)],[.dead,(J4 q)],1⟩) _ _ _ _ (Ae [(0,false),AU 2]) h<|λq j z I u h=>AZ<|Aa<|Bo h (λh=>Aa<|Aj<|AO h λq j h=>BM<|.Z (BD Ad j)<|AO h λj u h=>CU<|.a 3<|.f (x:=.aS 2) (aPZ [.ent 1] [] [] [.aS 1,AX q] (a0M u))<|aGg) λh=>CZ<|AZ<|sQ
def aA (q:AV)(j:AV):AL AV:=(Yh q (Au ((Au (2*(j.length:Int)))+10))).bind λu=>(a6j u j).bind λz=>some z
def ajd :=Gj func275 rfl aA Ik Bf J4 λq j r h=>BM<|.f (CV 5 1)<|.aY<|Bv h λI u J z h=>AP 2<|.p (BJ Ad j)<|.a 2<|.f (x:=.aS 1) (Jt [Ik q,AX (Au ((Au (2*(j.length:Int)))+10))] (yD u))<|.a 1<|.Y (x:=.aS 2) (EK [.ent 1] [.aS 1,Bf j,.d (.fn (.func 122) [] [])] (aYj z))<|MJ
def l9 (j:G9)(q:AV):AL G9:=(aA j.b_ q).bind λu=>some ({ j with b_:=u })
def af6 {acr iV r}(h:l9 acr iV=some r):E8 212 [.ptr 0 0,Bf iV] [.box (Ar (Na acr))] (.eP []) [.box (Ar (Na r))]:=Ec func212 rfl<|AO h λq j h=>CU<|.a 6<|.ca (ajd j).view<|.aN<|aC
abbrev QV:=AA (AA Int)
def aGJ (j:QV)(k3:(Int->G9->AL G9)):Int->G9->AL G9:=λq v2=>(cond (q<(j.length:Int)) ((Ak j q).bind λu=>(l9 v2 u).bind λz=>k3 (Au (q+1)) z) (some v2))
def aUk (j:QV):Int->G9->AL G9:=aQ (aGJ j) Am
def zL (j:G9)(q:QV):AL G9:=aUk q 0 j
def abN {uH iV r}(h:zL uH iV=some r):E8 211 [.fn (.func 212) [.ptr 0 0] [],.d ((BP (BP Ad)) iV)] [.box (Ar (Na uH))] (.eP []) [.box (Ar (Na r))]:=Ec func211 rfl<|AP 1<|.Z (BJ (BP Ad) iV)<|Aj<|DV (λq j=>⟨Az 16 [(0,.fn (.func 212) [.ptr 0 0] []),(6,.d ((BP (BP Ad)) iV)),(7,AX (iV.length:Int)),(8,AX q)],[.box (Ar (Na j))],1⟩) _ _ _ _ (Ae [AU 0]) h<|λq j z u I h=>AZ<|Aa<|Bo h (λh=>Aa<|Aj<|AO h λq j h=>BM<|.Z (BD (BP Ad) j)<|AO h λj u h=>CU<|.a 2<|.f (x:=.eP []) (iC [.ent 0] [.ptr 0 0] [] [Bf q] (af6 u))<|.nil<|Xp) λh=>CZ<|aC
def a0f (j:AQ):AL AV:=(VU aHv [j.Id]).bind λI=>(X9 I [j.Room,j.bU]).bind λJ=>(VU J [j.Kind]).bind λL=>(zT L [j.State]).bind λM=>(X9 M [j.Key]).bind λO=>(VU O [j.Time,j.Depth]).bind λU=>(zL U [j.bG,j.bI]).bind λY=>(qI j.Content).bind λZ=>(X9 Y [Tz Z]).bind λx9=>(VU x9 [j.Hash]).bind λq=>(X9 q [j.sF.Server]).bind λu=>(VU u [j.sF.Sum]).bind λz=>some z.b_
def adA :=Dc func132 rfl a0f DL Ik λj r h=>AZ<|AZ<|AO h λz u h=>AP 1<|.p (x:=.fn (.func 206) [.ptr 1 0] []) (Qu (fi:=[.ptr 1 0]) (ca:=[]) rfl rfl)<|.a 2<|.p (EG Dy zero3 [Ad j.Id])<|.f (x:=.eP []) (EK [.ent 1] [.fn (.func 206) [.ptr 1 0] [],Bf [j.Id]] (a0n u) (ha:=⟨⟨_,_,rfl,⟨⟨0,rfl,rfl⟩,trivial⟩,trivial⟩,.inl rfl,trivial⟩))<|.aY<|AO h λu q h=>AP 1<|.p (x:=.fn (.func 208) [.ptr 1 0] []) (Qu (fi:=[.ptr 1 0]) (ca:=[]) rfl rfl)<|.a 4<|.p (EG OM zero9 [DX j.Room,DX j.bU])<|.f (x:=.eP []) (EK [.ent 1] [.fn (.func 208) [.ptr 1 0] [],Ib [j.Room,j.bU]] (aA5 q) (ha:=⟨⟨_,_,rfl,⟨⟨0,rfl,rfl⟩,trivial⟩,trivial⟩,.inl rfl,trivial⟩))<|.aY<|AO h λz q h=>AP 1<|.p (x:=.fn (.func 206) [.ptr 1 0] []) (Qu (fi:=[.ptr 1 0]) (ca:=[]) rfl rfl)<|.a 2<|.p (EG Dy zero3 [Ad j.Kind])<|.f (x:=.eP []) (EK [.ent 1] [.fn (.func 206) [.ptr 1 0] [],Bf [j.Kind]] (a0n q) (ha:=⟨⟨_,_,rfl,⟨⟨0,rfl,rfl⟩,trivial⟩,trivial⟩,.inl rfl,trivial⟩))<|.aY<|AO h λu q h=>AP 1<|.p (x:=.fn (.func 210) [.ptr 1 0] []) (Qu (fi:=[.ptr 1 0]) (ca:=[]) rfl rfl)<|.a 2<|.p (EG aeP xW [E9 j.State])<|.f (x:=.eP []) (EK [.ent 1] [.fn (.func 210) [.ptr 1 0] [],.d ((BP E9) [j.State])] (ak2 q) (ha:=⟨⟨_,_,rfl,⟨⟨0,rfl,rfl⟩,trivial⟩,trivial⟩,.inl rfl,trivial⟩))<|.aY<|AO h λz q h=>AP 1<|.p (x:=.fn (.func 208) [.ptr 1 0] []) (Qu (fi:=[.ptr 1 0]) (ca:=[]) rfl rfl)<|.a 2<|.p (EG OM zero9 [DX j.Key])<|.f (x:=.eP []) (EK [.ent 1] [.fn (.func 208) [.ptr 1 0] [],Ib [j.Key]] (aA5 q) (ha:=⟨⟨_,_,rfl,⟨⟨0,rfl,rfl⟩,trivial⟩,trivial⟩,.inl rfl,trivial⟩))<|.aY<|AO h λu q h=>AP 1<|.p (x:=.fn (.func 206) [.ptr 1 0] []) (Qu (fi:=[.ptr 1 0]) (ca:=[]) rfl rfl)<|.a 4<|.p (EG Dy zero3 [Ad j.Time,Ad j.Depth])<|.f (x:=.eP []) (EK [.ent 1] [.fn (.func 206) [.ptr 1 0] [],Bf [j.Time,j.Depth]] (a0n q) (ha:=⟨⟨_,_,rfl,⟨⟨0,rfl,rfl⟩,trivial⟩,trivial⟩,.inl rfl,trivial⟩))<|.aY<|AO h λz q h=>AP 1<|.p (x:=.fn (.func 212) [.ptr 1 0] []) (Qu (fi:=[.ptr 1 0]) (ca:=[]) rfl rfl)<|.a 4<|.p (EG a4K pz [(BP Ad) j.bG,(BP Ad) j.bI])<|.f (x:=.eP []) (EK [.ent 1] [.fn (.func 212) [.ptr 1 0] [],.d ((BP (BP Ad)) [j.bG,j.bI])] (abN q) (ha:=⟨⟨_,_,rfl,⟨⟨0,rfl,rfl⟩,trivial⟩,trivial⟩,.inl rfl,trivial⟩))<|.aY<|Bv h λu q J I h=>AP 1<|.p (x:=.fn (.func 208) [.ptr 1 0] []) (Qu (fi:=[.ptr 1 0]) (ca:=[]) rfl rfl)<|.a 2<|.ca (aKy q)<|.p (aLM (l:=u) a5S a8M I4)<|.p (EG OM zero9 [DX (Tz u)])<|.f (x:=.eP []) (EK [.ent 1] [.fn (.func 208) [.ptr 1 0] [],Ib [Tz u]] (aA5 I) (ha:=⟨⟨_,_,rfl,⟨⟨0,rfl,rfl⟩,trivial⟩,trivial⟩,.inl rfl,trivial⟩))<|.aY<|AO h λz u h=>AP 1<|.p (x:=.fn (.func 206) [.ptr 1 0] []) (Qu (fi:=[.ptr 1 0]) (ca:=[]) rfl rfl)<|.a 2<|.p (EG Dy zero3 [Ad j.Hash])<|.f (x:=.eP []) (EK [.ent 1] [.fn (.func 206) [.ptr 1 0] [],Bf [j.Hash]] (a0n u) (ha:=⟨⟨_,_,rfl,⟨⟨0,rfl,rfl⟩,trivial⟩,trivial⟩,.inl rfl,trivial⟩))<|.aY<|AO h λu q h=>AP 1<|.p (x:=.fn (.func 208) [.ptr 1 0] []) (Qu (fi:=[.ptr 1 0]) (ca:=[]) rfl rfl)<|.a 3<|.p (EG OM zero9 [DX j.sF.Server])<|.f (x:=.eP []) (EK [.ent 1] [.fn (.func 208) [.ptr 1 0] [],Ib [j.sF.Server]] (aA5 q) (ha:=⟨⟨_,_,rfl,⟨⟨0,rfl,rfl⟩,trivial⟩,trivial⟩,.inl rfl,trivial⟩))<|.aY<|AO h λz q h=>AP 1<|.p (x:=.fn (.func 206) [.ptr 1 0] []) (Qu (fi:=[.ptr 1 0]) (ca:=[]) rfl rfl)<|.a 3<|.p (EG Dy zero3 [Ad j.sF.Sum])<|.f (x:=.eP []) (EK [.ent 1] [.fn (.func 206) [.ptr 1 0] [],Bf [j.sF.Sum]] (a0n q) (ha:=⟨⟨_,_,rfl,⟨⟨0,rfl,rfl⟩,trivial⟩,trivial⟩,.inl rfl,trivial⟩))<|.aY<|AZ<|CY
def a0Y (j:AQ):AL Int:=(eI j).bind λq=>(a0f ({ { q with Id:=0 }with sF:=jF })).bind λu=>(ug u).bind λz=>some z
def aSz :=Dc func58 rfl a0Y DL AX λq r h=>AZ<|AO h λu j h=>AP 1<|.X (aSy j)<|AZ<|Bv h λu j I z h=>AP 1<|.ca (adA j)<|.X (aQ4 z)<|CY
def og (j:BL):AL BL:=(qO j aAD).bind λq=>some q.2.1
def aKp :=Dc func57 rfl og D8 D8 λj r h=>AZ<|AO h λu q h=>AP 1<|.X (aLC q)<|AZ<|CY
def jr (j:AQ)(q:AY):AL Int:=(cond q (some 6) ((a0Y j).bind λu=>(cond (u != j.Id) (some 11) ((og j.bU).bind λz=>(cond (!a6x j.sF (⟨z,j.Id⟩:PZ)) (some 12) (some 0))))))
def a1i (j:AQ):AL Int:=(a8c j).bind λI=>(cond (I != 0) (some I) ((Td j).bind λq=>(cond (!q) ((pG j.Kind j.Content).bind λu=>(a4g j.Content u).bind λz=>jr j (!z)) (jr j false))))
def aWp :=Dc func74 rfl a1i DL AX λj r h=>AZ<|Aa<|AO h λq u h=>AP 1<|.X (ad3 u)<|AZ<|BA h CB λh=>Aa<|Aj<|Cm (λs=>∃(z:AY),CO s ⟨Az 40 [(1,.ptr 0 0),(9,Ag z)],[.box (Ar (Ap j))],0⟩/\jr j z=some r) (by rintro s ⟨z,hs,h⟩;exact D6 hs<|Df h CB λh=>AO h λq u h=>F6 A8 A8 A8 (.a 1<|.ca (aSz u)<|.a 4<|.nil _)<|Df h CB λh=>AO h λq u h=>F6 A8 A8 A8 (.a 4<|.ca (aKp u)<|.a 3<|.p (x:=(Ag (!a6x j.sF (⟨q,j.Id⟩:PZ)))) (jw [.string j.sF.Server,.int .i64 j.sF.Sum] [.string ((⟨q,j.Id⟩:PZ).Server),.int .i64 ((⟨q,j.Id⟩:PZ).Sum)] (afV j.sF (⟨q,j.Id⟩:PZ)) Bl aeV)<|.a 1<|.nil _)<|JW)<|λq=>AO h λu J h=>EX h (λI h=>Bv h λU L M O h=>DN A8 A8 A8 (.a 1<|.ca (yP J)<|.a 1<|.c (BF some I)<|.a 6<|.ca (aU4 L)<|.ca (amB O)<|.a 3<|.nil _)<|q _ ⟨(!M),Ae [AU 0],h⟩) λI h=>DN A8 A8 A8 (.a 1<|.ca (yP J)<|.a 1<|.c (BF some I)<|.a 11<|.nil _)<|q _ ⟨false,Ae [AU 0],h⟩
def wS (j:AQ):AL (AQ×Int):=(a1i j).bind λq=>(cond (q != 0) (some (Eo,q)) (some (j,0)))
def kM (j:AQ):AL (AQ×Int):=(Td j).bind λq=>(cond (!q) ((eI j).bind λu=>wS u) (wS j))
def aZZ :=Dc func63 rfl kM DL (λr=>.eP [DL r.1,AX r.2]) λj r h=>AZ<|Cm (λs=>∃(q:AQ),CO s ⟨Az 17 [(1,.ptr 0 0),(2,.ptr 1 0)],[.box (Ar (Ap q)),.box (Ar (Ap Eo))],0⟩/\wS q=some r) (by rintro s ⟨q,hs,h⟩;exact D6 hs<|Aa<|AO h λz u h=>AP 1<|.X (aWp u)<|AZ<|BA h (λh=>AZ<|Eb<|by rw[←CM h];exact⟨[DL Eo,AX z],[],⟨⟨1,Ar (Ap Eo),true,29,A8,A8,A8,Gg,DT A8,Ls,A8⟩,FU A8,trivial⟩,A8,A8,A8⟩) λh=>AZ<|Eb<|by rw[←CM h];exact⟨[DL q,AX 0],[],⟨⟨1,Ar (Ap q),true,29,A8,A8,A8,Gg,DT A8,Ls,A8⟩,FU A8,trivial⟩,A8,A8,A8⟩)<|λK4=>AO h λz u h=>AP 1<|.X (yP u)<|BA h (λh=>AO h λz u h=>CU<|.a 1<|.ca (aSy u)<|.aN<|K4 _ ⟨z,Ae [AU 0,AU 1],h⟩) λh=>K4 _ ⟨j,Ae [AU 0,AU 1],h⟩
abbrev Ah:=AA AQ
def wY (j:Ah)(q:(AQ->AL AY))(k2:(Int->AL Int)):Int->AL Int:=λu=>(cond (u<(j.length:Int)) ((Ak j u).bind λz=>(q z).bind λI=>(cond I (some u) (k2 (Au (u+1))))) (some (-1)))
def aEf (j:Ah)(q:(AQ->AL AY)):Int->AL Int:=bn (wY j q) Am
def WH (j:Ah)(q:(AQ->AL AY)):AL Int:=aEf j q 0
def xU q u j(z:U0 Aq Ap E9 j u)r(h:WH q u=some r):E8 172 [BI q,.d j] [] (AX r) []:=Ec func172 rfl<|AZ<|Aa<|AP 1<|.Z (BJ Ap q)<|Aj<|Dp (λI=>⟨Az 19 [(0,BI q),(1,.d j),(7,AX (q.length:Int)),(8,AX I)],[],0⟩) _ _ _ (Ae []) h<|λI J L M h=>AZ<|Aa<|Bo h (λh=>Aa<|Aj<|AZ<|Bv h λI J M O h=>AP 3<|.p (BD Ap J)<|.a 1<|.p (vC (d:=j) (z:U0 Aq Ap E9 j u) O)<|.aY<|BA h CB λh=>Cx<|L _ _ (Ae []) h) λh=>El
def a1b (j:AQ)(q:Int):AL AY:=some (j.Id==q)
def amb :=DW func217 rfl a1b DL (λj=>.d (.ref (Ad j).cells 0)) Ag λq j r h=>dF
def sU (q:Ah)(j:Int):AL Int:=(WH q (λa0=>a1b a0 j)).bind λu=>some u
def aMd :=DW func138 rfl sU BI AX AX λq j r h=>AZ<|AO h λu z h=>AP 1<|.conv _ (TK (cs:=Ar (Ad j)) 0 A8 A8)<|.p (x:=.d (.fn (.func 217) [] [(.ref (Ad j).cells 0)])) (Po [(.ref (Ad j).cells 0)] rfl)<|.X (xU q (λu=>a1b u j) (.fn (.func 217) [] [(.ref (Ad j).cells 0)]) ⟨217,[(.ref (Ad j).cells 0)],rfl,afr,λu z I=>amb I⟩ u z)<|CY
def ND (j:Ah)(q:Int):AL (AQ×AY):=(sU j q).bind λu=>(cond (u<0) (some (Eo,false)) ((Ak j u).bind λz=>some (z,true)))
def PU :=DW func64 rfl ND BI AX (λr=>.eP [DL r.1,Ag r.2]) λI j r h=>AZ<|AO h λq u h=>AP 2<|.X (aMd u)<|Aa<|AZ<|BA h (λh=>AZ<|Eb<|a9C) λh=>AO h λq u h=>AP 2<|.Z (BD Ap u)<|Eb<|a7u
def a1K (j:Ah):AL Ah:=(D5 376 [] j).bind λq=>some q
def ahm {nJ r}(h:a1K nJ=some r):E8 139 [BI nJ] [] (.aS 0) [(F8 r)]:=by
 refine Ec func139 rfl ?_;unfold a1K at h;refine BM<|.f (CV 38 29)<|.aY<|Aa<|ou (x:=.tmp 3) (t':=22) (d:=4) (es:=List.map Ap nJ) 1 rfl (.a 1<|.nil _) A8 A8 A8 Kv A8 ?_;intro b j;cases b
 ·clear j;refine Nu A8<|F9 ?_;obtain⟨u,q,h⟩:=Du h;refine BM<|.f (Ht IJ Md [])<|.a 1<|.f (Dk (k:=1) Ap q IJ A8 (λ_=>rfl) Bl)<|.aM 1 ?_;rw[←CM h];exact .ret (Ez [AU 2])
 replace j:=sJ j;replace h:some []=some r:=s0
 refine OG A8<|BM<|.f (CV 38 29)<|.aY ?_;rw[←CM h];exact .ret (Ez [AU 1])
def a7a (j:AA AQ)(q:Int)(u:AA AQ):AL Ah:=aAd j q u
def aiQ j q u r(h:a7a j q u=some r):E8 140 [.aS 0,AX q,.aS 1] [(F8 j),(F8 u)] (.aS 2) [.dead,.dead,(F8 r)]:=
 azy (λ_=>rfl) j q u r h
def a6F (j:Ah):AL (Ah×Int):=some (j,0)
def a1j (u:(Int->AL (Ah×Int)))(j:Int)(z:Ah)(q:AQ)(I:AY):AL (Ah×Int):=(cond I (u (Au (j+1))) ((a7a z j [q]).bind λJ=>some (J,0)))
def aGq (u:Ah)(z:Ah)(j:AQ)(I:(Int->AL (Ah×Int))):Int->AL (Ah×Int):=λq=>(cond (q<(u.length:Int)) ((Ak u q).bind λJ=>a1j I q z j (decide (J.Id<j.Id))) (a1j I q z j false))
def aDy (j:Ah)(u:Ah)(q:AQ):Int->AL (Ah×Int):=bn (aGq j u q) Am
def aGx (j:Ah)(q:AQ)(k2:(Int->AL (Ah×Int))):Int->AL (Ah×Int):=λI=>(bif I<(j.length:Int) then(Ak j I).bind λU=>(cond (!(U.Room.toList==q.Room.toList)) (some ([],13)) (k2 (Au (I+1))))else(sU j q.Id).bind λz=>(cond (z<0) (some (decide ((j.length:Int)>=2000))) (some false)).bind λY=>(cond Y (some ([],29)) ((a1K j).bind λu=>(cond (z>=0) ((Td q).bind λJ=>(cond J ((Ak j z).bind λL=>(Td L).bind λM=>some (!M)) (some false)).bind λO=>(cond O ((Ak u z).bind λZ=>a6F (u.set (z).toNat q)) (a6F u))) (aDy j u q 0)))))
def aNw (j:Ah)(q:AQ):Int->AL (Ah×Int):=bn (aGx j q) Am
def Vu (j:Ah)(q:AQ):AL (Ah×Int):=aNw j q 0
def aGm {cZ je r}(h:Vu cZ je=some r):E8 65 [BI cZ,DL je] [] (.eP [.aS 0,AX r.2]) [(F8 r.1)]:=Ec func65 rfl<|AP 1<|.Y (CV 38 29)<|Aa<|AP 1<|.Z (BJ Ap cZ)<|Aj<|Dp (λq=>⟨Az 73 [(0,BI cZ),(3,.ptr 0 0),(10,BI cZ),(11,AX (cZ.length:Int)),(12,AX q)],[.box (Ar (Ap je))],0⟩) _ _ _ (Ae [AU 0]) h<|λq j u I h=>AZ<|Aa<|Bo h (λh=>Aa<|Aj<|AO h λq j h=>BM<|.Z (BD Ap j)<|AZ<|BA h (λh=>BM<|.Y (CV 38 29)<|MJ) λh=>Cx<|u _ _ (Ae [AU 0]) h) λh=>CZ<|AO h λq j h=>AP 3<|.X (aMd j)<|Aa<|AP 2<|AO h λj u h=>.mg 28 4 (Ag j) (.bi u (λh=>.a 1<|.Z (BJ Ap cZ)<|Cc))<|.aY<|BA h (λh=>BM<|.Y (CV 38 29)<|Jm) λh=>AO h λj u h=>AP 1<|.Y (x:=.aS 1) (Jt [BI cZ] (ahm u))<|Aa<|AZ<|BA h (λh=>Cm (λs=>∃(J:(AA AQ)),CO s ⟨Az 73 [(9,.aS 0)],[(F8 J)],0⟩/\a6F J=some r) aKQ<|λu=>AO h λI z h=>AP 1<|.ca (yP z)<|.a 1<|AO h λI z h=>.mg 40 6 (Ag I) (DC z (λe i=>by subst e;have h:=i;exact Bv h λq j u I h=>.a 2<|.p (BD Ap j)<|.a 1<|.X (yP I)<|Cc))<|.aY<|BA h (λh=>AO h λI z h=>CU<|.a 3<|.p (IC (e':=38) (kd:=.i64) Ap z (k:=1) A8 Kv Gg)<|.f (V5 (e:=38) (size:=29) (v:=(DL je)) (k:=1) (i:=(q).toNat) (off:=0) (a':=je) Ap A8 (Gl z).2 A8 (Gg).size A8 (DT A8) A8 (λ_=>rfl))<|.nil<|u _ ⟨(j.set (q).toNat je),Ae [AU 1],h⟩) λh=>u _ ⟨j,Ae [AU 1],h⟩) λh=>AZ<|Aa<|Aj<|Dp (λq=>⟨Az 73 [(0,BI cZ),(3,.ptr 0 0),(8,AX q),(9,.aS 1)],[.box (Ar (Ap je)),(F8 j)],0⟩) _ _ _ (Ae [AU 0,AU 1]) h<|λq u I z h=>Aa<|Cm (λs=>∃(L:AY),CO s ⟨Az 73 [(0,BI cZ),(3,.ptr 0 0),(8,AX z),(9,.aS 1),(65,Ag L)],[.box (Ar (Ap je)),(F8 j)],0⟩/\a1j u z j je L=some r) (by rintro s ⟨L,hs,h⟩;exact D6 hs<|Bo h (λh=>Aj<|aJN) λh=>CZ<|AO h λq u h=>AP 3<|.f (Ht IJ Md [Ap je])<|.Y (x:=.aS 3) (EK [.ent 1,.ent 2] [.aS 1,AX z,.aS 2] (aiQ j z [je] q u) (hE:=(O1 A8<|O1 A8<|trivial)))<|iP)<|λq=>EX h (λj h=>AO h λu I h=>DN A8 A8 A8 (.a 2<|.p (BJ Ap cZ)<|.a 1<|.c (BF some j)<|.a 2<|.p (BD Ap I)<|.a 6<|.nil _)<|q _ ⟨(decide (u.Id<je.Id)),Ae [AU 0,AU 1],h⟩) λj h=>DN A8 A8 A8 (.a 2<|.p (BJ Ap cZ)<|.a 1<|.c (BF some j)<|.a 9<|.nil _)<|q _ ⟨false,Ae [AU 0,AU 1],h⟩
def kT (v2:AV)(j:(Int×AY)):AL AV:=(D5 8 v2 [j.1]).bind λq=>some q
def yJ (v2:AV):AL AV:=(PS v2).bind λj=>some j
def ZI (j:(AA (Int×AY))):AL AV:=(Jg 8 0 0 (j.length:Int)).bind λq=>(List.foldlM kT q j).bind yJ
def aSW {Us r}(h:ZI Us=some r):E8 184 [.mp 0] [.map (List.map (CS D7 E9) Us)] (.aS 1) [.dead,(Cb r)]:=by
 refine Ec func184 rfl ?_;unfold ZI at h;refine BM<|.f (CV 3 1)<|.aY ?_;obtain⟨x1,I,h⟩:=Du h;refine AP 1<|.p (x:=(AX (Us.length:Int))) (aRT (k:=0) (es0:=List.map (CS D7 E9) Us) (DY ..) Rf A8)<|.Y (ZV Ad 0 I Dy zero3 A8 A8 A8 Bl)<|Aa<|AP 1<|.f (x:=.ptr 3 0) (aQC (k:=0) (m:=List.map (CS D7 E9) Us) Rf A8)<|.aY<|Aj<|Bq.aBg (λj v2=>⟨Az 21 [(3,.aS 1),(9,.ptr 2 0)],[.dead,(Cb v2),.iter (List.map (CS D7 E9) Us) j],1⟩) Us kT yJ r x1 (Ae [(0,false),AU 2,AU 3]) ?_ ?_
 ·intro vis L M;exact aRd (c:=λ_=>true) (aU8 _ vis L M) (λx y O=>by unfold yJ;rw[aN5 O]) h
 clear h;intro J j v2 u q;refine BM<|?_;refine Dn.next (ty:=false) (ek:=D7) (ev:=E9) 2 Us j A8 rfl A8 A8 ?_ ?_
 ·intro hc;have h:=u hc;unfold yJ at h;refine .aW<|Aa<|Nu A8<|CZ ?_;obtain⟨x6,U,h⟩:=Du h;refine AP 1<|.f (x:=.eP []) (EK [.ent 1] [.aS 1] (uK v2 x6 U))<|.aY<|BM<|.aM 2 ?_;rw[←CM h];exact .ret (Ez [(0,false),AU 1])
 intro Z z hp hi;obtain⟨r,h,hJ⟩:=q Z z hp hi;unfold kT at h;refine .aW<|Aa<|OG A8<|F9<|Aj<|BM<|.p (x:=.eP [AX z.1,Ag z.2]) (aND (n:=2) (i:=Z) (ek:=D7) (ev:=E9) (m:=Us) (vis:=j) hp A8)<|.aM 2 ?_;obtain⟨x7,Y,h⟩:=Du h;refine CU<|.a 2<|.p (EG Dy zero3 [Ad z.1])<|.f (Dk (k:=1) Ad Y Dy A8 (λ_=>rfl) Bl)<|.a 1<|.nil ?_;obtain rfl:=CM h;exact hJ _ (Ae [(0,false),AU 3,AU 2])
def a3P (j:Ah)(J:(Int->(AA (Int×AY))->AL AV)):Int->(AA (Int×AY))->AL AV:=λq I=>(bif q<(j.length:Int) then(Ak j q).bind λu=>J (Au (q+1)) (Lm I u.Id)else(ZI I).bind λz=>some z)
def a9x (j:Ah):Int->(AA (Int×AY))->AL AV:=aQ (a3P j) Am
def a4c (j:AV)(q:Ah)(k3:(Int->(AA (Int×AY))->AL AV)):Int->(AA (Int×AY))->AL AV:=λu v2=>(cond (u<(j.length:Int)) ((Ak j u).bind λz=>k3 (Au (u+1)) (EM v2 z true)) (a9x q 0 v2))
def aS7 (j:AV)(q:Ah):Int->(AA (Int×AY))->AL AV:=aQ (a4c j q) Am
def eY (q:Ah)(j:AV):AL AV:=aS7 j q 0 []
def aAW :=Gj func109 rfl eY BI Bf Cb λq j r h=>BM<|.f (CV 3 1)<|.aY<|AP 1<|.p (BJ Ad j)<|.Y (x:=.mp 1) (aO3 (kd:=.i64) (n:=(j.length:Int)) Rf)<|Aa<|AP 1<|.Z (BJ Ad j)<|Aj<|DV (λz u=>⟨Az 34 [(0,BI q),(5,.mp 0),(13,Bf j),(14,AX (j.length:Int)),(15,AX z)],[.map (List.map (CS D7 E9) u)],0⟩) _ _ _ _ (Ae [AU 1]) h<|λz u I L J h=>AZ<|Aa<|Bo h (λh=>Aa<|Aj<|AO h λz u h=>BM<|.Z (BD Ad u)<|CU<|.a 2<|.f (YB (k:=0) (key:=z) (val:=true) (m:=J) E9 Rf IE A8)<|.nil<|Tj) λh=>CZ<|Aa<|AP 1<|.Z (BJ Ap q)<|Aj<|DV (λz u=>⟨Az 34 [(5,.mp 0),(22,BI q),(23,AX (q.length:Int)),(24,AX z)],[.map (List.map (CS D7 E9) u)],0⟩) _ _ _ _ (Ae [AU 0]) h<|λz u I L J h=>AZ<|Aa<|Bo h (λh=>Aa<|Aj<|AO h λz u h=>BM<|.Z (BD Ap u)<|CU<|.a 3<|.f (aiE (k:=0) (key:=z.Id) (m:=J) E9 Rf IE A8)<|.nil<|Tj) λh=>CZ<|AO h λz u h=>AP 1<|.Y (x:=.aS 1) (EK [.ent 0] [.mp 0] (aSW u))<|Jm
def jP (j:Ah)(q:AQ):AL AY:=(eY j q.bG).bind λu=>(cond ((u.length:Int)==0) ((eY j q.bI).bind λz=>some ((z.length:Int)==0)) (some false)).bind λI=>some I
def aIz :=DW func66 rfl jP BI DL Ag λu z r h=>AZ<|AO h λj q h=>AP 3<|.ca (aAW q).view<|.p (BJ Ad j)<|.a 1<|AO h λj q h=>.mg 11 7 (Ag j) (.bi q (λh=>AO h λj q h=>.a 3<|.ca (aAW q).view<|.Z (BJ Ad j)<|Cc))<|.aW<|CY
def aT4 (j:Ah)(k3:(Int->(AA (Int×Int))->AL (AA (Int×Int)))):Int->(AA (Int×Int))->AL (AA (Int×Int)):=λq v2=>(cond (q>=0) ((Ak j q).bind λu=>k3 (Au (q-1)) (EM v2 u.Id q)) (some v2))
def aWy (j:Ah):Int->(AA (Int×Int))->AL (AA (Int×Int)):=aQ (aT4 j) Am
def ZK (j:Ah):AL (AA (Int×Int)):=aWy j (Au ((j.length:Int)-1)) []
def wR {cZ r}(h:ZK cZ=some r):E8 169 [BI cZ] [] (.mp 0) [.map (List.map (CS D7 Ad) r)]:=Ec func169 rfl<|AZ<|AP 1<|.p (BJ Ap cZ)<|.Y (x:=.mp 0) (aO3 (kd:=.i64) (n:=(cZ.length:Int)) Py)<|Aa<|AP 1<|.Z (BJ Ap cZ)<|Aj<|DV (λj q=>⟨Az 23 [(0,BI cZ),(3,.mp 0),(4,AX j)],[.map (List.map (CS D7 Ad) q)],0⟩) _ _ _ _ (Ae [AU 0]) h<|λj q u z I h=>Aa<|AZ<|Bo h (λh=>Aa<|Aj<|AO h λj q h=>CU<|.a 3<|.p (BD Ap q)<|.a 3<|.f (YB (k:=0) (key:=j.Id) (val:=z) (m:=I) Ad Py IE A8)<|.nil<|a0c) λh=>JC
def aFV (j:AV)(q:(AA (Int×Int)))(k2:(Int->AL AY)):Int->AL AY:=λu=>(cond (u<(j.length:Int)) ((Ak j u).bind λz=>(cond (!((DF q z).isSome)) (some false) (k2 (Au (u+1))))) (some true))
def aLE (j:AV)(q:(AA (Int×Int))):Int->AL AY:=bn (aFV j q) Am
def a0I (j:AV)(q:(AA (Int×Int))):AL AY:=aLE j q 0
def aS9 {ahn aiX r}(h:a0I ahn aiX=some r):E8 255 [Bf ahn,.ptr 0 0] [.box [.mp 1],.map (List.map (CS D7 Ad) aiX)] (Ag r) [.box [.mp 1],.map (List.map (CS D7 Ad) aiX)]:=Ec func255 rfl<|AZ<|Aa<|AP 1<|.Z (BJ Ad ahn)<|Aj<|Dp (λj=>⟨Az 23 [(1,.ptr 0 0),(8,Bf ahn),(9,AX (ahn.length:Int)),(10,AX j)],[.box [.mp 1],.map (List.map (CS D7 Ad) aiX)],2⟩) _ _ _ (Ae [AU 0,AU 1]) h<|λj q u z h=>AZ<|Aa<|Bo h (λh=>Aa<|Aj<|AO h λj q h=>BM<|.Z (BD Ad q)<|AP 2<|.Z (x:=.eP [AX ((DF aiX j).getD 0),Ag ((DF aiX j).isSome)]) (sB (k:=1) (key:=j) (m:=aiX) Ad 0 Py IE zero3 A8 A8 A8)<|AZ<|BA h (λh=>AZ<|aH3) λh=>Cx<|u _ _ (Ae [AU 0,AU 1]) h) λh=>CZ<|AZ<|aH3
def aKK (j:Ah)(I:(Int->(AA (Int×Int))->AL AY)):Int->(AA (Int×Int))->AL AY:=λv2 q=>(cond (v2<(j.length:Int)) ((Ak j v2).bind λJ=>(a0I J.bG q).bind λL=>(cond (!L) (some true) ((Ak j v2).bind λu=>(a0I u.bI q).bind λz=>some (!z))).bind λM=>(cond M (some false) (I (Au (v2+1)) q))) (some true))
def aTF (j:Ah):Int->(AA (Int×Int))->AL AY:=aQ (aKK j) Am
def aA6 (j:Ah):AL AY:=(ZK j).bind λq=>aTF j 0 q
def adN :=Dc func168 rfl aA6 BI Ag λj r h=>AZ<|AO h λu q h=>AP 1<|.Y (x:=.mp 0) (EK [] [BI j] (wR q))<|BM<|.Z (x:=.fn (.func 255) [] [.ptr 1 0]) (Qu (fi:=[]) (ca:=[.ptr 1 0]) rfl rfl)<|Aa<|AP 1<|.Z (BJ Ap j)<|Aj<|DV (λu q=>⟨Az 33 [(0,BI j),(4,.fn (.func 255) [] [.ptr 0 0]),(10,AX (j.length:Int)),(11,AX u)],[.box [.mp 1],.map (List.map (CS D7 Ad) q)],0⟩) _ _ _ _ (Ae [AU 1,AU 0]) h<|λu q I z L h=>AZ<|Aa<|Bo h (λh=>Aa<|Aj<|AZ<|Bv h λu q z J h=>AP 3<|.p (BD Ap q)<|.a 2<|.f (x:=(Ag z)) (iC [.ent 0,.ent 1] [] [.ptr 0 0] [Bf u.bG] (aS9 J) (hE:=(O1 A8<|O1 A8<|trivial)))<|.a 1<|AO h λu q h=>.mg 22 9 (Ag u) (.bi q (k2:=λh=>Bv h λu q I z h=>.a 3<|.p (BD Ap q)<|.a 2<|.Y (x:=(Ag I)) (iC [.ent 0,.ent 1] [] [.ptr 0 0] [Bf u.bI] (aS9 z) (hE:=(O1 A8<|O1 A8<|trivial)))<|Cc))<|.aY<|BA h CB λh=>aGf) λh=>El
def aBM (j:AQ)(I:Ah)(q:(AA (Int×Int)))(J:(Int->Int->AL (AY×(AA (Int×Int))))):Int->Int->AL (AY×(AA (Int×Int))):=λu z=>(bif z<(j.bG.length:Int) then(Ak j.bG z).bind λL=>(Ak I ((DF q L).getD 0)).bind λM=>J (Y1 u M.Depth) (Au (z+1))else(cond (j.Depth>u) (some ((Au (j.Depth-u))==1)) (some false)).bind λO=>some (O,q))
def aLW (q:AQ)(u:Ah)(j:(AA (Int×Int))):Int->Int->AL (AY×(AA (Int×Int))):=aQ (aBM q u j) Am
def aIg (j:AQ)(u:Ah)(q:(AA (Int×Int)))(k2:(Int->AL (AY×(AA (Int×Int))))):Int->AL (AY×(AA (Int×Int))):=λz=>(cond (z<(j.bI.length:Int)) ((Ak j.bI z).bind λI=>(Ak u ((DF q I).getD 0)).bind λJ=>(cond (J.Depth>=j.Depth) (some (false,q)) (k2 (Au (z+1))))) (cond ((j.bG.length:Int)==0) (some ((j.Depth==1),q)) ((Ak j.bG 0).bind λL=>(Ak u ((DF q L).getD 0)).bind λM=>aLW j u q M.Depth 0)))
def aQs (q:AQ)(u:Ah)(j:(AA (Int×Int))):Int->AL (AY×(AA (Int×Int))):=bn (aIg q u j) Am
def a9f (q:Ah)(j:(AA (Int×Int)))(u:AQ):AL (AY×(AA (Int×Int))):=aQs u q j 0
def acp {cZ X0 jL r}(h:a9f cZ X0 jL=some r):E8 170 [BI cZ,.mp 0,DL jL] [.map (List.map (CS D7 Ad) X0)] (Ag r.1) [.map (List.map (CS D7 Ad) r.2)]:=Ec func170 rfl<|AZ<|Aa<|AP 2<|.Z (BJ Ad jL.bI)<|Aj<|Dp (λj=>⟨Az 75 [(0,BI cZ),(1,.mp 0),(5,.ptr 1 0),(13,Bf jL.bI),(14,AX (jL.bI.length:Int)),(15,AX j)],[.map (List.map (CS D7 Ad) X0),.box (Ar (Ap jL))],1⟩) _ _ _ (Ae [AU 0,AU 1]) h<|λj q z u h=>AZ<|Aa<|Bo h (λh=>Aa<|Aj<|AO h λj q h=>BM<|.Z (BD Ad q)<|AO h λq u h=>F6 A8 A8 A8 (.a 3<|.p (x:=(AX ((DF X0 j).getD 0))) (dn (k:=0) (key:=j) (m:=X0) Ad 0 Py IE zero3 A8 A8 A8)<|.p (BD Ap u)<|.a 5<|.nil _)<|BA h ni λh=>Cx<|z _ _ (Ae [AU 0,AU 1]) h) λh=>CZ<|Aa<|AP 2<|.Z (BJ Ad jL.bG)<|BA h ni λh=>Bv h λj q z u h=>AP 4<|.p (BD Ad q)<|.a 1<|.p (x:=(AX ((DF X0 j).getD 0))) (dn (k:=0) (key:=j) (m:=X0) Ad 0 Py IE zero3 A8 A8 A8)<|.Z (BD Ap u)<|Aa<|AP 2<|.Z (BJ Ad jL.bG)<|Aj<|DV (λj q=>⟨Az 75 [(0,BI cZ),(1,.mp 0),(5,.ptr 1 0),(9,AX j),(48,Bf jL.bG),(49,AX (jL.bG.length:Int)),(50,AX q)],[.map (List.map (CS D7 Ad) X0),.box (Ar (Ap jL))],1⟩) _ _ _ _ (Ae [AU 0,AU 1]) h<|λj q z u I h=>AZ<|Aa<|Bo h (λh=>Aa<|Aj<|AO h λj q h=>BM<|.Z (BD Ad q)<|AO h λq I h=>CU<|.a 4<|.p (x:=(AX ((DF X0 j).getD 0))) (dn (k:=0) (key:=j) (m:=X0) Ad 0 Py IE zero3 A8 A8 A8)<|.p (BD Ap I)<|.a 2<|.p (x:=(AX (Y1 u q.Depth))) ac5<|.aN<|aEr) λh=>CZ<|AP 4<|AO h λj q h=>.mg 68 6 (Ag j) (.bi q)<|.aW<|UA
def aHa (j:Ah)(z:(Int->(AA (Int×Int))->AL Int)):Int->(AA (Int×Int))->AL Int:=λq I=>(cond (q<(j.length:Int)) ((Ak j q).bind λJ=>(a9f j I J).bind λu=>(cond (!u.1) (some 15) (z (Au (q+1)) u.2))) (some 0))
def aW1 (j:Ah):Int->(AA (Int×Int))->AL Int:=aQ (aHa j) Am
def Zq (j:Ah):AL Int:=(aA6 j).bind λq=>(cond (!q) (some 14) ((ZK j).bind λu=>aW1 j 0 u))
def aCf :=Dc func91 rfl Zq BI AX λj r h=>AZ<|Aa<|AO h λu q h=>AP 1<|.X (adN q)<|BA h CB λh=>AO h λu q h=>AP 1<|.Y (x:=.mp 0) (EK [] [BI j] (wR q))<|Aa<|AP 1<|.Z (BJ Ap j)<|Aj<|DV (λu q=>⟨Az 24 [(0,BI j),(3,.mp 0),(11,AX (j.length:Int)),(12,AX u)],[.map (List.map (CS D7 Ad) q)],0⟩) _ _ _ _ (Ae [AU 0]) h<|λu q I z L h=>AZ<|Aa<|Bo h (λh=>Aa<|Aj<|AZ<|Bv h λu q z J h=>AP 4<|.p (BD Ap q)<|.a 1<|.Y (x:=(Ag z.1)) (EK [.ent 0] [BI j,.mp 0,DL u] (acp J))<|BA h CB λh=>Tj) λh=>El
def a2k (j:Ah)(u:(Int->AL Int)):Int->AL Int:=λq=>(cond (q<(j.length:Int)) ((Ak j q).bind λz=>(Ak j (Au (q-1))).bind λI=>(cond (z.Id<=I.Id) (some 8) (u (Au (q+1))))) (some 0))
def a3c (j:Ah):Int->AL Int:=bn (a2k j) Am
def Ze (j:Ah)(I:(Int->AL Int)):Int->AL Int:=λq=>(cond (q<(j.length:Int)) ((Ak j q).bind λu=>(Ak j 0).bind λz=>(cond (!(u.Room.toList==z.Room.toList)) (some 13) (I (Au (q+1))))) (a3c j 1))
def zs (j:Ah):Int->AL Int:=bn (Ze j) Am
def vG (j:Ah)(k3:(Int->AL Int)):Int->AL Int:=λv2=>(cond (v2<(j.length:Int)) ((Ak j v2).bind λu=>(a1i u).bind λq=>(cond (q != 0) (some q) (k3 (Au (v2+1))))) (zs j 0))
def aCT (j:Ah):Int->AL Int:=bn (vG j) Am
def Nk (j:Ah):AL Int:=(cond ((j.length:Int)>2000) (some 7) (aCT j 0))
def aVg :=Dc func167 rfl Nk BI AX λj r h=>AZ<|Aa<|AP 1<|.Z (BJ Ap j)<|BA h CB λh=>Aa<|AP 1<|.Z (BJ Ap j)<|Aj<|Dp (λq=>⟨Az 56 [(0,BI j),(12,BI j),(13,AX (j.length:Int)),(14,AX q)],[],0⟩) _ _ _ (Ae []) h<|λq u z I h=>AZ<|Aa<|Bo h (λh=>Aa<|Aj<|AO h λq u h=>BM<|.Z (BD Ap u)<|AO h λu I h=>AP 1<|.ca (aWp I)<|aEo) λh=>CZ<|Aa<|AP 1<|.Z (BJ Ap j)<|Aj<|Dp (λq=>⟨Az 56 [(0,BI j),(24,BI j),(25,AX (j.length:Int)),(26,AX q)],[],0⟩) _ _ _ (Ae []) h<|λq u z I h=>AZ<|Aa<|Bo h (λh=>Aa<|Aj<|AO h λq u h=>BM<|.Z (BD Ap u)<|AO h λq u h=>F6 A8 A8 A8 (.a 3<|.p (BD Ap u)<|.a 3<|.nil _)<|BA h CB λh=>VY) λh=>CZ<|Aa<|AZ<|Aj<|Dp (λq=>⟨Az 56 [(0,BI j),(8,AX q)],[],0⟩) _ _ _ (Ae []) h<|λq u z I h=>Aa<|AP 2<|.Z (BJ Ap j)<|Bo h (λh=>Aa<|Aj<|Bv h λq u I J h=>F6 A8 A8 A8 (.a 2<|.p (BD Ap u)<|.a 5<|.p (BD Ap J)<|.a 3<|.nil _)<|BA h CB λh=>VY) λh=>El
abbrev QM:=AA UE
def a0o (j:(QM->Int->AL AV))(q:Int)(u:QM):AL AV:=j u (Au (q+1))
def zx (M:(QM->Int->AL AV))(O:Int)(I:(Int->QM->AL AV)):Int->QM->AL AV:=λj q=>(cond (j>0) ((Ak q (Au (j-1))).bind λz=>(Ak q j).bind λu=>(cond (z.ql<u.ql) (some true) ((cond (z.ql==u.ql) (some (decide (z.nY<=u.nY))) (some false)).bind λJ=>some J)).bind λL=>(cond L (a0o M O q) ((Ak q (Au (j-1))).bind λU=>(Ak (q.set (Au (j-1)).toNat u) j).bind λY=>I (Au (j-1)) ((q.set (Au (j-1)).toNat u).set (j).toNat z)))) (a0o M O q))
def aUy (j:(QM->Int->AL AV))(q:Int):Int->QM->AL AV:=aQ (zx j q) Am
def aBF (v2:QM)(z:(Int->AV->QM->AL AV)):Int->AV->QM->AL AV:=λj q u=>(cond (j<(v2.length:Int)) ((Ak u j).bind λI=>(Ak q j).bind λJ=>z (Au (j+1)) (q.set (j).toNat I.nY) u) (some q))
def aWi (v2:QM):Int->AV->QM->AL AV:=iG (aBF v2) Am
def aCV (j:Ah)(I:(QM->Int->AL AV)):QM->Int->AL AV:=λv2 u=>(cond (u<(j.length:Int)) ((Ak j u).bind λJ=>(Ak j u).bind λL=>(D5 16 v2 [(⟨J.Depth,L.Id⟩:UE)]).bind λq=>aUy I u (Au ((q.length:Int)-1)) q) ((Jg 8 0 (v2.length:Int) (v2.length:Int)).bind λz=>aWi v2 0 z v2))
def aQc (j:Ah):QM->Int->AL AV:=aQ (aCV j) Am
def a6I (j:Ah):AL AV:=(Jg 16 a7B 0 (j.length:Int)).bind λq=>aQc j q 0
def amI :=LX func179 rfl a6I BI Cb λj r h=>BM<|.f (CV 3 1)<|.aY<|AO h λz q h=>AP 1<|.p (BJ Ap j)<|.Y (ZV Kz a7B q aDu a6B A8 A8 A8 Bl)<|Aa<|AP 1<|.Z (BJ Ap j)<|Aj<|DV (λz v3=>⟨Az 95 [(0,BI j),(3,.aS 0),(15,AX (j.length:Int)),(16,AX v3)],[(YG z)],0⟩) _ _ _ _ (Ae [AU 1]) h<|λz q J M v3 h=>AZ<|Aa<|Bo h (λh=>Cm (λs=>∃(v6:(AA UE)),CO s ⟨Az 95 [(0,BI j),(3,.aS 0),(15,AX (j.length:Int)),(16,AX v3)],[(YG v6)],0⟩/\a0o q v3 v6=some r) (by rintro s ⟨v6,hs,h⟩;exact D6 hs<|qK)<|λz=>Aj<|AZ<|Hq h λq J M x5 x6 x7 h=>F6 A8 A8 A8 (.a 3<|.p (BD Ap J)<|.a 4<|.p (BD Ap x5)<|.a 3<|.p (EG aDu a6B [Kz (⟨q.Depth,M.Id⟩:UE)])<|.f (Dk (k:=0) Kz x7 aDu A8 (λ_=>rfl) Bl)<|.a 1<|.nil _)<|AP 1<|.Z (Kt (k:=1) (e':=251) (s:=2) Kz x6 A8 Y2)<|Aj<|DV (λI u=>⟨Az 95 [(0,BI j),(3,.aS 0),(5,AX I),(15,AX (j.length:Int)),(16,AX v3)],[(YG u)],0⟩) _ _ _ _ (Ae [AU 1]) h<|λq J M I u h=>Aa<|AZ<|Bo h (λh=>Aa<|Aj<|Bv h λO q U J h=>Bq.axc [a1Y 3 (Go.Op.indexAddr 249 (Go.Operand.tmp 40) (Go.Operand.tmp 42)) 0 (YG u) (λo es L Z=>IC (e':=251) (kd:=.i64) Kz q (k:=0) bY Y2 VB Z),a1Y (x:=.d (Kz O)) 4 (Go.Op.load 251 (Go.Operand.tmp 43)) 0 (YG u) (λo es L Z=>KC (e:=251) (size:=2) (k:=0) (i:=(Au (I-1)).toNat) (off:=0) Kz bY bY (Gl q).2 VB (DT bY) WY Z),a1Y 7 (Go.Op.indexAddr 249 (Go.Operand.tmp 45) (Go.Operand.tmp 46)) 0 (YG u) (λo es L Z=>IC (e':=251) (kd:=.i64) Kz J (k:=0) bY Y2 VB Z),a1Y (x:=.d (Kz U)) 8 (Go.Op.load 251 (Go.Operand.tmp 47)) 0 (YG u) (λo es L Z=>KC (e:=251) (size:=2) (k:=0) (i:=(I).toNat) (off:=0) Kz bY bY (Gl J).2 VB (DT bY) WY Z)] [252,253] ⟨Az 95 [(0,BI j),(3,.aS 0),(5,AX I),(6,.ptr 1 0),(7,.ptr 2 0),(15,AX (j.length:Int)),(16,AX v3)],[(YG u),.box (Ar (Kz O)),.box (Ar (Kz U))],0⟩ ⟨oU (Ae [AU 0,AU 1,AU 2]),oU (Ae [AU 0,AU 2,AU 1]),trivial⟩<|Aa<|AP 5<|AO h λx17 aM0 h=>.mg 54 13 (Ag x17) (.bi aM0 (k2:=λh=>.a 5<|AO h λz q h=>.mg 60 6 (Ag z) (.bi q)<|.aW<|Cc))<|.aY<|BA h (λh=>CZ<|z _ ⟨u,Ae [AU 0],h⟩) λh=>Bv h λz q J x5 h=>Bq.aHD [3,4,6] (.a 7<|.p (IC (e':=251) (kd:=.i64) Kz q (k:=0) A8 Y2 VB)<|.f (V5 (e:=251) (size:=2) (v:=.d (Kz U)) (k:=0) (i:=(Au (I-1)).toNat) (off:=0) (a':=U) Kz A8 (Gl q).2 A8 (VB).size A8 (DT A8) A8 (λ_=>rfl))<|.p (IC (e':=251) (kd:=.i64) Kz x5 (k:=0) A8 Y2 VB)<|.f (V5 (e:=251) (size:=2) (v:=.d (Kz O)) (k:=0) (i:=(I).toNat) (off:=0) (a':=O) Kz A8 (Gl x5).2 A8 (VB).size A8 (DT A8) A8 (λ_=>rfl))<|.nil _)<|Cx<|M _ _ _ (Ae [AU 0]) h) λh=>CZ<|z _ ⟨u,Ae [AU 0],h⟩) λh=>CZ<|AO h λz q h=>AP 1<|.p (Kt (k:=0) (e':=251) (s:=2) Kz M A8 Y2)<|.Y (ZV Ad 0 q Dy zero3 A8 A8 A8 Bl)<|Aa<|AP 1<|.Z (Kt (k:=0) (e':=251) (s:=2) Kz M A8 Y2)<|Aj<|QY (λz q J=>⟨Az 95 [(8,.aS 0),(81,.aS 1),(82,AX (M.length:Int)),(83,AX z)],[(Cb q),(YG J)],0⟩) _ _ _ _ _ (Ae [AU 1,AU 0]) h<|λz q J M x5 x6 h=>AZ<|Aa<|Bo h (λh=>Aa<|Aj<|AO h λz q h=>AP 1<|.p (IC (e':=251) (kd:=.i64) Kz q (k:=1) A8 Y2 VB)<|.Z (x:=.d (Kz z)) (KC (e:=251) (size:=2) (k:=1) (i:=(M).toNat) (off:=0) Kz A8 A8 (Gl q).2 VB (DT A8) WY rfl)<|AO h λx32 Y h=>CU<|.a 4<|.p (IC (e':=3) (kd:=.i64) Ad Y (k:=0) A8 Jc Ey)<|.f (V5 (e:=3) (size:=1) (v:=(AX z.nY)) (k:=0) (i:=(M).toNat) (off:=0) (a':=z.nY) Ad A8 (Gl Y).2 A8 (Ey).size A8 (DT A8) A8 (λ_=>rfl))<|.nil<|Cx<|J _ _ _ _ (Ae [AU 0,AU 1]) h) λh=>JC
abbrev BR:=AA BK
def xA (j:BR):AL BR:=some j
def aNV :=Dc func229 rfl xA Dh (λr=>.d (.fn (.func 288) [] [(.ref ((BP BO) r).cells 0)])) λj r h=>AZ<|BM<|.conv _ (TK (cs:=Ar ((BP BO) j)) 0 A8 A8)<|.Z (x:=.d (.fn (.func 288) [] [(.ref ((BP BO) j).cells 0)])) (Po [(.ref ((BP BO) j).cells 0)] rfl)<|CY
def a81 (q:BR)(j:(BK->AL AY))(u:(BK->AL AY))(k2:(Int->AL (Int×AY))):Int->AL (Int×AY):=λz=>(cond (z<(q.length:Int)) ((Ak q z).bind λL=>(j L).bind λM=>some M) (some false)).bind λO=>(cond O (k2 (Au (z+1))) ((cond (z<(q.length:Int)) ((Ak q z).bind λI=>(u I).bind λJ=>some J) (some false)).bind λU=>some (z,U)))
def aPm (u:BR)(j:(BK->AL AY))(q:(BK->AL AY)):Int->AL (Int×AY):=bn (a81 u j q) Am
def aHT (u:BR)(j:(BK->AL AY))(q:(BK->AL AY)):AL (Int×AY):=aPm u j q 0
def an4 I u j(J:U0 Aq BO E9 j u)z q(L:U0 Aq BO E9 q z)r(h:aHT I u z=some r):E8 403 [Dh I,.d j,.d q] [] (.eP [AX r.1,Ag r.2]) []:=Ec func403 rfl<|AZ<|AZ<|Aa<|Aj<|Dp (λM=>⟨Az 36 [(0,Dh I),(1,.d j),(2,.d q),(8,AX M)],[],0⟩) _ _ _ (Ae []) h<|λM O Y U h=>Aa<|AP 2<|.p (BJ BO I)<|.a 1<|AO h λM O h=>.mg 13 7 (Ag M) (.bi O (λh=>Bv h λM O Y U h=>.a 3<|.p (BD BO O)<|.a 1<|.Z (vC (d:=j) (J:U0 Aq BO E9 j u) U)<|Cc))<|.aY<|Bo h (λh=>Aj<|Cx<|Y _ _ (Ae []) h) λh=>CZ<|AP 3<|.p (BJ BO I)<|.a 1<|AO h λM O h=>.mg 28 7 (Ag M) (.bi O (λh=>Bv h λM O Y U h=>.a 3<|.p (BD BO O)<|.a 1<|.Z (vC (d:=q) (L:U0 Aq BO E9 q z) U)<|Cc))<|.aW<|CY
def uy (j:BK)(q:BK):AL AY:=(cond (j.Kind<q.Kind) (some true) ((cond (j.Kind==q.Kind) (some (Op.bytesLess (j.Key.toList) (q.Key.toList))) (some false)).bind λu=>some u)).bind λz=>some z
def aN2 :=DW func405 rfl uy Xi Xi Ag λu z r h=>AZ<|AP 5<|AO h λj q h=>.mg 10 13 (Ag j) (.bi q (k2:=λh=>.a 5<|AO h λj q h=>.mg 16 6 (Ag j) (.bi q)<|.aW<|Cc))<|.aW<|CY
def a1A (j:BK)(q:BK):AL AY:=(uy j q).bind λu=>some u
def ahk :=DW func404 rfl a1A Xi (λj=>.d (.ref (BO j).cells 0)) Ag λq j r h=>AZ<|AO h λz u h=>AP 2<|.X (aN2 u)<|CY
def uY (j:BK)(q:BK):AL AY:=(uy q j).bind λu=>some (!u)
def aYt :=DW func406 rfl uY Xi (λj=>.d (.ref (BO j).cells 0)) Ag λq j r h=>AZ<|AO h λz u h=>AP 2<|.X (aN2 u)<|CY
def zC (u:BR)(q:Int)(j:BL):AL (Int×AY):=(aHT u (λa0=>a1A a0 (⟨q,j,0⟩:BK)) (λa0=>uY a0 (⟨q,j,0⟩:BK))).bind λz=>some (z.1,z.2)
def aMY :=O5 func327 rfl zC Dh AX D8 (λr=>.eP [AX r.1,Ag r.2]) λz q j r h=>AZ<|AZ<|AO h λu I h=>AP 1<|.conv _ (TK (cs:=Ar (BO (⟨q,j,0⟩:BK))) 0 A8 A8)<|.p (x:=.d (.fn (.func 404) [] [(.ref (BO (⟨q,j,0⟩:BK)).cells 0)])) (Po [(.ref (BO (⟨q,j,0⟩:BK)).cells 0)] rfl)<|.p (x:=.d (.fn (.func 406) [] [(.ref (BO (⟨q,j,0⟩:BK)).cells 0)])) (Po [(.ref (BO (⟨q,j,0⟩:BK)).cells 0)] rfl)<|.X (an4 z (λu=>a1A u (⟨q,j,0⟩:BK)) (.fn (.func 404) [] [(.ref (BO (⟨q,j,0⟩:BK)).cells 0)]) ⟨404,[(.ref (BO (⟨q,j,0⟩:BK)).cells 0)],rfl,agV,λu I J=>ahk J⟩ (λu=>uY u (⟨q,j,0⟩:BK)) (.fn (.func 406) [] [(.ref (BO (⟨q,j,0⟩:BK)).cells 0)]) ⟨406,[(.ref (BO (⟨q,j,0⟩:BK)).cells 0)],rfl,akN,λu I J=>aYt J⟩ u I)<|CY
def oI (q:BR)(u:Int)(j:BL):AL (Int×AY):=(zC q u j).bind λz=>(cond z.2 ((Ak q z.1).bind λI=>some (I.Id,true)) (some (0,false)))
def aH6 :=O5 func323 rfl oI Dh AX D8 (λr=>.eP [AX r.1,Ag r.2]) λu z j r h=>AZ<|Aa<|AO h λI q h=>AP 3<|.X (aMY q)<|AZ<|BA h (λh=>AO h λI q h=>AP 2<|.Z (BD BO q)<|CY) λh=>AZ<|CY
abbrev GH:=AA (AA BK)
def aGB (q:GH)(j:BK)(k2:(Int->AL AY)):Int->AL AY:=λu=>(cond (u<(q.length:Int)) ((Ak q u).bind λI=>(oI I j.Kind j.Key).bind λz=>(cond (!z.2) (some true) (some (z.1 != j.Id))).bind λJ=>(cond J (some false) (k2 (Au (u+1))))) (some true))
def aUZ (j:GH)(q:BK):Int->AL AY:=bn (aGB j q) Am
def a5e (j:GH)(q:BK):AL AY:=aUZ j q 0
def aei :=DW func393 rfl a5e JO Xi Ag λj q r h=>AZ<|Aa<|AP 1<|.Z (BJ (BP BO) j)<|Aj<|Dp (λu=>⟨Az 33 [(3,.ptr 0 0),(9,JO j),(10,AX (j.length:Int)),(11,AX u)],[.box (Ar (BO q))],0⟩) _ _ _ (Ae [AU 0]) h<|λu z J I h=>AZ<|Aa<|Bo h (λh=>Aa<|Aj<|AO h λu z h=>BM<|.Z (BD (BP BO) z)<|AO h λz I h=>AP 5<|.X (aH6 I)<|AP 2<|AO h λu z h=>.mg 26 5 (Ag u) (.bi z)<|aDt) λh=>El
noncomputable def aPf:Bh Tmp×Code×Code:=a9L Tryz.f319.body [1,1,1,0,1,0,0,1,1,0,0,1,1,0]
def Z5 (j:(AA (AA BK)))(u:Int)(q:(AA BK))(z:(AA (AA BK)))(I:(AA BK))(J:(AA BK))(L:(AA Int))(v2:(AA Int)):BN:=⟨Az 38 [(1,.ptr 0 0),(4,.ptr 1 0),(5,.ptr 3 0),(6,.ptr 5 0),(9,JO j),(10,AX (j.length:Int)),(11,AX u),(17,.d (.fn (.func 288) [] [(.ref ((BP BO) q).cells 0)]))],[.box (Ar ((BP (BP BO)) z)),.box (setAt (Ar ((BP BO) I)) 0 [.aS 2]),(MP J),.box (setAt (Ar ((BP Ad) L)) 0 [.aS 4]),(Cb v2),.box (Ar (Ad u))],0⟩
noncomputable def aj3 (j:(AA BK))(q:Bh BG)(u:(AA (AA BK)))(Y:Int)(Z:(AA (AA BK)))(v5:(AA BK))(v1:(AA BK))(v6:(AA Int))(v2:(AA Int))(z:(AA BK))(I:(AA Int))(J:Int)(L:(AA (AA BK)))(M:(AA BK))(O:(AA Int))(U:Int):BN:=⟨Az 16 [(0,.mp 6),(5,Dh j),(6,AX (j.length:Int)),(7,AX J)],[.box (Ar ((BP (BP BO)) L)),.box (setAt (Ar ((BP BO) M)) 0 [.aS 7]),.dead,.box (setAt (Ar ((BP Ad) O)) 0 [.aS 8]),.dead,.box (Ar (Ad U)),.loop q (Z5 u Y j Z v5 v1 v6 v2).slots aPf .ready none,(MP z),(Cb I)],7⟩
def aDl (U:BR)(k7:(BR->AV->Int->GH->BR->AV->AL (BR×AV)))(v3:Int)(M:(BR->AV->Int->GH->BR->AV->Int->AL (BR×AV))):BR->AV->Int->GH->BR->AV->Int->AL (BR×AV):=λu z j q I J L=>(cond (j<(U.length:Int)) ((Ak U j).bind λO=>(a5e q O).bind λY=>(cond (!Y) ((D5 8 z [O.Id]).bind λZ=>M u Z (Au (j+1)) q I J L) (cond (L==0) ((D5 32 u [O]).bind λx26=>M x26 z (Au (j+1)) q I J L) (M u z (Au (j+1)) q I J L)))) (k7 u z (Au (v3+1)) q I J))
def aLp (j:BR)(q:(BR->AV->Int->GH->BR->AV->AL (BR×AV)))(u:Int):BR->AV->Int->GH->BR->AV->Int->AL (BR×AV):=aeg (aDl j q u) Am
def aKh (j:GH)(J:(BR->AV->Int->GH->BR->AV->AL (BR×AV))):BR->AV->Int->GH->BR->AV->AL (BR×AV):=λI v2 q L M O=>(cond (q<(j.length:Int)) ((Ak j q).bind λU=>(xA U).bind λu=>aLp u J q I v2 0 L M O q) ((Un v2).bind λz=>some (I,z)))
def aUq (j:GH):BR->AV->Int->GH->BR->AV->AL (BR×AV):=HY (aKh j) Am
def zu (j:GH):AL (BR×AV):=aUq j [] [] 0 j [] []
def aUG {cZ r}(h:zu cZ=some r):E8 319 [JO cZ] [] (.eP [.aS 0,.aS 1]) [(MP r.1),(Cb r.2)]:=Ec func319 rfl<|AP 1<|.f (CV 82 3)<|.f (CV 3 1)<|.aY<|BM<|.f (a9u 82 3 UZ)<|.aY<|BM<|.f (a9u 3 1 pz)<|.aY<|Aa<|AP 1<|.Z (BJ (BP BO) cZ)<|Aj<|Bq.HY (λu q U I z J=>⟨Az 38 [(1,.ptr 0 0),(4,.ptr 1 0),(5,.ptr 3 0),(9,JO cZ),(10,AX (cZ.length:Int)),(11,AX U)],[.box (Ar ((BP (BP BO)) I)),.box (setAt (Ar ((BP BO) z)) 0 [.aS 2]),(MP u),.box (setAt (Ar ((BP Ad) J)) 0 [.aS 4]),(Cb q)],0⟩) _ _ _ _ _ _ _ _ (Ae [AU 0,AU 4,AU 3,AU 6,AU 5]) h<|λu q U I z J L M O h=>AZ<|Aa<|Bo h (λh=>Aa<|Aj<|AO h λu q h=>AP 1<|.Z (BD (BP BO) q)<|AO h λq j h=>AP 1<|.f (x:=.d (.fn (.func 288) [] [(.ref ((BP BO) q).cells 0)])) (EK [] [Dh u] (aNV j))<|.aY<|Aj<|D6 (S:=Z5 cZ J q L M I O z) (Ae [AU 0,AU 1,AU 2,AU 3,AU 4,AU 5])<|Bq.aqv [(.ref ((BP BO) q).cells 0)] A8 func288 aRP rfl rfl λu=>AP 1<|.Z (BJ BO q)<|Aj<|Bq.aeg (aj3 q u cZ J L M I O z) _ _ _ _ _ _ _ _ _ (Ae [AU 0,AU 1,(2,false),AU 3,(4,false),AU 5,AU 6,AU 2,AU 4]) h<|λj Z Y x13 x14 x15 x16 x17 x18 x19 h=>AZ<|Aa<|Bo h (λh=>Aa<|Aj<|AO h λU j h=>BM<|.Z (BD BO j)<|AP 2<|Dn.yield (tm:=u) (slots:=(Z5 cZ J q L M I O z).slots) (rc:=aPf) 6 [Xi U] rfl A8 A8 A8 A8 A8 A8<|Cx<|⟨rfl,(Z5 cZ J q L M I O z).slots,A8,(Aj<|AO h λu j h=>AP 2<|.X (aei j)<|Df h (λh=>AO h λu j h=>CU<|.a 3<|.p (EG Dy zero3 [Ad U.Id])<|.f (Dk (k:=8) Ad j Dy A8 (λ_=>rfl) Bl)<|.aN<|⟨(Z5 cZ J q L M I O z).slots,(.ready,none),A8,rfl,(.aW<|Nu A8<|F9<|Cx<|Y _ _ _ _ _ _ _ _ (Ae [AU 0,AU 1,(2,false),AU 3,(4,false),AU 5,AU 6,AU 7,AU 11]) h)⟩) λh=>AZ<|BA h (λh=>AO h λu j h=>CU<|.a 2<|.p (EG NZ RD [BO U])<|.f (Dk (k:=7) BO j NZ A8 (λ_=>rfl) Bl)<|.aN<|⟨(Z5 cZ J q L M I O z).slots,(.ready,none),A8,rfl,(.aW<|Nu A8<|F9<|Cx<|Y _ _ _ _ _ _ _ _ (Ae [AU 0,AU 1,(2,false),AU 3,(4,false),AU 5,AU 6,AU 11,AU 8]) h)⟩) λh=>⟨(Z5 cZ J q L M I O z).slots,(.ready,none),A8,rfl,(.aW<|Nu A8<|F9<|Cx<|Y _ _ _ _ _ _ _ _ (Ae [AU 0,AU 1,(2,false),AU 3,(4,false),AU 5,AU 6,AU 7,AU 8]) h)⟩)⟩) λh=>CZ<|⟨.inl rfl,(Z5 cZ J q L M I O z).slots,(.ready,none),.normal,A8,rfl,(Cx<|U _ _ _ _ _ _ _ (Ae [AU 0,AU 1,AU 7,AU 3,AU 8]) h)⟩) λh=>CZ<|AO h λu q h=>nC [0] (.a 2<|.f (Jr (eH:=[.aS 4]) (fH:=[.d (.sl (List.map Ad z))]) (Ye q) (λx u=>aGp) a3s ⟨⟨3,1,List.map Ad z,A8,rfl⟩,trivial⟩ rfl)<|.a 2<|.nil _)<|by cases h;exact .ret (Ez [AU 2,AU 5])
def Za (j:AQ):AL AV:=some j.bI
def akr :=Dc func435 rfl Za DL Bf λj r h=>dF
def a9m (j:(AV->AV->Int->(AA (Int×Int))->(AA (Int×AY))->(AA (Int×AY))->AL AV))(q:Int)(u:AV)(z:AV)(I:(AA (Int×Int)))(J:(AA (Int×AY)))(L:(AA (Int×AY))):AL AV:=j u z (Au (q+1)) I J L
def aKe (v3:AV)(M:Ah)(q:(AQ->AL AV))(k7:(AV->AV->(AA (Int×Int))->(AA (Int×AY))->(AA (Int×AY))->AL AV))(O:(AV->AV->Int->(AA (Int×Int))->(AA (Int×AY))->(AA (Int×AY))->AL AV)):AV->AV->Int->(AA (Int×Int))->(AA (Int×AY))->(AA (Int×AY))->AL AV:=λU L z u I J=>(cond (z<(v3.length:Int)) ((Ak v3 z).bind λj=>(cond (!((DF u j).isSome)) (some true) (some ((DF I j).getD false))).bind λY=>(cond Y (some true) (some ((DF J j).getD false))).bind λZ=>(cond Z (a9m O z U L u I J) ((D5 8 U [j]).bind λx29=>(Ak M ((DF u j).getD 0)).bind λx30=>(q x30).bind λx31=>(D5 8 L x31).bind λx32=>a9m O z x29 x32 u (EM I j true) (EM J j true)))) (k7 U L u I J))
def aNz (u:AV)(q:Ah)(j:(AQ->AL AV))(z:(AV->AV->(AA (Int×Int))->(AA (Int×AY))->(AA (Int×AY))->AL AV)):AV->AV->Int->(AA (Int×Int))->(AA (Int×AY))->(AA (Int×AY))->AL AV:=HY (aKe u q j z) Am
def aX7 (q:Ah)(j:(AQ->AL AV))(I:(AV->AV->(AA (Int×Int))->(AA (Int×AY))->(AA (Int×AY))->AL AV)):AV->AV->(AA (Int×Int))->(AA (Int×AY))->(AA (Int×AY))->AL AV:=λv2 z J L M=>(cond ((z.length:Int)>0) (aNz z q j I v2 [] 0 J L []) ((Un v2).bind λu=>some u))
def aTi (q:Ah)(j:(AQ->AL AV)):AV->AV->(AA (Int×Int))->(AA (Int×AY))->(AA (Int×AY))->AL AV:=Ed (aX7 q j) Am
def wZ (u:Ah)(j:AV)(q:(AQ->AL AV)):AL AV:=(ZK u).bind λz=>aTi u q [] j z [] []
def ajU z I q j(L:U0 Aq Ap (BP Ad) j q)r(h:wZ z I q=some r):E8 434 [BI z,Bf I,.d j] [] (.aS 0) [(Cb r)]:=Ec func434 rfl<|BM<|.f (CV 3 1)<|.aY<|AO h λY u h=>AP 1<|.Y (x:=.mp 1) (EK [] [BI z] (wR u))<|BM<|.Y (x:=.mp 2) pI<|BM<|.Y (x:=.mp 3) pI<|BM<|.f (CV 3 1)<|.aY<|AZ<|Aa<|Aj<|a6C (λY u M J Z=>⟨Az 70 [(0,BI z),(2,.d j),(7,.mp 0),(8,.mp 1),(9,.mp 2),(10,.aS 3),(11,Bf u)],[.map (List.map (CS D7 Ad) M),.map (List.map (CS D7 E9) J),.map (List.map (CS D7 E9) Z),(Cb Y)],0⟩) _ _ _ _ _ _ _ (Ae [AU 1,AU 2,AU 3,AU 4]) h<|λY u M J Z x6 x7 x8 h=>Aa<|AP 1<|.Z (BJ Ad Z)<|Bo h (λh=>Aj<|AP 1<|.f (ae3 (k:=2) (es0:=List.map (CS D7 E9) x8) Rf A8)<|.aY<|BM<|.f (CV 3 1)<|.aY<|Aa<|AP 1<|.Z (BJ Ad Z)<|Aj<|Bq.HY (λY u M J x6 x7=>⟨Az 70 [(0,BI z),(2,.d j),(7,.mp 0),(8,.mp 1),(9,.mp 2),(10,.aS 3),(12,.aS 4),(26,Bf Z),(27,AX (Z.length:Int)),(28,AX M)],[.map (List.map (CS D7 Ad) J),.map (List.map (CS D7 E9) x6),.map (List.map (CS D7 E9) x7),(Cb Y),(Cb u)],0⟩) _ _ _ _ _ _ _ _ (Ae [AU 0,AU 1,AU 2,AU 3,AU 4]) h<|λY u J x6 x7 x8 x9 O U h=>AZ<|Aa<|Bo h (λh=>Cm (λs=>∃(v17:(AA Int)) (v18:(AA Int)) (v19:(AA (Int×Int))) (v20:(AA (Int×AY))) (v21:(AA (Int×AY))),CO s ⟨Az 70 [(0,BI z),(2,.d j),(7,.mp 0),(8,.mp 1),(9,.mp 2),(10,.aS 3),(12,.aS 4),(26,Bf Z),(27,AX (Z.length:Int)),(28,AX x8)],[.map (List.map (CS D7 Ad) v19),.map (List.map (CS D7 E9) v20),.map (List.map (CS D7 E9) v21),(Cb v17),(Cb v18)],0⟩/\a9m u x8 v17 v18 v19 v20 v21=some r) (by rintro s ⟨v17,v18,v19,v20,v21,hs,h⟩;exact D6 hs<|Cx<|J _ _ _ _ _ _ _ (Ae [AU 0,AU 1,AU 2,AU 3,AU 4]) h)<|λY=>Aj<|AO h λu M h=>BM<|.Z (BD Ad M)<|AP 2<|.Z (x:=.eP [AX ((DF x9 u).getD 0),Ag ((DF x9 u).isSome)]) (sB (k:=0) (key:=u) (m:=x9) Ad 0 Py IE zero3 A8 A8 A8)<|Aa<|AP 2<|AO h λM J h=>.mg 40 4 (Ag M) (.bi J (k2:=λh=>.a 2<|.Z (x:=(Ag ((DF O u).getD false))) (dn (k:=1) (key:=u) (m:=O) E9 false Rf IE xW A8 A8 A8)<|Cc))<|.a 1<|AO h λM J h=>.mg 46 3 (Ag M) (DC J (k2:=λe i=>by subst e;have h:=i;exact .a 2<|.Z (x:=(Ag ((DF U u).getD false))) (dn (k:=2) (key:=u) (m:=U) E9 false Rf IE xW A8 A8 A8)<|Cc))<|.aY<|BA h (λh=>CZ<|Y _ ⟨x6,x7,x9,O,U,Ae [AU 0,AU 1,AU 2,AU 3,AU 4],h⟩) λh=>AP 2<|.f (YB (k:=2) (key:=u) (val:=true) (m:=U) E9 Rf IE A8)<|.aY<|AP 2<|.f (YB (k:=1) (key:=u) (val:=true) (m:=O) E9 Rf IE A8)<|.aY<|AO h λM J h=>AP 2<|.p (EG Dy zero3 [Ad u])<|.Y (Dk (k:=3) Ad J Dy A8 (λ_=>rfl) Bl)<|Hq h λJ Z x6 x7 x8 x12 h=>CU<|.a 4<|.p (BD Ap Z)<|.a 1<|.p (vC (d:=j) (L:U0 Aq Ap (BP Ad) j q) x7)<|.f (Dk (k:=4) Ad x12 Dy A8 (λ_=>rfl) Bl)<|.aN<|Y _ ⟨M,x8,x9,(EM O u true),(EM U u true),Ae [AU 0,AU 1,AU 2,AU 5,AU 6],h⟩) λh=>CZ<|Cx<|M _ x6 x7 x9 O U (alV _ ((JI (e:=3) (s:=1) 4 (xs:=List.map Ad x7) A8)) (Ae [AU 0,AU 1,AU 2,AU 3])) h) λh=>CZ<|AO h λY u h=>AP 1<|.Y (Jr (eH:=[.aS 3]) (fH:=[.d (.sl (List.map Ad J))]) (Ye u) (λx Y=>by obtain⟨a,_,rfl⟩:=FB.1 Y;rfl) a3s ⟨⟨3,1,List.map Ad J,A8,rfl⟩,trivial⟩ rfl)<|a6T
def a2m (j:(AV->Int->AL AV))(q:Int)(u:AV):AL AV:=j u (Au (q+1))
def aD8 (j:AV)(L:(AA (Int×Int)))(q:Ah)(M:(AV->Int->AL AV)):AV->Int->AL AV:=λv2 u=>(bif u<(j.length:Int) then(Ak j u).bind λO=>(cond ((DF L O).isSome) ((Ak q ((DF L O).getD 0)).bind λz=>(D5 8 v2 z.bI).bind λI=>a2m M u I) (a2m M u v2))else(wZ q v2 (λa0=>Za a0)).bind λJ=>some J)
def aV8 (j:AV)(u:(AA (Int×Int)))(q:Ah):AV->Int->AL AV:=aQ (aD8 j u q) Am
def ZQ (q:Ah)(j:AV):AL AV:=(ZK q).bind λu=>aV8 j u q [] 0
def aGU :=Gj func396 rfl ZQ BI Bf Cb λq j r h=>BM<|.f (CV 3 1)<|.aY<|AO h λu I h=>AP 1<|.Y (x:=.mp 1) (EK [] [BI q] (wR I))<|BM<|.f (CV 3 1)<|.aY<|Aa<|AP 1<|.Z (BJ Ad j)<|Aj<|DV (λI z=>⟨Az 37 [(0,BI q),(5,.mp 0),(6,.aS 1),(13,Bf j),(14,AX (j.length:Int)),(15,AX z)],[.map (List.map (CS D7 Ad) u),(Cb I)],0⟩) _ _ _ _ (Ae [AU 1,AU 2]) h<|λI z L J O h=>AZ<|Aa<|Bo h (λh=>Cm (λs=>∃(M:(AA Int)),CO s ⟨Az 37 [(0,BI q),(5,.mp 0),(6,.aS 1),(13,Bf j),(14,AX (j.length:Int)),(15,AX O)],[.map (List.map (CS D7 Ad) u),(Cb M)],0⟩/\a2m z O M=some r) (by rintro s ⟨M,hs,h⟩;exact D6 hs<|Cx<|L _ _ _ (Ae [AU 0,AU 1]) h)<|λI=>Aj<|AO h λz L h=>BM<|.Z (BD Ad L)<|AP 2<|.Z (x:=.eP [AX ((DF u z).getD 0),Ag ((DF u z).isSome)]) (sB (k:=0) (key:=z) (m:=u) Ad 0 Py IE zero3 A8 A8 A8)<|AZ<|BA h (λh=>Bv h λu z L J h=>CU<|.a 3<|.p (BD Ap z)<|.a 2<|.f (Dk (k:=1) Ad J Dy A8 (λ_=>rfl) Bl)<|.aN<|I _ ⟨L,Ae [AU 0,AU 2],h⟩) λh=>I _ ⟨J,Ae [AU 0,AU 1],h⟩) λh=>CZ<|AO h λu I h=>AP 2<|.Y (Jr (eH:=[BI q,.aS 1,.d (.fn (.func 435) [] [])]) (fH:=[BI q,.d (.sl (List.map Ad J)),.d (.fn (.func 435) [] [])]) (ajU q J (λu=>Za u) (.fn (.func 435) [] []) ⟨435,[],rfl,al8,λu I z=>akr z⟩ u I) (λx u=>aGp) adu ⟨rfl,⟨3,1,List.map Ad J,A8,rfl⟩,rfl,trivial⟩ rfl)<|MJ
def aBS (j:BR)(q:Ah)(J:(AV->Int->AL AV)):AV->Int->AL AV:=λv2 u=>(bif u<(j.length:Int) then(Ak j u).bind λL=>(D5 8 v2 [L.Id]).bind λM=>J M (Au (u+1))else(ZQ q v2).bind λO=>(D5 8 v2 O).bind λU=>(PS U).bind λz=>(Xa z).bind λI=>some I)
def aPa (j:BR)(q:Ah):AV->Int->AL AV:=aQ (aBS j q) Am
def a8a (q:Ah)(j:BR):AL AV:=(Jg 8 0 0 (j.length:Int)).bind λu=>aPa j q u 0
def aes :=Gj func433 rfl a8a BI Dh Cb λu j r h=>BM<|.f (CV 3 1)<|.aY<|AO h λz q h=>AP 1<|.p (BJ BO j)<|.Y (ZV Ad 0 q Dy zero3 A8 A8 A8 Bl)<|Aa<|AP 1<|.Z (BJ BO j)<|Aj<|DV (λz q=>⟨Az 38 [(0,BI u),(5,.aS 0),(12,Dh j),(13,AX (j.length:Int)),(14,AX q)],[(Cb z)],0⟩) _ _ _ _ (Ae [AU 1]) h<|λz q J I L h=>AZ<|Aa<|Bo h (λh=>Aa<|Aj<|AO h λz q h=>BM<|.Z (BD BO q)<|AO h λq I h=>CU<|.a 3<|.p (EG Dy zero3 [Ad z.Id])<|.f (Dk (k:=0) Ad I Dy A8 (λ_=>rfl) Bl)<|.aN<|Cx<|J _ _ _ (Ae [AU 2]) h) λh=>CZ<|Bv h λz q J L h=>F6 A8 A8 A8 (.a 2<|.p (Kt (k:=0) (e':=3) (s:=1) Ad I A8 Jc)<|.a 1<|.p (Kt (k:=0) (e':=3) (s:=1) Ad I A8 Jc)<|.p (aWk (e':=3) (s:=1) (k:=0) (xs:=List.map Ad I) (h:=(I.length:Int)) (by rw[DY]) A8 Jc Ey rfl)<|.a 2<|.p (a4W (eH:=[BI u,.aS 0]) (fH:=[BI u,.d (.sl (List.map Ad I))]) (aGU q) (λx z=>by obtain⟨a,_,rfl⟩:=FB.1 z;rfl) aUa ⟨rfl,⟨3,1,List.map Ad I,A8,rfl⟩,trivial⟩ rfl)<|.f (aUm (k:=0) Ad L Dy A8 (λ_=>rfl) Bl)<|.a 1<|.nil _)<|AO h λz q h=>AP 1<|.f (x:=.eP []) (EK [.ent 1] [.aS 1] (uK J z q))<|.aY<|AO h λq J h=>AP 1<|.Y (x:=.aS 2) (EK [.ent 1] [.aS 1] (aCm z q J))<|MJ
def a9I (z:AV)(k3:(Int->(AA (Int×Int))->AL AV))(I:Int)(J:(Int->(AA (Int×Int))->AL AV)):Int->(AA (Int×Int))->AL AV:=λq u=>(cond (q<(z.length:Int)) ((Ak z q).bind λj=>J (Au (q+1)) (EM u j (Au (((DF u j).getD 0)+1)))) (k3 (Au (I+1)) u))
def aOr (j:AV)(k3:(Int->(AA (Int×Int))->AL AV))(q:Int):Int->(AA (Int×Int))->AL AV:=aQ (a9I j k3 q) Am
def Xq (j:GH)(q:AV)(u:(Int×Int)):AL AV:=(cond (u.2<(j.length:Int)) ((D5 8 q [u.1]).bind λz=>some z) (some q))
def ng (j:AV):AL AV:=(PS j).bind λq=>some q
def a6e (j:GH)(q:Ah)(k3:(Int->(AA (Int×Int))->AL AV)):Int->(AA (Int×Int))->AL AV:=λu v2=>(cond (u<(j.length:Int)) ((Ak j u).bind λI=>(a8a q I).bind λJ=>aOr J k3 u 0 v2) ((Jg 8 0 0 (v2.length:Int)).bind λz=>(List.foldlM (Xq j) z v2).bind ng))
def aNp (j:GH)(q:Ah):Int->(AA (Int×Int))->AL AV:=aQ (a6e j q) Am
def a1M (q:Ah)(j:GH):AL AV:=aNp j q 0 []
def abe {cZ xM r}(h:a1M cZ xM=some r):E8 394 [BI cZ,JO xM] [] (.aS 0) [(Cb r)]:=by
 refine Ec func394 rfl ?_;unfold a1M at h;refine BM<|.f (CV 3 1)<|.aY<|BM<|.Y (x:=.mp 1) pI<|Aa<|AP 1<|.Z (BJ (BP BO) xM)<|Aj ?_;refine DV (λv1 v2=>⟨Az 55 [(0,BI cZ),(1,JO xM),(5,.mp 0),(14,JO xM),(15,AX (xM.length:Int)),(16,AX v1)],[.map (List.map (CS D7 Ad) v2)],0⟩) _ _ _ _ (Ae [AU 1]) h ?_;clear h;intro J22 k3 hk3 v1 v2 h;unfold a6e at h;refine AZ<|Aa<|Df h (λh=>?_) λh=>?_
 ·refine F9<|Aa<|Aj ?_;obtain⟨x5,hx5,h⟩:=Du h;refine BM<|.p (BD (BP BO) hx5)<|.aM 2 ?_;obtain⟨x6,hx6,h⟩:=Du h;refine AP 2<|.ca (aes hx6).view<|.Z (BJ Ad x6)<|Aj ?_;refine DV (λv7 L=>⟨Az 55 [(0,BI cZ),(1,JO xM),(5,.mp 0),(14,JO xM),(15,AX (xM.length:Int)),(16,AX v1),(22,Bf x6),(23,AX (x6.length:Int)),(24,AX v7)],[.map (List.map (CS D7 Ad) L)],0⟩) _ _ _ _ (Ae [AU 0]) h ?_;clear h;intro J12 k9 hk9 v7 L h;unfold a9I at h;refine AZ<|Aa<|Df h (λh=>?_) λh=>?_
  ·refine F9<|Aa<|Aj ?_;obtain⟨q,M,h⟩:=Du h;refine BM<|.Z (BD Ad M)<|CU<|.a 2<|.p (x:=(AX ((DF L q).getD 0))) (dn (k:=0) (key:=q) (m:=L) Ad 0 Py IE zero3 A8 A8 A8)<|.a 1<|.f (YB (k:=0) (key:=q) (val:=(Au (((DF L q).getD 0)+1))) (m:=L) Ad Py IE A8)<|.nil<|CU<|.a 2<|.nil ?_;exact hk9 _ _ _ (Ae [AU 0]) h
  refine CZ<|CU<|.a 2<|.nil ?_;exact hk3 _ _ _ (Ae [AU 0]) h
 refine CZ ?_;obtain⟨x13,O,h⟩:=Du h;refine AP 1<|.p (x:=(AX (v2.length:Int))) (aRT (k:=0) (es0:=List.map (CS D7 Ad) v2) (DY ..) Py A8)<|.Y (ZV Ad 0 O Dy zero3 A8 A8 A8 Bl)<|Aa<|AP 1<|.f (x:=.ptr 2 0) (aQC (k:=0) (m:=List.map (CS D7 Ad) v2) Py A8)<|.aY<|Aj<|Bq.aBg (λj z=>⟨Az 55 [(1,JO xM),(10,.aS 0),(38,.ptr 1 0)],[(Cb z),.iter (List.map (CS D7 Ad) v2) j],0⟩) v2 (Xq xM) ng r x13 (Ae [AU 1,AU 2]) ?_ ?_
 ·intro vis hnd hin;exact aRd (aU8 _ vis hnd hin) (λx y hxy=>by unfold ng;rw[aN5 hxy]) h
 clear h;intro J j z U I;refine BM<|?_;refine Dn.next (ty:=false) (ek:=D7) (ev:=Ad) 1 v2 j A8 rfl A8 A8 ?_ ?_
 ·intro hc;have h:=U hc;unfold ng at h;refine .aW<|Aa<|Nu A8<|CZ ?_;obtain⟨x18,Y,h⟩:=Du h;refine AP 1<|.f (x:=.eP []) (EK [.ent 0] [.aS 0] (uK z x18 Y))<|.aY<|BM<|.aM 2 ?_;rw[←CM h];exact .ret (Ez [AU 0])
 intro Z u hp hi;obtain⟨r,h,hJ⟩:=I Z u hp hi;unfold Xq at h;refine .aW<|Aa<|OG A8<|F9<|Aj<|BM<|.Z (x:=.eP [AX u.1,AX u.2]) (aND (n:=1) (i:=Z) (ek:=D7) (ev:=Ad) (m:=v2) (vis:=j) hp A8)<|AP 2<|.Z (BJ (BP BO) xM)<|Df h (λh=>?_) λh=>?_
 ·obtain⟨x20,axA,h⟩:=Du h;refine CU<|.a 2<|.p (EG Dy zero3 [Ad u.1])<|.f (Dk (k:=0) Ad axA Dy A8 (λ_=>rfl) Bl)<|.a 1<|.nil ?_;obtain rfl:=CM h;exact hJ _ (Ae [AU 2,AU 1])
 refine F9 ?_;obtain rfl:=CM h;exact hJ _ (Ae [AU 0,AU 1])
def a5s (q:Ah)(j:GH):AL AV:=(zu j).bind λu=>(a1M q j).bind λz=>(D5 8 u.2 z).bind λI=>(PS I).bind λJ=>(Xa J).bind λL=>some L
def adw :=Gj func320 rfl a5s BI JO Cb λI j r h=>BM<|.f (CV 3 1)<|.aY<|AO h λq u h=>AP 1<|.f (x:=.eP [.aS 1,.aS 2]) (EK [] [JO j] (aUG u))<|.a 2<|.conv _ (JI (e:=82) (s:=3) 1 (xs:=List.map BO q.1) A8)<|.aW<|Bv h λu z J L h=>F6 A8 A8 A8 (.a 2<|.p (Kt (k:=2) (e':=3) (s:=1) Ad q.2 A8 Jc)<|.a 1<|.p (Kt (k:=2) (e':=3) (s:=1) Ad q.2 A8 Jc)<|.p (aWk (e':=3) (s:=1) (k:=2) (xs:=List.map Ad q.2) (h:=(q.2.length:Int)) (by rw[DY]) A8 Jc Ey rfl)<|.a 2<|.ca (abe z).view<|.f (aUm (k:=2) Ad L Dy A8 (λ_=>rfl) Bl)<|.a 1<|.nil _)<|AO h λq u h=>AP 1<|.f (x:=.eP []) (EK [.ent 3] [.aS 3] (uK J q u))<|.aY<|AO h λu z h=>AP 1<|.Y (x:=.aS 4) (EK [.ent 3] [.aS 3] (aCm q u z))<|a6T
def aAr (j:AQ)(q:AY):AL AY:=(cond q (some true) (cond (j.Kind==2) ((cond (j.Content.N==0) (some true) (some (j.Content.N==4))).bind λu=>(cond u (some (!(j.Key.toList==j.bU.toList))) (some false)).bind λz=>some z) (some false)))
def aAS (j:AQ):AL AY:=(cond (j.Kind==3) (aAr j (j.Kind==3)) (aAr j (j.Kind==4)))
def aZe :=Dc func395 rfl aAS DL Ag λj r h=>AZ<|Aa<|AZ<|Aj<|Cm (λs=>∃(u:AY),CO s ⟨Az 27 [(1,.ptr 0 0),(4,AX j.Kind),(5,Ag u)],[.box (Ar (Ap j))],0⟩/\aAr j u=some r) (by rintro s ⟨u,hs,h⟩;exact D6 hs<|Df h CB λh=>AZ<|BA h (λh=>AP 4<|AO h λq z h=>.mg 14 5 (Ag q) (.bi z)<|.a 1<|AO h λq z h=>.mg 21 5 (Ag q) (DC z)<|.aW<|CY) λh=>AZ<|CY)<|λq=>AZ<|Bo h (λh=>q _ ⟨(j.Kind==3),Ae [AU 0],h⟩) λh=>Cx<|q _ ⟨(j.Kind==4),Ae [AU 0],h⟩
def aDo (j:AV)(q:Int)(k2:(Int->AL Int)):Int->AL Int:=λu=>(cond (u<(j.length:Int)) ((Ak j u).bind λz=>(cond (q==z) (some u) (k2 (Au (u+1))))) (some (-1)))
def aT9 (j:AV)(q:Int):Int->AL Int:=bn (aDo j q) Am
def uF (j:AV)(q:Int):AL Int:=aT9 j q 0
def aR8 :=DW func452 rfl uF Bf AX AX λj q r h=>AZ<|Aa<|AP 1<|.Z (BJ Ad j)<|Aj<|Dp (λu=>⟨Az 19 [(0,Bf j),(1,AX q),(7,AX (j.length:Int)),(8,AX u)],[],0⟩) _ _ _ (Ae []) h<|λu z I J h=>AZ<|Aa<|Bo h (λh=>Aa<|Aj<|AZ<|AO h λu z h=>AP 3<|.p (BD Ad z)<|a1O) λh=>El
def rV (j:AV)(q:Int):AL AY:=(uF j q).bind λu=>some (decide (u>=0))
def aDh :=DW func436 rfl rV Bf AX Ag λj q r h=>AZ<|AO h λz u h=>AP 2<|.X (aR8 u)<|CY
def rG (j:AV)(q:Int):AL AY:=(rV j q).bind λu=>some u
def aSn :=DW func397 rfl rG Bf AX Ag λj q r h=>AZ<|AO h λz u h=>AP 2<|.X (aDh u)<|CY
def a9M (k3:(AV->Int->AL AV))(v2:Int)(j:AV):AL AV:=k3 j (Au (v2+1))
def aB2 (j:(AV->Int->AL AV))(q:Int)(u:AV):AL AV:=j u (Au (q+1))
def aCr (j:AV)(J:AV)(z:(AV->Int->AL AV)):AV->Int->AL AV:=λu q=>(bif q<(j.length:Int) then(Ak j q).bind λI=>(rG J I).bind λL=>(cond L ((D5 8 u [I]).bind λM=>aB2 z q M) (aB2 z q u))else(Un u).bind λO=>some O)
def aC2 (j:AV)(q:AV):AV->Int->AL AV:=aQ (aCr j q) Am
def aGF (j:AV)(q:Ah)(k3:(AV->Int->AL AV)):AV->Int->AL AV:=λu v2=>(bif v2<(j.length:Int) then(Ak j v2).bind λL=>(ND q L).bind λM=>(cond M.2 ((aAS M.1).bind λz=>some z) (some false)).bind λO=>(cond O ((D5 8 u [L]).bind λI=>a9M k3 v2 I) (a9M k3 v2 u))else(ZQ q u).bind λJ=>aC2 j J u 0)
def aUx (j:AV)(q:Ah):AV->Int->AL AV:=aQ (aGF j q) Am
def a4k (q:Ah)(j:AV):AL AV:=aUx j q [] 0
def alq :=Gj func321 rfl a4k BI Bf Cb λu j r h=>BM<|.f (CV 3 1)<|.aY<|BM<|.f (CV 3 1)<|.aY<|Aa<|AP 1<|.Z (BJ Ad j)<|Aj<|DV (λz q=>⟨Az 54 [(0,BI u),(1,Bf j),(5,.aS 0),(13,Bf j),(14,AX (j.length:Int)),(15,AX q)],[(Cb z)],0⟩) _ _ _ _ (Ae [AU 1]) h<|λz q I J L h=>AZ<|Aa<|Bo h (λh=>Cm (λs=>∃(U:(AA Int)),CO s ⟨Az 54 [(0,BI u),(1,Bf j),(5,.aS 0),(13,Bf j),(14,AX (j.length:Int)),(15,AX L)],[(Cb U)],0⟩/\a9M q L U=some r) (by rintro s ⟨U,hs,h⟩;exact D6 hs<|Tj)<|λz=>Aj<|AO h λq I h=>BM<|.Z (BD Ad I)<|AO h λI L h=>AP 2<|.X (PU L)<|AP 1<|AO h λL O h=>.mg 26 3 (Ag L) (.bi O (λh=>AO h λz q h=>.a 1<|.X (aZe q)<|Cc))<|.aY<|BA h (λh=>AO h λI J h=>CU<|.a 2<|.p (EG Dy zero3 [Ad q])<|.f (Dk (k:=0) Ad J Dy A8 (λ_=>rfl) Bl)<|.aN<|z _ ⟨I,Ae [AU 2],h⟩) λh=>z _ ⟨J,Ae [AU 0],h⟩) λh=>CZ<|AO h λz q h=>AP 2<|.Z (a4W (eH:=[BI u,.aS 0]) (fH:=[BI u,.d (.sl (List.map Ad J))]) (aGU q) (λz q=>OQ) aUa ⟨rfl,⟨3,1,List.map Ad J,A8,rfl⟩,trivial⟩ rfl)<|Aa<|AP 1<|.Z (BJ Ad j)<|Aj<|DV (λq I=>⟨Az 54 [(5,.aS 0),(10,Bf z),(38,Bf j),(39,AX (j.length:Int)),(40,AX I)],[(Cb q)],0⟩) _ _ _ _ (Ae [AU 0]) h<|λq I J L O h=>AZ<|Aa<|Bo h (λh=>Cm (λs=>∃(M:(AA Int)),CO s ⟨Az 54 [(5,.aS 0),(10,Bf z),(38,Bf j),(39,AX (j.length:Int)),(40,AX O)],[(Cb M)],0⟩/\aB2 I O M=some r) (by rintro s ⟨M,hs,h⟩;exact D6 hs<|qK)<|λq=>Aj<|AO h λI J h=>BM<|.Z (BD Ad J)<|AO h λJ O h=>AP 2<|.ca (aSn O)<|.aY<|BA h (λh=>AO h λz J h=>CU<|.a 2<|.p (EG Dy zero3 [Ad I])<|.f (Dk (k:=0) Ad J Dy A8 (λ_=>rfl) Bl)<|.aN<|q _ ⟨z,Ae [AU 1],h⟩) λh=>q _ ⟨L,Ae [AU 0],h⟩) λh=>CZ<|AO h λz q h=>AP 1<|.Y (Jr (eH:=[.aS 0]) (fH:=[.d (.sl (List.map Ad L))]) (Ye q) (λz q=>OQ) a3s ⟨⟨3,1,List.map Ad L,A8,rfl⟩,trivial⟩ rfl)<|Jm
def a8g (j:BR):AL BR:=(D5 32 [] j).bind λq=>some q
def aYV {nJ r}(h:a8g nJ=some r):E8 437 [Dh nJ] [] (.aS 0) [(MP r)]:=by
 refine Ec func437 rfl ?_;unfold a8g at h;refine BM<|.f (CV 82 3)<|.aY<|Aa<|ou (x:=.tmp 3) (t':=41) (d:=4) (es:=List.map BO nJ) 1 rfl (.a 1<|.nil _) A8 A8 A8 qR A8 ?_;intro b j;cases b
 ·clear j;refine Nu A8<|F9 ?_;obtain⟨u,q,h⟩:=Du h;refine BM<|.f (Ht NZ RD [])<|.a 1<|.f (Dk (k:=1) BO q NZ A8 (λ_=>rfl) Bl)<|.aM 1 ?_;rw[←CM h];exact .ret (Ez [AU 2])
 replace j:=sJ j;replace h:some []=some r:=s0
 refine OG A8<|BM<|.f (CV 82 3)<|.aY ?_;rw[←CM h];exact .ret (Ez [AU 1])
def a7Y (j:(Ah->Int->AL Ah))(q:Int)(u:Ah):AL Ah:=j u (Au (q+1))
def aGV (j:AV)(q:Ah)(I:(Ah->Int->AL Ah)):Ah->Int->AL Ah:=λv2 u=>(cond (u<(j.length:Int)) ((Ak j u).bind λL=>(ND q L).bind λJ=>(cond J.2 ((D5 376 v2 [J.1]).bind λz=>a7Y I u z) (a7Y I u v2))) (some v2))
def aWK (j:AV)(q:Ah):Ah->Int->AL Ah:=aQ (aGV j q) Am
def a6w (q:Ah)(j:AV):AL Ah:=(Jg 376 Eo 0 (j.length:Int)).bind λu=>aWK j q u 0
def aXI :=Gj func457 rfl a6w BI Bf F8 λq j r h=>BM<|.f (CV 38 29)<|.aY<|AO h λz u h=>AP 1<|.p (BJ Ad j)<|.Y (ZV Ap Eo u IJ Md A8 A8 A8 Bl)<|Aa<|AP 1<|.Z (BJ Ad j)<|Aj<|DV (λz u=>⟨Az 32 [(0,BI q),(5,.aS 0),(13,Bf j),(14,AX (j.length:Int)),(15,AX u)],[(F8 z)],0⟩) _ _ _ _ (Ae [AU 1]) h<|λz u I L J h=>AZ<|Aa<|Bo h (λh=>Cm (λs=>∃(M:(AA AQ)),CO s ⟨Az 32 [(0,BI q),(5,.aS 0),(13,Bf j),(14,AX (j.length:Int)),(15,AX J)],[(F8 M)],0⟩/\a7Y u J M=some r) aHq<|λz=>Aj<|AO h λu I h=>BM<|.Z (BD Ad I)<|AO h λI J h=>AP 2<|.X (PU J)<|AZ<|BA h (λh=>AO h λu L h=>CU<|.a 2<|.p (EG IJ Md [Ap I.1])<|.f (Dk (k:=0) Ap L IJ A8 (λ_=>rfl) Bl)<|aEV) λh=>z _ ⟨L,Ae [AU 0],h⟩) λh=>JC
def a5I (j:BR)(q:BR)(u:Int):AL BR:=(I8 j u ((j).length)).bind λz=>(D5 32 q z).bind λI=>some I
def UO (j:BR)(u:Int)(q:BL)(z:Int):AL BR:=(zC j u q).bind λI=>(I8 j 0 I.1).bind λL=>(D5 32 [] L).bind λM=>(D5 32 M [(⟨u,q,z⟩:BK)]).bind λJ=>(cond I.2 (a5I j J (Au (I.1+1))) (a5I j J I.1))
def ZG {nJ Si CW X6 r}(h:UO nJ Si CW X6=some r):E8 261 [Dh nJ,AX Si,D8 CW,AX X6] [] (.aS 0) [(MP r)]:=Ec func261 rfl<|BM<|.f (CV 82 3)<|.aY<|AO h λu j h=>AP 3<|.X (aMY j)<|Bv h λj q J L h=>BM<|.f (Ht NZ RD [])<|.a 2<|.p (SE BO q (λ_=>rfl) Px qR Qx (λ_=>rfl) rfl)<|.Y (Dk (k:=1) BO L NZ A8 (λ_=>rfl) Bl)<|AO h λj q h=>AP 5<|.p (EG NZ RD [BO (⟨Si,CW,X6⟩:BK)])<|.Y (Dk (k:=2) BO q NZ A8 (λ_=>rfl) Bl)<|Cm (λs=>∃(I:Int),CO s ⟨Az 39 [(0,Dh nJ),(9,AX I),(11,.aS 0)],[(MP j)],0⟩/\a5I nJ j I=some r) (by rintro s ⟨I,hs,h⟩;exact D6 hs<|Bv h λu j q J h=>AP 3<|.p (SE BO j Px (λ_=>rfl) qR Qx (λ_=>rfl) rfl)<|.Y (Dk (k:=0) BO J NZ A8 (λ_=>rfl) Bl)<|Jm)<|λj=>AZ<|BA h (λh=>Cx<|j _ ⟨(Au (u.1+1)),Ae [AU 3],h⟩) λh=>j _ ⟨u.1,Ae [AU 3],h⟩
def oC (j:BR):AL BR:=some j
def xw (j:AQ):AL BR:=(cond (j.Kind==1) (some []) ((UO [] 1 CX 0).bind λJ=>(UO J 3 CX 0).bind λL=>(UO L 2 j.bU 0).bind λz=>(cond (j.Kind==2) ((UO z 2 j.Key 0).bind λI=>(cond (j.Content.N==3) (some true) (some (j.Content.N==1))).bind λM=>(cond M (some true) (some (j.Content.N==2))).bind λq=>(cond q ((UO I 4 CX 0).bind λu=>oC u) (oC I))) (oC z))))
def aUn :=LX func441 rfl xw DL MP λu r h=>AP 1<|.f (CV 82 3)<|.aY<|Aa<|AZ<|BA h (λh=>BM<|.f (CV 82 3)<|.aY<|MJ) λh=>BM<|.f (CV 82 3)<|.aY<|AO h λq j h=>AP 1<|.Y (Jr (eH:=[.aS 2,AX 1,D8 CX,AX 0]) (fH:=[.d (.sl (List.map BO [])),AX 1,D8 CX,AX 0]) (ZG j) (λq j=>Zv) yS ⟨⟨82,3,List.map BO [],A8,rfl⟩,rfl,rfl,rfl,trivial⟩ rfl)<|AO h λj z h=>AP 1<|.Y (Jr (eH:=[.aS 3,AX 3,D8 CX,AX 0]) (fH:=[.d (.sl (List.map BO q)),AX 3,D8 CX,AX 0]) (ZG z) (λq j=>Zv) yS ⟨⟨82,3,List.map BO q,A8,rfl⟩,rfl,rfl,rfl,trivial⟩ rfl)<|AO h λq z h=>AP 3<|.Y (Jr (eH:=[.aS 4,AX 2,D8 u.bU,AX 0]) (fH:=[.d (.sl (List.map BO j)),AX 2,D8 u.bU,AX 0]) (ZG z) (λq j=>Zv) yS ⟨⟨82,3,List.map BO j,A8,rfl⟩,rfl,rfl,rfl,trivial⟩ rfl)<|Cm (λs=>∃(J:(AA BK)),CO s ⟨Az 39 [(3,.aS 0)],[(MP J)],0⟩/\oC J=some r) aKQ<|λj=>AZ<|BA h (λh=>AO h λz I h=>AP 3<|.Y (Jr (eH:=[.aS 5,AX 2,D8 u.Key,AX 0]) (fH:=[.d (.sl (List.map BO q)),AX 2,D8 u.Key,AX 0]) (ZG I) (λq j=>Zv) yS ⟨⟨82,3,List.map BO q,A8,rfl⟩,rfl,rfl,rfl,trivial⟩ rfl)<|AZ<|AP 2<|AO h λq I h=>.mg 28 3 (Ag q) (.bi I)<|.a 1<|AO h λq I h=>.mg 33 2 (Ag q) (DC I)<|.aY<|BA h (λh=>AO h λq I h=>CU<|.a 1<|.f (Jr (eH:=[.aS 6,AX 4,D8 CX,AX 0]) (fH:=[.d (.sl (List.map BO z)),AX 4,D8 CX,AX 0]) (ZG I) (λq j=>Zv) yS ⟨⟨82,3,List.map BO z,A8,rfl⟩,rfl,rfl,rfl,trivial⟩ rfl)<|.aN<|j _ ⟨q,Ae [AU 7],h⟩) λh=>j _ ⟨z,Ae [AU 6],h⟩) λh=>j _ ⟨q,Ae [AU 5],h⟩
def a0R (j:AQ)(q:BK):AL AY:=(cond (j.Kind==q.Kind) (some (j.Key.toList==q.Key.toList)) (some false)).bind λu=>some u
def agU :=DW func459 rfl a0R DL (λj=>.d (.ref (BO j).cells 0)) Ag λq j r h=>AZ<|AP 5<|AO h λu z h=>.mg 9 6 (Ag u) (.bi z)<|.aW<|CY
def a7p (q:Ah)(j:BK):AL (AQ×AY):=(WH q (λa0=>a0R a0 j)).bind λu=>(cond (u<0) (some (Eo,false)) ((Ak q u).bind λz=>some (z,true)))
def adg :=DW func458 rfl a7p BI Xi (λr=>.eP [DL r.1,Ag r.2]) λu j r h=>AZ<|AO h λq z h=>AP 1<|.conv _ (TK (cs:=Ar (BO j)) 0 A8 A8)<|.p (x:=.d (.fn (.func 459) [] [(.ref (BO j).cells 0)])) (Po [(.ref (BO j).cells 0)] rfl)<|.X (xU u (λq=>a0R q j) (.fn (.func 459) [] [(.ref (BO j).cells 0)]) ⟨459,[(.ref (BO j).cells 0)],rfl,ami,λq z J=>agU J⟩ q z)<|Aa<|AZ<|BA h (λh=>AZ<|Eb<|by rw[←CM h];exact⟨[DL Eo,Ag false],[],⟨⟨1,Ar (Ap Eo),true,29,A8,A8,A8,Gg,DT A8,Ls,A8⟩,FU A8,trivial⟩,A8,A8,A8⟩) λh=>AO h λq z h=>AP 2<|.Z (BD Ap z)<|Eb<|by rw[←CM h];exact⟨[DL q,Ag true],[],⟨⟨1,Ar (Ap q),true,29,A8,A8,A8,Gg,DT A8,Ls,A8⟩,FU A8,trivial⟩,A8,A8,A8⟩
def a4q (j:(Ah->Int->AL Ah))(q:Int)(u:Ah):AL Ah:=j u (Au (q+1))
def a1z (I:(Ah->Int->AL Ah))(J:Int)(q:AY)(j:Ah)(u:AQ):AL Ah:=(cond q ((D5 376 j [u]).bind λz=>a4q I J z) (a4q I J j))
def aDr (O:BR)(Y:Ah)(q:BR)(u:Ah)(U:(Ah->Int->AL Ah)):Ah->Int->AL Ah:=λM L=>(cond (L<(O.length:Int)) ((Ak O L).bind λj=>(a7p Y j).bind λz=>(oI q j.Kind j.Key).bind λI=>(cond I.2 ((ND u I.1).bind λJ=>a1z U L J.2 M J.1) (a1z U L z.2 M z.1))) (some M))
def aMf (u:BR)(z:Ah)(j:BR)(q:Ah):Ah->Int->AL Ah:=aQ (aDr u z j q) Am
def a4S (j:Ah)(u:BR)(q:AQ):AL Ah:=(a6w j q.bI).bind λz=>(Jg 376 Eo 0 5).bind λI=>(xw q).bind λJ=>aMf J z u j I 0
def aiP {cZ sN jL r}(h:a4S cZ sN jL=some r):E8 456 [BI cZ,Dh sN,DL jL] [] (.aS 0) [(F8 r)]:=Ec func456 rfl<|AP 1<|.f (CV 38 29)<|.aY<|AO h λI q h=>AP 3<|.X (aXI q).view<|AO h λq j h=>BM<|.Y (ZV Ap Eo j IJ Md A8 A8 A8 Bl)<|Aa<|AO h λq j h=>AP 1<|.ca (aUn j).view<|.Z (BJ BO q)<|Aj<|DV (λj L=>⟨Az 56 [(0,BI cZ),(1,Dh sN),(7,BI I),(8,.aS 0),(21,Dh q),(22,AX (q.length:Int)),(23,AX L)],[(F8 j)],0⟩) _ _ _ _ (Ae [AU 2]) h<|λj L Y Z M h=>AZ<|Aa<|Bo h (λh=>Cm (λs=>∃(U:(AA AQ)),CO s ⟨Az 56 [(0,BI cZ),(1,Dh sN),(7,BI I),(8,.aS 0),(21,Dh q),(22,AX (q.length:Int)),(23,AX M)],[(F8 U)],0⟩/\a4q L M U=some r) (by rintro s ⟨U,hs,h⟩;exact D6 hs<|aBJ)<|λj=>Aj<|AO h λY O h=>BM<|.Z (BD BO O)<|AO h λO x9 h=>AP 2<|.X (adg x9)<|Cm (λs=>∃(J:AY) (u:(AA AQ)) (z:AQ),CO s ⟨Az 56 [(0,BI cZ),(1,Dh sN),(7,BI I),(8,.aS 0),(11,.ptr 1 0),(12,Ag J),(21,Dh q),(22,AX (q.length:Int)),(23,AX M)],[(F8 u),.box (Ar (Ap z))],0⟩/\a1z L M J u z=some r) (by rintro s ⟨J,u,z,hs,h⟩;exact D6 hs<|AZ<|BA h (λh=>AO h λI q h=>CU<|.a 2<|.p (EG IJ Md [Ap z])<|.f (Dk (k:=0) Ap q IJ A8 (λ_=>rfl) Bl)<|.aN<|j _ ⟨I,Ae [AU 2],h⟩) λh=>j _ ⟨u,Ae [AU 0],h⟩)<|λI=>AO h λq j h=>AP 5<|.X (aH6 j)<|AZ<|BA h (λh=>AO h λj L h=>CU<|.a 2<|.ca (PU L)<|.aN<|I _ ⟨j.2,Z,j.1,Ae [AU 0,AU 2],h⟩) λh=>I _ ⟨O.2,Z,O.1,Ae [AU 0,AU 2],h⟩) λh=>JC
def aFX (j:Ah)(k3:(Int->AQ->AL (AQ×AY))):Int->AQ->AL (AQ×AY):=λq v2=>(cond (q<(j.length:Int)) ((Ak j q).bind λu=>(cond (u.Kind==1) (some (u,true)) (k3 (Au (q+1)) v2))) (some (Eo,false)))
def aRm (j:Ah):Int->AQ->AL (AQ×AY):=aQ (aFX j) Am
def yU (j:Ah):AL (AQ×AY):=aRm j 0 Eo
def aLI :=Dc func223 rfl yU BI (λr=>.eP [DL r.1,Ag r.2]) λj r h=>AZ<|Aa<|AP 1<|.Z (BJ Ap j)<|Aj<|DV (λq u=>⟨Az 18 [(2,.ptr 0 0),(6,BI j),(7,AX (j.length:Int)),(8,AX q)],[.box (Ar (Ap u))],0⟩) _ _ _ _ (Ae [AU 0]) h<|λq u I J L h=>AZ<|Aa<|Bo h (λh=>Aa<|Aj<|AO h λq u h=>BM<|.Z (BD Ap u)<|AZ<|BA h (λh=>AZ<|Eb<|a7u) λh=>Tj) λh=>CZ<|AZ<|Eb<|a9C
def iW (j:Int):AL (Except BG Unit):=some (.error (.iface 263 (.agg #[.int .i64 ((⟨j⟩:mX).aqE)])))
def Wi {axC r}(h:iW axC=some r):RQ Aq 225 [AX axC] r (λr=>.eP []):=RQ.dV func225 rfl<|CU<|.a 2<|.p (x:=.d (.lit (.iface 263 (.agg #[.int .i64 ((⟨axC⟩:mX).aqE)])))) (aLO [.int .i64 ((⟨axC⟩:mX).aqE)] aeY)<|Dn.panic (t:=263) (u:=(.agg #[.int .i64 ((⟨axC⟩:mX).aqE)])) rfl A8 A8<|Or.inr ⟨_,(CM h).symm,rfl,A8⟩
def TD (j:AY)(q:Int):AL (Except BG Unit):=(cond (!j) ((iW q).bind λu=>Nb u λz=>some (.ok ())) (some (.ok ())))
def MB {aHX aKD r}(h:TD aHX aKD=some r):RQ Aq 224 [Ag aHX,AX aKD] r (λr=>.eP []):=RQ.dV func224 rfl<|AZ<|BA h (λh=>AO h λq j h=>by cases q with |error u=>exact(have h:=Pq h;CU<|.a 1<|Ph ((Wi j).2 u rfl) wI<|Or.inr ⟨_,(CM h).symm,rfl,A8⟩)|ok z=>exact(have h:=QE h;CU<|.a 1<|.ca ((Wi j).1 z rfl)<|a9j)) λh=>Or.inl ⟨(),(CM h).symm,(⟨[],[],trivial,A8,A8,A8⟩)⟩
def aD9 (j:Ah)(q:AQ)(I:(Int->AL AY)):Int->AL AY:=λu=>(cond (u<(j.length:Int)) ((Ak j u).bind λz=>(cond (z.Kind==2) (some (z.Key.toList==q.Key.toList)) (some false)).bind λJ=>(cond J (some false) (I (Au (u+1))))) (some true))
def aKA (j:Ah)(q:AQ):Int->AL AY:=bn (aD9 j q) Am
def dL (j:Ah)(q:AQ)(v2:AY):AL AY:=(cond v2 (some false) (aKA j q 0))
def a9i (j:AQ)(q:Ah):AL AY:=(yU q).bind λu=>(cond (!u.2) (dL q j true) (cond ((j.bG.length:Int) != 1) (dL q j true) ((Ak j.bG 0).bind λz=>(cond (z != u.1.Id) (dL q j true) (cond (!(j.bU.toList==u.1.bU.toList)) (dL q j true) (cond (!(j.Key.toList==u.1.bU.toList)) (dL q j true) (dL q j (j.Content.N != 3))))))))
def ab2 :=DW func280 rfl a9i DL BI Ag λj q r h=>AZ<|AO h λz u h=>AP 1<|.X (aLI u)<|Aa<|Cm (λs=>∃(v2:AY),CO s ⟨Az 68 [(1,BI q),(2,.ptr 0 0),(50,Ag v2)],[.box (Ar (Ap j))],0⟩/\dL q j v2=some r) (by rintro s ⟨v2,hs,h⟩;exact D6 hs<|BA h CB λh=>Aa<|AP 1<|.Z (BJ Ap q)<|Aj<|Dp (λz=>⟨Az 68 [(2,.ptr 0 0),(51,BI q),(52,AX (q.length:Int)),(53,AX z)],[.box (Ar (Ap j))],0⟩) _ _ _ (Ae [AU 0]) h<|λz u I J h=>AZ<|Aa<|Bo h (λh=>Aa<|Aj<|AO h λz u h=>BM<|.Z (BD Ap u)<|AP 3<|AO h λz u h=>.mg 60 6 (Ag z) (.bi u)<|aD3) λh=>El)<|λz=>EX h (λu h=>DN A8 A8 A8 (.a 2<|.c (BF some u)<|.a 34<|.nil _)<|z _ ⟨true,Ae [AU 0],h⟩) λu h=>EX h (λI h=>DN A8 A8 A8 (.a 2<|.c (BF some u)<|.a 2<|.p (BJ Ad j.bG)<|.a 2<|.c (BF some I)<|.a 28<|.nil _)<|z _ ⟨true,Ae [AU 0],h⟩) λI h=>AO h λJ L h=>EX h (λJ h=>DN A8 A8 A8 (.a 2<|.c (BF some u)<|.a 2<|.p (BJ Ad j.bG)<|.a 2<|.c (BF some I)<|.a 2<|.p (BD Ad L)<|.a 5<|.c (BF some J)<|.a 19<|.nil _)<|z _ ⟨true,Ae [AU 0],h⟩) λJ h=>EX h (λM h=>DN A8 A8 A8 (.a 2<|.c (BF some u)<|.a 2<|.p (BJ Ad j.bG)<|.a 2<|.c (BF some I)<|.a 2<|.p (BD Ad L)<|.a 5<|.c (BF some J)<|.a 6<|.c (BF some M)<|.a 12<|.nil _)<|z _ ⟨true,Ae [AU 0],h⟩) λM h=>EX h (λO h=>DN A8 A8 A8 (.a 2<|.c (BF some u)<|.a 2<|.p (BJ Ad j.bG)<|.a 2<|.c (BF some I)<|.a 2<|.p (BD Ad L)<|.a 5<|.c (BF some J)<|.a 6<|.c (BF some M)<|.a 6<|.c (BF some O)<|.a 5<|.nil _)<|z _ ⟨true,Ae [AU 0],h⟩) λO h=>DN A8 A8 A8 (.a 2<|.c (BF some u)<|.a 2<|.p (BJ Ad j.bG)<|.a 2<|.c (BF some I)<|.a 2<|.p (BD Ad L)<|.a 5<|.c (BF some J)<|.a 6<|.c (BF some M)<|.a 6<|.c (BF some O)<|.a 5<|.nil _)<|z _ ⟨(j.Content.N != 3),Ae [AU 0],h⟩
def aDL (j:Ah)(q:BL)(k2:(Int->AL Int)):Int->AL Int:=λu=>(cond (u<(j.length:Int)) ((Ak j u).bind λz=>(cond (z.Kind==2) ((Ak j u).bind λI=>some (I.Key.toList==q.toList)) (some false)).bind λJ=>(cond J ((Ak j u).bind λL=>some L.Content.N) (k2 (Au (u+1))))) (some 0))
def aWt (q:Ah)(j:BL):Int->AL Int:=bn (aDL q j) Am
def sD (q:Ah)(j:BL):AL Int:=aWt q j 0
def a1f :=DW func227 rfl sD BI D8 AX λj q r h=>AZ<|Aa<|AP 1<|.Z (BJ Ap j)<|Aj<|Dp (λz=>⟨Az 33 [(0,BI j),(1,D8 q),(7,AX (j.length:Int)),(8,AX z)],[],0⟩) _ _ _ (Ae []) h<|λz u I J h=>AZ<|Aa<|Bo h (λh=>Aa<|Aj<|AZ<|AO h λz u h=>AP 2<|.p (BD Ap u)<|.a 3<|AO h λz u h=>.mg 17 8 (Ag z) (.bi u (λh=>AO h λz u h=>.a 2<|.Z (BD Ap u)<|Cc))<|.aY<|BA h (λh=>AO h λz u h=>AP 2<|.Z (BD Ap u)<|CY) λh=>SQ) λh=>El
end
end Go.Proofs.YtfmoknlmaldmlaaGreat
