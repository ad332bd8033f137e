/- Part 3 of the laws' proofs (short forms by wip/shrink2.py). -/
import Derived.Test.YtfmoknlmaldmlaaGreatRc2
set_option linter.defProp false
set_option linter.unnecessarySimpa false
set_option linter.unusedSectionVars false
set_option linter.unusedVariables false
set_option linter.unusedSimpArgs false
namespace Go.Proofs.YtfmoknlmaldmlaaGreat
open Go.RowKit Go.Proofs.Tryz
variable {E E':AA Bc}{P:Ch}{ats:Bg Bq}{f:FuncId}{fE:AA Ah}{j res':Ah}{o:Oper}{ops:Bg Bz}{x:Bz}
section
variable {es:AA Bc}
def J9 (dY:AA Ah)(q:EW P f fE [] j E')(u:o.op=.call { callee:=.value (.func f),args:=ops,argTypes:=ats }:=by exact rfl)(z:Gw P f=true:=by kernel_rfl)(I:E'.all Bc.closed=true:=by kernel_rfl)(ha:NV [] dY fE:=by repeat (first|exact trivial|refine⟨.inl rfl,?_⟩|refine⟨.inr (.inr ⟨rfl,rfl⟩),?_⟩))(hl:ops.toList.length=dY.length:=by kernel_rfl)(J:j.up [] es.length=res':=by kernel_rfl):CB P o (Fh ops.toList dY) es res' (es++E'):=aCc q z I ha hl J u
def aRw (dY:AA Ah)(q:EW P f fE [] j [])(u:o.op=.call { callee:=.value (.func f),args:=ops,argTypes:=ats }:=by exact rfl)(z:Gw P f=true:=by kernel_rfl)(ha:NV [] dY fE:=by repeat (first|exact trivial|refine⟨.inl rfl,?_⟩|refine⟨.inr (.inr ⟨rfl,rfl⟩),?_⟩))(hl:ops.toList.length=dY.length:=by kernel_rfl)(I:j.up [] es.length=res':=by kernel_rfl):CB P o (Fh ops.toList dY) es res' es:=aSt q z ha hl I u
def EL (srcs:AA EN)(dY:AA Ah)(q:EW P f fE E j E')(u:o.op=.call { callee:=.value (.func f),args:=ops,argTypes:=ats }:=by exact rfl)(z:Gw P f=true:=by kernel_rfl)(I:Sm srcs es E E'=true:=by kernel_rfl)(hE:Qs srcs es srcs E:=by first|exact trivial|exact MZ A8 trivial)(ha:NV srcs dY fE:=by repeat (first|exact trivial|refine⟨.inl rfl,?_⟩|refine⟨⟨0,rfl,rfl⟩,?_⟩|refine⟨⟨1,rfl,rfl⟩,?_⟩|refine⟨⟨2,rfl,rfl⟩,?_⟩|refine⟨.inr (.inr ⟨rfl,rfl⟩),?_⟩))(hl:ops.toList.length=dY.length:=by kernel_rfl)(J:res'=j.up srcs es.length:=by kernel_rfl):CB P o (Fh ops.toList dY) es res' (MG srcs es E'):=aQY srcs q z I hE ha hl J u
def dR (srcs:AA EN)(fi ca dY:AA Ah)(q:EW P f fE E j E')(u:o.op=.call { callee:=.value x,args:=ops,argTypes:=ats }:=by exact rfl)(z:Gw P f=true:=by kernel_rfl)(I:Sm srcs es E E'=true:=by kernel_rfl)(hE:Qs srcs es srcs E:=by first|exact trivial|exact MZ A8 trivial)(ha:NV srcs (fi++dY++ca) fE:=by repeat (first|exact trivial|refine⟨.inl rfl,?_⟩|refine⟨⟨0,rfl,rfl⟩,?_⟩|refine⟨⟨1,rfl,rfl⟩,?_⟩|refine⟨⟨2,rfl,rfl⟩,?_⟩|refine⟨.inr (.inr ⟨rfl,rfl⟩),?_⟩))(hl:ops.toList.length=dY.length:=by kernel_rfl)(J:res'=j.up srcs es.length:=by kernel_rfl):CB P o ((x,.fn (.func f) fi ca)::Fh ops.toList dY) es res' (MG srcs es E'):=ahA srcs fi ca q z I hE ha hl J u
def aPT (srcs:AA EN)(fi ca:AA D)(dY:AA Ah)(q:EW P f fE E j E')(u:o.op=.call { callee:=.value x,args:=ops,argTypes:=ats }:=by exact rfl)(z:Gw P f=true:=by kernel_rfl)(I:Sm srcs es E E'=true:=by kernel_rfl)(hE:Qs srcs es srcs E:=by first|exact trivial|exact MZ A8 trivial)(ha:NV srcs (fi.map .d++dY++ca.map .d) fE:=by repeat (first|exact trivial|refine⟨.inl rfl,?_⟩|refine⟨⟨0,rfl,rfl⟩,?_⟩|refine⟨⟨1,rfl,rfl⟩,?_⟩|refine⟨⟨2,rfl,rfl⟩,?_⟩|refine⟨.inr (.inr ⟨rfl,rfl⟩),?_⟩))(hl:ops.toList.length=dY.length:=by kernel_rfl)(J:res'=j.up srcs es.length:=by kernel_rfl):CB P o ((x,.d (.fn (.func f) fi ca))::Fh ops.toList dY) es res' (MG srcs es E'):=acO srcs fi ca q z I hE ha hl J u
end
variable {K:Exit->BP->Prop}{dY:AA Ah}{l rest:AA Oper}{ops:Bg Oper}{σ:BP}
def Dj.ca (q:EW P f dY [] j [])(k:Dj P ops rest (σ.tX o.dst (j.up [] σ.ents.length)) K)(u:Gw P f=true:=by kernel_rfl)(z:Uw σ o=some (f,dY):=by kernel_rfl)(hd:dY.all Ah.C9=true:=by kernel_rfl)(I:Ju ops σ o.guard=some true:=by kernel_rfl):Dj P ops (o::rest) σ K:=.call q u k z hd I
def FT.ca {σ':BP}{rs:AA Ah}{ess:AA (AA Bc)}{bs:AA AV}(q:EW P f dY [] j [])(k:FT P ops rest (σ.tX o.dst (j.up [] σ.ents.length)) rs ess bs σ')(u:Gw P f=true:=by kernel_rfl)(z:Uw σ o=some (f,dY):=by kernel_rfl)(hd:dY.all Ah.C9=true:=by kernel_rfl)(I:Ju ops σ o.guard=some true:=by kernel_rfl):FT P ops (o::rest) σ (j.up [] σ.ents.length::rs) (σ.ents::ess) (false::bs) σ':=.call q u k z hd I
variable {A:Type}{M:BP->Prop}{b:AV}{ns:AA (Bz×Ah)}{x:Ah}{u v z:A}
def Dj.aW [T:Kn P](k:M (Nh (GI T ops l.length l σ)))(h:(GI T ops l.length l σ).isSome=true:=by kernel_rfl):Dj P ops l σ (JG M K):=.aM l.length k rfl h
def Dj.Z [T:Kn P](h:CB P o ns σ.ents x σ.ents)(k:M (Nh (GI T ops rest.length rest (σ.tX o.dst x))))(j:(ns.map λn=>σ.get n.1)=ns.map (·.2):=by kernel_rfl)(q:Ju ops σ o.guard=some true:=by kernel_rfl)(u:(OG ns).all (tmpsOf o).contains=true:=by kernel_rfl)(hh:(GI T ops rest.length rest (σ.tX o.dst x)).isSome=true:=by kernel_rfl):Dj P ops (o::rest) σ (JG M K):=Dj.p h (Dj.aW k hh) j q u
def Dj.Y [T:Kn P]{es':AA Bc}(h:CB P o ns σ.ents x es')(k:M (Nh (GI T ops rest.length rest (σ.put o.dst x es'))))(j:(ns.map λn=>σ.get n.1)=ns.map (·.2):=by kernel_rfl)(q:Ju ops σ o.guard=some true:=by kernel_rfl)(u:(OG ns).all (tmpsOf o).contains=true:=by kernel_rfl)(hh:(GI T ops rest.length rest (σ.put o.dst x es')).isSome=true:=by kernel_rfl):Dj P ops (o::rest) σ (JG M K):=Dj.f h (Dj.aW k hh) j q u
def Dj.X [T:Kn P](q:EW P f dY [] j [])(k:M (Nh (GI T ops rest.length rest (σ.tX o.dst (j.up [] σ.ents.length)))))(u:Gw P f=true:=by kernel_rfl)(z:Uw σ o=some (f,dY):=by kernel_rfl)(hd:dY.all Ah.C9=true:=by kernel_rfl)(I:Ju ops σ o.guard=some true:=by kernel_rfl)(hh:(GI T ops rest.length rest (σ.tX o.dst (j.up [] σ.ents.length))).isSome=true:=by kernel_rfl):Dj P ops (o::rest) σ (JG M K):=Dj.ca q (Dj.aW k hh) u z hd I
def Dj.bi [T:Kn P](h:(cond b u v)=z)(j:u=z->Dj P ops rest (σ.tX o.dst (.d (.lit (.bool true)))) K:=by exact λh=>.aW<|Ce)(k2:v=z->Dj P ops rest (σ.tX o.dst (.d (.lit (.bool false)))) K:=by exact λh=>.aW<|Ce)(hs:(Xx T ops σ o).map (λr=>(r.x,r.E,r.bar))=some (.d (.lit (.bool b)),σ.ents,false):=by kernel_rfl):Dj P ops (o::rest) σ K:=EI h (λe h=>.c (Au some e) (j h) hs) λe h=>.c (Au some e) (k2 h) hs
def Cc {G:Prop}(h:(cond b u v)=z)(j:b=true->u=z->G:=by exact λe i=>aPS)(k2:b=false->v=z->G:=by exact λe i=>aPS):G:=EI h j k2
def AY [T:Kn P]{id:Nat}{y:Code}{Q:Exit->BP->Prop}(k:Bh P y (Nh (GI T ops ops.toList.length ops.toList σ)) Q)(h:(GI T ops ops.toList.length ops.toList σ).isSome=true:=by kernel_rfl):Bh P (.seq (.region id ops false) y) σ Q:=BO (.aW k h)
def Dj.mg (a c:Nat)(x:Ah)(h1:Dj P ops (l.take (c+1)) σ (JG (λs=>s.wipe (List.range' a c)=(σ.wipe (List.range' a c)).tX (some (a+c)) x) K))(h2:Dj P ops (l.drop (c+1)) ((σ.wipe (List.range' a c)).tX (some (a+c)) x) K):Dj P ops l σ K:=.merge (c+1) (List.range' a c) (a+c) x h1 h2
variable {α β:Type}{g:α->AB (Except BD β)}{r:Except BD β}
def Og {y:α}(h:Le (.ok y) g=some r):g y=some r:=h
def Oi {u:BD}(h:Le (.error u) g=some r):some (.error u)=some r:=h
def Ci :BL:=⟨#[]⟩
def oZ (k:IntKind)(n:Int):D:=.lit (.int k n)
def aKM :BL:=⟨#[33,114,58,97]⟩
def uJ :BL:=⟨#[58]⟩
def a3K :BL:=⟨#[33]⟩
def aC3 :BL:=⟨#[64]⟩
def aBS :BL:=⟨#[64,33]⟩
def Io :BL:=⟨#[84,101,120,116]⟩
def JO :BL:=⟨#[78]⟩
def MO :BL:=⟨#[86,105,97]⟩
def MQ :BL:=⟨#[76,101,118,101,108,115]⟩
def Kr :BL:=⟨#[65,108,108,111,119]⟩
def MK :BL:=⟨#[68,101,110,121]⟩
def JW :BL:=⟨#[84,97,114,103,101,116]⟩
def Mc :BL:=⟨#[84,104,114,101,97,100]⟩
def aGC :BL:=⟨#[64,117,58,97]⟩
def aQj :BL:=⟨#[97]⟩
def Ee :BD:=.int .i64 0
def EO :BD:=.string Ci
def Gv :BD:=.slice none 0 0
def a6k :BD:=.agg #[Gv,Gv,Ee,Ee,Ee,Ee,Ee,Ee,Ee]
def aCD :BD:=.agg #[EO,Ee,Ee,.bool false,EO,Gv,Gv,Gv,Gv,Ee,Ee,Ee,Ee,Ee,Ee,Ee]
def a2D :BD:=.agg #[EO,Ee]
def a2Z :BD:=.agg #[Ee,EO,EO,Ee,.bool false,EO,Ee,Ee,Gv,Gv,EO,Ee,Ee,.bool false,EO,Gv,Gv,Gv,Gv,Ee,Ee,Ee,Ee,Ee,Ee,Ee,Ee,EO,Ee]
def aAz :BD:=.agg #[EO,Gv,Gv,Gv,Gv,Gv,Ee,Gv,Gv]
def a5f :BD:=.agg #[Ee,Ee,Ee,.bool false]
def a5P :BD:=.agg #[Ee,EO,Ee]
def a3P :BD:=.agg #[Ee,.nilFunc]
def aBG :BD:=.agg #[.map none,.map none,.map none]
def a7j :BD:=.agg #[EO,Ee]
def aBs :BD:=.agg #[Ee,Gv,Gv,Ee]
def a3j :BD:=.agg #[Gv]
def aOn :BD:=.agg #[Ee,Ee]
def a4j :BD:=.agg #[Ee,Ee,Ee,Ee,Ee,Ee,Ee]
def aQf :BD:=.agg #[Gv,Gv,Gv]
def aBM :BD:=.agg #[Ee,Ee]
def aBt :BD:=.agg #[Ee]
def aAf :BD:=.agg #[Ee,.nilFunc]
def aP8 :BD:=.agg #[Gv,Gv,Gv,Gv,Gv]
def a3M :BD:=.agg #[]
def a3r :BD:=.agg #[Gv]
def aA6 :BD:=.agg #[Ee,Ee,Ee,Ee,Ee]
def a1p :BD:=.agg #[Gv,Gv]
def a2x :BD:=.agg #[Gv,Gv]
def a2e :BD:=.agg #[Ee,EO]
def a1e :BD:=.agg #[]
def aB0 :BD:=.agg #[Ee,Ee,Ee,Gv]
def a4G :BD:=.agg #[Ee,Ee,Ee]
structure H6 where
 User:ByteArray
 N:Int
def F5 (x:H6):D:=.agg [DT x.User,Ad x.N]
def alf :H6:=⟨Ci,0⟩
instance : Inhabited H6:=⟨alf⟩
structure J5 where
 Kind:Int
 N:Int
def Ey (x:J5):D:=.agg [Ad x.Kind,Ad x.N]
def al5 :J5:=⟨0,0⟩
instance : Inhabited J5:=⟨al5⟩
structure Cm where
 Users:(List H6)
 Kinds:(List J5)
 User:Int
 Message:Int
 State:Int
 gV:Int
 kN:Int
 oK:Int
 iq:Int
def F8 (x:Cm):D:=.agg [(BQ F5) x.Users,(BQ Ey) x.Kinds,Ad x.User,Ad x.Message,Ad x.State,Ad x.gV,Ad x.kN,Ad x.oK,Ad x.iq]
def Jw :Cm:=⟨[],[],0,0,0,0,0,0,0⟩
instance : Inhabited Cm:=⟨Jw⟩
structure D7 where
 Text:ByteArray
 N:Int
 Target:Int
 Thread:Bool
 Via:ByteArray
 Allow:(List ByteArray)
 iw:(List ByteArray)
 Levels:Cm
def Fl (x:D7):D:=.agg [DT x.Text,Ad x.N,Ad x.Target,Dt x.Thread,DT x.Via,(BQ DT) x.Allow,(BQ DT) x.iw,(BQ F5) x.Levels.Users,(BQ Ey) x.Levels.Kinds,Ad x.Levels.User,Ad x.Levels.Message,Ad x.Levels.State,Ad x.Levels.gV,Ad x.Levels.kN,Ad x.Levels.oK,Ad x.Levels.iq]
def Eu :D7:=⟨Ci,0,0,false,Ci,[],[],Jw⟩
instance : Inhabited D7:=⟨Eu⟩
structure OW where
 Server:ByteArray
 Sum:Int
def aZR (x:OW):D:=.agg [DT x.Server,Ad x.Sum]
def ah :OW:=⟨Ci,0⟩
instance : Inhabited OW:=⟨ah⟩
structure Aa where
 Id:Int
 Room:ByteArray
 bQ:ByteArray
 Kind:Int
 State:Bool
 Key:ByteArray
 Time:Int
 Depth:Int
 bG:(List Int)
 bJ:(List Int)
 Content:D7
 Hash:Int
 nM:OW
def BH (x:Aa):D:=.agg [Ad x.Id,DT x.Room,DT x.bQ,Ad x.Kind,Dt x.State,DT x.Key,Ad x.Time,Ad x.Depth,(BQ Ad) x.bG,(BQ Ad) x.bJ,DT x.Content.Text,Ad x.Content.N,Ad x.Content.Target,Dt x.Content.Thread,DT x.Content.Via,(BQ DT) x.Content.Allow,(BQ DT) x.Content.iw,(BQ F5) x.Content.Levels.Users,(BQ Ey) x.Content.Levels.Kinds,Ad x.Content.Levels.User,Ad x.Content.Levels.Message,Ad x.Content.Levels.State,Ad x.Content.Levels.gV,Ad x.Content.Levels.kN,Ad x.Content.Levels.oK,Ad x.Content.Levels.iq,Ad x.Hash,DT x.nM.Server,Ad x.nM.Sum]
def FU :Aa:=⟨0,Ci,Ci,0,false,Ci,0,0,[],[],Eu,0,ah⟩
instance : Inhabited Aa:=⟨FU⟩
structure FB where
 Pos:Int
 Id:Int
 Status:Int
 Gone:Bool
def Ea (x:FB):D:=.agg [Ad x.Pos,Ad x.Id,Ad x.Status,Dt x.Gone]
def KC :FB:=⟨0,0,0,false⟩
instance : Inhabited FB:=⟨KC⟩
structure BM where
 Kind:Int
 Key:ByteArray
 Id:Int
def BR (x:BM):D:=.agg [Ad x.Kind,DT x.Key,Ad x.Id]
def agr :BM:=⟨0,Ci,0⟩
instance : Inhabited BM:=⟨agr⟩
structure TW where
 User:ByteArray
 Thread:Int
 Id:Int
 Time:Int
def OE (x:TW):D:=.agg [DT x.User,Ad x.Thread,Ad x.Id,Ad x.Time]
def ajj :TW:=⟨Ci,0,0,0⟩
instance : Inhabited TW:=⟨ajj⟩
structure Tv where
 User:ByteArray
 Until:Int
def O6 (x:Tv):D:=.agg [DT x.User,Ad x.Until]
def ajh :Tv:=⟨Ci,0⟩
instance : Inhabited Tv:=⟨ajh⟩
structure CJ where
 Id:ByteArray
 Events:(List Aa)
 Rows:(List FB)
 Waiting:(List Aa)
 mJ:(List Int)
 State:(List BM)
 Next:Int
 jO:(List TW)
 oG:(List Tv)
def CZ (x:CJ):D:=.agg [DT x.Id,(BQ BH) x.Events,(BQ Ea) x.Rows,(BQ BH) x.Waiting,(BQ Ad) x.mJ,(BQ BR) x.State,Ad x.Next,(BQ OE) x.jO,(BQ O6) x.oG]
def LJ :CJ:=⟨Ci,[],[],[],[],[],0,[],[]⟩
instance : Inhabited CJ:=⟨LJ⟩
structure OT where
 aEd:Int
 aCz:Nat
def Uz (x:OT):D:=.agg [Ad x.aEd,aUs x.aCz]
def ajK :OT:=⟨0,0⟩
instance : Inhabited OT:=⟨ajK⟩
structure FZ where
 b_:(List Int)
def Lj (x:FZ):D:=.agg [(BQ Dh) x.b_]
def aJX :FZ:=⟨[]⟩
instance : Inhabited FZ:=⟨aJX⟩
structure SX where
 pJ:Int
 nN:Int
def Jh (x:SX):D:=.agg [Ad x.pJ,Ad x.nN]
def a7g :SX:=⟨0,0⟩
instance : Inhabited SX:=⟨a7g⟩
structure iR where
 apo:Int
def aiP :iR:=⟨0⟩
instance : Inhabited iR:=⟨aiP⟩
structure Zp where
def sO (x:Zp):D:=.agg []
def aj2 :Zp:=⟨⟩
instance : Inhabited Zp:=⟨aj2⟩
structure OQ where
 IG:(List BM)
 amb:(List Int)
 avK:(List Int)
def fC (x:OQ):D:=.agg [(BQ BR) x.IG,(BQ Ad) x.amb,(BQ Ad) x.avK]
def a0z :OQ:=⟨[],[],[]⟩
instance : Inhabited OQ:=⟨a0z⟩
structure RN where
 nN:Int
 SG:Int
 CX:Int
 aCA:(List Int)
def Ky (x:RN):D:=.agg [Ad x.nN,Ad x.SG,Ad x.CX,(BQ Ad) x.aCA]
def anK :RN:=⟨0,0,0,[]⟩
instance : Inhabited RN:=⟨anK⟩
structure UW where
 adD:Int
 adE:ByteArray
def Kz (x:UW):D:=.agg [Ad x.adD,DT x.adE]
def aic :UW:=⟨0,Ci⟩
instance : Inhabited UW:=⟨aic⟩
structure Zx where
 aAM:(List Int)
def a0T (x:Zx):D:=.agg [(BQ Ad) x.aAM]
def afL :Zx:=⟨[]⟩
instance : Inhabited Zx:=⟨afL⟩
structure Ku where
 nN:Int
 zK:Int
 CX:Int
def Oo (x:Ku):D:=.agg [Ad x.nN,Ad x.zK,Ad x.CX]
def aYX :Ku:=⟨0,0,0⟩
instance : Inhabited Ku:=⟨aYX⟩
structure IU where
 Id:Int
 Before:(List BM)
 After:(List BM)
 Err:Int
def LQ (x:IU):D:=.agg [Ad x.Id,(BQ BR) x.Before,(BQ BR) x.After,Ad x.Err]
def Vd :IU:=⟨0,[],[],0⟩
instance : Inhabited IU:=⟨Vd⟩
structure OX where
 Same:(List BM)
 Power:(List Int)
 First:(List BM)
 Others:(List Int)
 Last:(List BM)
def aj (x:OX):D:=.agg [(BQ BR) x.Same,(BQ Ad) x.Power,(BQ BR) x.First,(BQ Ad) x.Others,(BQ BR) x.Last]
def Xq :OX:=⟨[],[],[],[],[]⟩
instance : Inhabited OX:=⟨Xq⟩
def aXr :E9 Ak 38 10 10:=EH A8
def UE :Eb Ak 34 true 16:=FW A8
def aOx :(Ak.info? 34).bind (·.zero)=some (aCD):=A8
def ahz :E9 Ak 38 8 8:=EH A8
def aL7 :Eb Ak 27 false 1:=FW A8
def Ij :Ak.underlying 27=some (.slice 3):=A8
def ahl :E9 Ak 38 9 9:=EH A8
def alS :E9 Ak 34 5 5:=EH A8
def ajx :Eb Ak 28 false 1:=FW A8
def abj :Ak.underlying 28=some (.slice 9):=A8
def ak0 :E9 Ak 34 6 6:=EH A8
def af5 :E9 Ak 34 7 7:=EH A8
def anM :E9 Ak 32 0 0:=EH A8
def aNU :Eb Ak 29 false 1:=FW A8
def aSq :Ak.underlying 29=some (.slice 146):=A8
def acR :E9 Ak 32 1 1:=EH A8
def aXE :Eb Ak 30 false 1:=FW A8
def aUg :Ak.underlying 30=some (.slice 221):=A8
def amM :E9 Ak 38 1 1:=EH A8
def QD :Eb Ak 9 false 1:=FW A8
def Gm :Ak.underlying 9=some (.string):=A8
def aaV :E9 Ak 38 2 2:=EH A8
def aZZ :E9 Ak 38 5 5:=EH A8
def alW :E9 Ak 34 0 0:=EH A8
def am7 :E9 Ak 34 4 4:=EH A8
def aaW :E9 Ak 38 12 27:=EH A8
def akI :E9 Ak 36 0 0:=EH A8
def akM :Eb Ak 146 true 2:=FW A8
def aZT :E9 Ak 146 0 0:=EH A8
def MV :Ak.underlying 22=some (.slice 38):=A8
def Gx :Eb Ak 38 true 29:=FW A8
def aZj :E9 Ak 34 1 1:=EH A8
def Em :Eb Ak 3 false 1:=FW A8
def ak2 :Iw Ak 34 [(0,1),(1,1),(2,1),(3,1),(4,1),(5,1),(6,1),(7,9)] (aCD):=Kq A8 aOx A8
def Yj :Eb Ak 32 true 9:=FW A8
def aYS :E9 Ak 34 2 2:=EH A8
def Nz :(Ak.info? 38).bind (·.zero)=some (a2Z):=A8
def adp :E9 Ak 38 3 3:=EH A8
def Wu :Eb Ak 26 false 1:=FW A8
def apN :Aw 192=true:=A8
def ajs :E9 Ak 146 1 1:=EH A8
def aiD :Eb Ak 221 true 2:=FW A8
def aeY :E9 Ak 221 0 0:=EH A8
def aiy :E9 Ak 221 1 1:=EH A8
def amN :E9 Ak 32 2 2:=EH A8
def abZ :E9 Ak 32 3 3:=EH A8
def agf :E9 Ak 32 4 4:=EH A8
def aYs :E9 Ak 32 5 5:=EH A8
def ajG :E9 Ak 32 6 6:=EH A8
def ait :E9 Ak 32 7 7:=EH A8
def ahH :E9 Ak 32 8 8:=EH A8
def aco :E9 Ak 34 3 3:=EH A8
def aGr :Eb Ak 4 false 1:=FW A8
def aSd :Ak.underlying 4=some (.bool):=A8
def asv :Aw 181=true:=A8
def atY :Aw 182=true:=A8
def aes :E9 Ak 38 0 0:=EH A8
def aeW :E9 Ak 38 4 4:=EH A8
def ach :E9 Ak 38 6 6:=EH A8
def aYY :E9 Ak 38 7 7:=EH A8
def apS :Aw 43=true:=A8
def ant :Aw 106=true:=A8
def aib :E9 Ak 38 11 26:=EH A8
def aYy :E9 Ak 36 1 1:=EH A8
def PL :Ak.underlying 3=some (.int .i64):=A8
def acr :Ak.underlying 202=some (.int .u64):=A8
def a15 :Ak.underlying 5=some (.int .u8):=A8
def JC :G6 Ak 95 5 1 1:=JU A8
def Ql :(Ak.info? 5).bind (·.zero)=some (.int .u8 0):=A8
def ao8 :Aw 194=true:=A8
def ZU :Aw 117=true:=A8
def a5C :Ak.underlying 95=some (.slice 5):=A8
def aIl :Aw 116=true:=A8
def Df :G6 Ak 27 3 1 8:=JU A8
def zero3 :(Ak.info? 3).bind (·.zero)=some (.int .i64 0):=A8
def aXR :Aw 328=true:=A8
def aSU :Aw 329=true:=A8
def zero32 :(Ak.info? 32).bind (·.zero)=some (a6k):=A8
def ani :Aw 330=true:=A8
def aji :Eb Ak 5 false 1:=FW A8
def as7 :Aw 196=true:=A8
def apn :Aw 195=true:=A8
def as1 :Aw 265=true:=A8
def arP :Aw 119=true:=A8
def asT :Aw 193=true:=A8
def apI :Aw 114=true:=A8
def aqp :Aw 36=true:=A8
def arq :Aw 115=true:=A8
def at7 :Aw 183=true:=A8
def aol :Aw 197=true:=A8
def apa :Aw 198=true:=A8
def aeS :E9 Ak 45 1 1:=EH A8
def akB :Eb Ak 22 false 1:=FW A8
def aAE :Aw 125=true:=A8
def anr :Aw 268=true:=A8
def abm :Ak.underlying 203=some (.int .u64):=A8
def apD :Aw 199=true:=A8
def aqe :Aw 200=true:=A8
def aqg :Aw 126=true:=A8
def Ob :Eb Ak 45 true 9:=FW A8
def apq :Aw 51=true:=A8
def arj :Aw 107=true:=A8
def ao7 :Aw 122=true:=A8
def arZ :Aw 121=true:=A8
def aqE :Aw 120=true:=A8
def ZG :(Ak.info? 79).bind (·.zero)=some (a5f):=A8
def akO :E9 Ak 45 2 2:=EH A8
def ahQ :Eb Ak 39 false 1:=FW A8
def aQo :Ak.underlying 39=some (.slice 79):=A8
def qw :Eb Ak 79 true 4:=FW A8
def aXQ :E9 Ak 79 1 1:=EH A8
def ajz :Iw Ak 79 [(0,1),(1,1),(2,1),(3,1)] (a5f):=Kq A8 ZG A8
def ar5 :Aw 32=true:=A8
def afc :E9 Ak 79 2 2:=EH A8
def aFh :Eb Ak 71 false 1:=FW A8
def apF :Aw 124=true:=A8
def arA :Aw 123=true:=A8
def agI :E9 Ak 45 0 0:=EH A8
def aqA :Aw 47=true:=A8
def ao5 :Aw 48=true:=A8
def aYR :E9 Ak 45 5 5:=EH A8
def aeP :Eb Ak 41 false 1:=FW A8
def oV :Ak.underlying 41=some (.slice 82):=A8
def QV :Eb Ak 82 true 3:=FW A8
def QM :(Ak.info? 82).bind (·.zero)=some (a5P):=A8
def agp :E9 Ak 82 0 0:=EH A8
def aeL :E9 Ak 82 1 1:=EH A8
def aY8 :E9 Ak 82 2 2:=EH A8
def aqc :Aw 50=true:=A8
def ac5 :Aw 33=true:=A8
def ahu :Iw Ak 38 [(0,1),(1,1),(2,1),(3,1),(4,1),(5,1),(6,1),(7,1),(8,1),(9,1),(10,16),(26,1),(27,2)] (a2Z):=Kq A8 Nz A8
def J7 :G6 Ak 22 38 29 376:=JU A8
def TJ :G6 Ak 39 79 4 32:=JU A8
def aU7 :(Ak.info? 45).bind (·.zero)=some (aAz):=A8
def am8 :Iw Ak 45 [(0,1),(1,1),(2,1),(3,1),(4,1),(5,1),(6,1),(7,1),(8,1)] (aAz):=Kq A8 aU7 A8
def aqx :Aw 342=true:=A8
def aoA :Aw 274=true:=A8
def atN :Aw 271=true:=A8
def apM :Aw 269=true:=A8
def alF :Aw 272=true:=A8
def aj1 :Aw 270=true:=A8
def apG :Aw 203=true:=A8
def aoT :Aw 204=true:=A8
def aqu :Aw 202=true:=A8
def atF :Aw 201=true:=A8
def aoV :Aw 130=true:=A8
def arM :Aw 166=true:=A8
def anW :Aw 89=true:=A8
def anx :Aw 277=true:=A8
def as8 :Aw 214=true:=A8
def apA :Aw 215=true:=A8
def uY :(Ak.info? 146).bind (·.zero)=some (a7j):=A8
def aPy :(Ak.info? 221).bind (·.zero)=some (aOn):=A8
def aQc :(Ak.info? 222).bind (·.zero)=some (a4j):=A8
def aaN :gJ Ak 222 1 (a4j):=aCC A8 aQc A8
def a1H :Ak.underlying 222=some (.array 7 3):=A8
def apc :Aw 134=true:=A8
def atA :Aw 60=true:=A8
def NZ :G6 Ak 28 9 1 16:=JU A8
def wP :G6 Ak 29 146 2 24:=JU A8
def aEH :G6 Ak 30 221 2 16:=JU A8
def aqf :Aw 291=true:=A8
def aqh :Aw 238=true:=A8
def aoP :Aw 239=true:=A8
def aog :Aw 240=true:=A8
def as2 :Aw 149=true:=A8
def anS :Aw 289=true:=A8
def anj :Aw 290=true:=A8
def atW :Aw 354=true:=A8
def ars :Aw 355=true:=A8
def anp :Aw 358=true:=A8
def asF :Aw 292=true:=A8
def at1 :Aw 356=true:=A8
def atb :Aw 357=true:=A8
def atT :Aw 293=true:=A8
def aIz :(Ak.info? 276).bind (·.zero)=some (aAf):=A8
def aiU :Iw Ak 276 [(0,1),(1,1)] (aAf):=Kq A8 aIz A8
def ahe :G6 Ak 277 276 2 16:=JU A8
def abg :Ak.underlying 277=some (.slice 276):=A8
def aZ0 :Eb Ak 276 true 2:=FW A8
def aZp :E9 Ak 276 0 0:=EH A8
def afD :E9 Ak 276 1 1:=EH A8
def aat :Eb Ak 236 false 1:=FW A8
def arQ :Aw 300=true:=A8
def aeJ :Aw 294=true:=A8
def aXq :Aw 295=true:=A8
def ahJ :Aw 296=true:=A8
def aXV :Aw 297=true:=A8
def abB :Aw 298=true:=A8
def ai3 :Aw 299=true:=A8
def aoa :Aw 301=true:=A8
def aos :Aw 231=true:=A8
def aov :Aw 232=true:=A8
def aoH :Aw 233=true:=A8
def apO :Aw 234=true:=A8
def wJ (x y:H6):AV:=(x.User.toList==y.User.toList&&(x.N==y.N&&true))
def aaH (x y:H6):VA Ak 2 146 [.string x.User,.int .i64 x.N] [.string y.User,.int .i64 y.N] (wJ x y):=⟨λd w=>Y8 A8 A8 A8 (l:=[(9,0),(3,1)]) A8 (KY (G5 QD A8 w) (G5 QD A8 w) (xu w _ _ _ _ Gm)<|KY (G5 Em A8 w) (G5 Em A8 w) (OY w _ _ .i64 _ _ _ PL)<|Y3 _ _ _ _)⟩
def ab9 :Program.eqGuardType Ak (Program.depth Ak) 146=false:=A8
def aIp :Ak.underlying 26=some (.int .i64):=A8
def wW (x y:J5):AV:=(x.Kind==y.Kind&&(x.N==y.N&&true))
def aln (x y:J5):VA Ak 2 221 [.int .i64 x.Kind,.int .i64 x.N] [.int .i64 y.Kind,.int .i64 y.N] (wW x y):=⟨λd w=>Y8 A8 A8 A8 (l:=[(26,0),(3,1)]) A8 (KY (G5 Wu A8 w) (G5 Wu A8 w) (OY w _ _ .i64 _ _ _ aIp)<|KY (G5 Em A8 w) (G5 Em A8 w) (OY w _ _ .i64 _ _ _ PL)<|Y3 _ _ _ _)⟩
def adB :Program.eqGuardType Ak (Program.depth Ak) 221=false:=A8
def aqo :Aw 235=true:=A8
def asn :Aw 236=true:=A8
def aqM :Aw 237=true:=A8
def aMP :(Ak.info? 209).bind (·.zero)=some (a3j):=A8
def ajg :Iw Ak 209 [(0,1)] (a3j):=Kq A8 aMP A8
def aa8 :E9 Ak 209 0 0:=EH A8
def akD :Eb Ak 95 false 1:=FW A8
def ase :Aw 206=true:=A8
def as5 :Aw 205=true:=A8
def zero9 :(Ak.info? 9).bind (·.zero)=some (.string Ci):=A8
def aoL :Aw 208=true:=A8
def aom :Aw 207=true:=A8
def ah0 :G6 Ak 258 4 1 1:=JU A8
def tV :(Ak.info? 4).bind (·.zero)=some (.bool false):=A8
def aiK :Ak.underlying 258=some (.slice 4):=A8
def aqd :Aw 210=true:=A8
def at6 :Aw 209=true:=A8
def a4t :G6 Ak 244 27 1 24:=JU A8
def nG :(Ak.info? 27).bind (·.zero)=some (.slice none 0 0):=A8
def a5u :Ak.underlying 244=some (.slice 27):=A8
def as4 :Aw 343=true:=A8
def aqO :Aw 275=true:=A8
def ar0 :Aw 212=true:=A8
def asY :Aw 211=true:=A8
def apX :Aw 131=true:=A8
def aNn :(Ak.info? 36).bind (·.zero)=some (a2D):=A8
def abr :Iw Ak 36 [(0,1),(1,1)] (a2D):=Kq A8 aNn A8
def aZu :Eb Ak 36 true 2:=FW A8
def apU :Aw 132=true:=A8
def aqB :Aw 147=true:=A8
def apd :Aw 137=true:=A8
def atO :Aw 148=true:=A8
def ath :Aw 58=true:=A8
def aqU :Aw 57=true:=A8
def dh (x y:OW):AV:=(x.Server.toList==y.Server.toList&&(x.Sum==y.Sum&&true))
def aMC (x y:OW):VA Ak 2 36 [.string x.Server,.int .i64 x.Sum] [.string y.Server,.int .i64 y.Sum] (dh x y):=⟨λd w=>Y8 A8 A8 A8 (l:=[(9,0),(3,1)]) A8 (KY (G5 QD A8 w) (G5 QD A8 w) (xu w _ _ _ _ Gm)<|KY (G5 Em A8 w) (G5 Em A8 w) (OY w _ _ .i64 _ _ _ PL)<|Y3 _ _ _ _)⟩
def aOg :Program.eqGuardType Ak (Program.depth Ak) 36=false:=A8
def ati :Aw 74=true:=A8
def asu :Aw 172=true:=A8
def aa4 :Aw 217=true:=A8
def apu :Aw 138=true:=A8
def apH :Aw 139=true:=A8
def aqa :Aw 140=true:=A8
def Pq :Ak.underlying 196=some (.map 3 4):=A8
def Gq :KeyTy Ak 3 D6:=akS PL
def aqv :Aw 184=true:=A8
def aoZ :Aw 109=true:=A8
def OV :Ak.underlying 183=some (.map 3 3):=A8
def atV :Aw 169=true:=A8
def aeb :(Ak.info? 183).bind (·.zero)=some (.map none):=A8
def aY1 :Eb Ak 183 false 1:=FW A8
def apb :Aw 255=true:=A8
def as9 :Aw 168=true:=A8
def atJ :Aw 170=true:=A8
def aHr :G6 Ak 249 251 2 16:=JU A8
def a3g :(Ak.info? 251).bind (·.zero)=some (aBM):=A8
def aYP :Iw Ak 251 [(0,1),(1,1)] (aBM):=Kq A8 a3g A8
def X4 :Ak.underlying 249=some (.slice 251):=A8
def UQ :Eb Ak 251 true 2:=FW A8
def agx :E9 Ak 251 0 0:=EH A8
def aeu :E9 Ak 251 1 1:=EH A8
def Rw :Ak.underlying 40=some (.slice 82):=A8
def ag8 :Iw Ak 82 [(0,1),(1,1),(2,1)] (a5P):=Kq A8 QM A8
def asx :Aw 405=true:=A8
def aoR :Aw 403=true:=A8
def akR :Aw 404=true:=A8
def ahv :Aw 406=true:=A8
def aq7 :Aw 327=true:=A8
def aDY :Ak.underlying 190=some (.slice 41):=A8
def ano :Aw 323=true:=A8
def Tq :(Ak.info? 41).bind (·.zero)=some (.slice none 0 0):=A8
def ahr :Eb Ak 190 false 1:=FW A8
def ari :Aw 229=true:=A8
def aP6 :Aw 288=true:=A8
def ao3 :Aw 393=true:=A8
def LZ :G6 Ak 41 82 3 32:=JU A8
def ahU :Aw 434=true:=A8
def ad9 :Aw 435=true:=A8
def aPm :Aw 396=true:=A8
def asB :Aw 433=true:=A8
def apL :Aw 319=true:=A8
def ard :Aw 394=true:=A8
def ata :Aw 452=true:=A8
def aOq :Aw 436=true:=A8
def aru :Aw 64=true:=A8
def asM :Aw 395=true:=A8
def apv :Aw 397=true:=A8
def uK :Aw 261=true:=A8
def abO :Aw 459=true:=A8
def atX :Aw 457=true:=A8
def aqs :Aw 441=true:=A8
def asV :Aw 458=true:=A8
def arv :Aw 223=true:=A8
def aNo :(Ak.info? 263).bind (·.zero)=some (aBt):=A8
def ajT :Iw Ak 263 [(0,1)] (aBt):=Kq A8 aNo A8
def af6 :(match Ak.underlying 263 with |some (.interface _)=>false|some _=>true|none=>false)=true:=A8
def a0d :Aw 225=true:=A8
def U6 :Aw 224=true:=A8
def anu :Aw 280=true:=A8
def aoQ :Aw 227=true:=A8
def aU3 :(Ak.info? 311).bind (·.zero)=some (aA6):=A8
def alL :gJ Ak 311 1 (aA6):=aCC A8 aU3 A8
def aXa :Eb Ak 311 true 5:=FW A8
def aRU :Ak.underlying 311=some (.array 5 3):=A8
def ash :Aw 282=true:=A8
def atg :Aw 345=true:=A8
def arT :Aw 346=true:=A8
def asc :Aw 347=true:=A8
def aqC :Aw 283=true:=A8
def ajY :Aw 415=true:=A8
def asP :Aw 348=true:=A8
def atQ :Aw 349=true:=A8
def arX :Aw 350=true:=A8
def abn :Iw Ak 32 [(0,1),(1,1),(2,1),(3,1),(4,1),(5,1),(6,1),(7,1),(8,1)] (a6k):=Kq A8 zero32 A8
def aaM :Iw Ak 146 [(0,1),(1,1)] (a7j):=Kq A8 uY A8
def arY :Aw 351=true:=A8
def arN :Aw 284=true:=A8
def arW :Aw 285=true:=A8
def aY2 :Aw 281=true:=A8
def aoi :Aw 221=true:=A8
def aps :Aw 226=true:=A8
def aof :Aw 286=true:=A8
def aUt :Eb Ak 222 true 7:=FW A8
def aX2 :Aw 353=true:=A8
def aDt :Aw 352=true:=A8
def aNf :(Ak.info? 320).bind (·.zero)=some (a1p):=A8
def aZL :gJ Ak 320 1 (a1p):=aCC A8 aNf A8
def aZe :Ak.underlying 320=some (.array 2 30):=A8
def aSQ :(Ak.info? 321).bind (·.zero)=some (a2x):=A8
def aZC :gJ Ak 321 1 (a2x):=aCC A8 aSQ A8
def abx :Ak.underlying 321=some (.array 2 29):=A8
def asR :Aw 287=true:=A8
def atE :Aw 228=true:=A8
def ac8 :Aw 222=true:=A8
def apW :Aw 456=true:=A8
def arb :Aw 143=true:=A8
def aNr :(Ak.info? 378).bind (·.zero)=some (a1e):=A8
def aah :Iw Ak 378 [] (a1e):=Kq A8 aNr A8
def ajn :(match Ak.underlying 378 with |some (.interface _)=>false|some _=>true|none=>false)=true:=A8
def anU :Aw 437=true:=A8
def aqX :Aw 438=true:=A8
def as3 :Aw 399=true:=A8
def aUv :Aw 439=true:=A8
def atK :Aw 440=true:=A8
def ahp :(Ak.info? 247).bind (·.zero)=some (aQf):=A8
def anY :Aw 320=true:=A8
def arV :Aw 321=true:=A8
def aM4 :(Ak.info? 292).bind (·.zero)=some (a3M):=A8
def aly :Iw Ak 292 [] (a3M):=Kq A8 aM4 A8
def ahP :(match Ak.underlying 292 with |some (.interface _)=>false|some _=>true|none=>false)=true:=A8
def aGI :(Ak.info? 347).bind (·.zero)=some (a2e):=A8
def aha :Iw Ak 347 [(0,1),(1,1)] (a2e):=Kq A8 aGI A8
def aF9 :G6 Ak 342 347 2 24:=JU A8
def ap0 :Aw 400=true:=A8
def aIk :Ak.underlying 342=some (.slice 347):=A8
def aGn :Eb Ak 347 true 2:=FW A8
def agi :E9 Ak 347 0 0:=EH A8
def aYp :E9 Ak 347 1 1:=EH A8
def aRj :Aw 402=true:=A8
def asE :Aw 326=true:=A8
def atB :Aw 479=true:=A8
def aFb :(Ak.info? 411).bind (·.zero)=some (aB0):=A8
def an4 :Iw Ak 411 [(0,1),(1,1),(2,1),(3,1)] (aB0):=Kq A8 aFb A8
def aHi :G6 Ak 408 411 4 48:=JU A8
def atI :Aw 477=true:=A8
def aFk :Ak.underlying 408=some (.slice 411):=A8
def aCJ :Eb Ak 411 true 4:=FW A8
def af9 :E9 Ak 411 3 3:=EH A8
def aiZ :E9 Ak 411 0 0:=EH A8
def alT :E9 Ak 411 1 1:=EH A8
def an0 :E9 Ak 411 2 2:=EH A8
def ahR :Aw 478=true:=A8
def atL :Aw 476=true:=A8
def acT :Aw 475=true:=A8
def aYZ :vZ Ak 292 "fedchat/resolve.sort" 475=true:=A8
def asI :Aw 398=true:=A8
def atf :Aw 322=true:=A8
def agT :E9 Ak 247 1 1:=EH A8
def ar1 :Aw 324=true:=A8
def aSu :(Ak.info? 296).bind (·.zero)=some (a3r):=A8
def acV :Iw Ak 296 [(0,1)] (a3r):=Kq A8 aSu A8
def ags :(match Ak.underlying 296 with |some (.interface _)=>false|some _=>true|none=>false)=true:=A8
def agd :E9 Ak 296 0 0:=EH A8
def apT :Aw 482=true:=A8
def aGH :(Ak.info? 415).bind (·.zero)=some (a4G):=A8
def aea :Iw Ak 415 [(0,1),(1,1),(2,1)] (a4G):=Kq A8 aGH A8
def aVf :G6 Ak 413 415 3 24:=JU A8
def anT :Aw 483=true:=A8
def uG :Ak.underlying 413=some (.slice 415):=A8
def zV :Eb Ak 415 true 3:=FW A8
def wL (x y:Ku):AV:=(x.nN==y.nN&&(x.zK==y.zK&&(x.CX==y.CX&&true)))
def ahn (x y:Ku):VA Ak 2 415 [.int .i64 x.nN,.int .i64 x.zK,.int .i64 x.CX] [.int .i64 y.nN,.int .i64 y.zK,.int .i64 y.CX] (wL x y):=⟨λd w=>Y8 A8 A8 A8 (l:=[(3,0),(3,1),(3,2)]) A8 (KY (G5 Em A8 w) (G5 Em A8 w) (OY w _ _ .i64 _ _ _ PL)<|KY (G5 Em A8 w) (G5 Em A8 w) (OY w _ _ .i64 _ _ _ PL)<|KY (G5 Em A8 w) (G5 Em A8 w) (OY w _ _ .i64 _ _ _ PL)<|Y3 _ _ _ _)⟩
def afF :Program.eqGuardType Ak (Program.depth Ak) 415=false:=A8
def aqF :Aw 486=true:=A8
def aZO :E9 Ak 415 0 0:=EH A8
def anv :Aw 481=true:=A8
def ads :Aw 480=true:=A8
def aeX :vZ Ak 296 "fedchat/resolve.sort" 480=true:=A8
def aeO :E9 Ak 247 0 0:=EH A8
def anB :E9 Ak 247 2 2:=EH A8
def aTy :Eb Ak 247 true 3:=FW A8
def asJ :Aw 259=true:=A8
def aaI :mZ Ak 247 0 0 false 1=true:=A8
def aqQ :Aw 401=true:=A8
def zero22 :(Ak.info? 22).bind (·.zero)=some (.slice none 0 0):=A8
def apK :Aw 325=true:=A8
def afb :E9 Ak 142 2 2:=EH A8
def acX :Eb Ak 140 false 1:=FW A8
def Mid :Ak.underlying 140=some (.map 3 64):=A8
def zero64 :(Ak.info? 64).bind (·.zero)=some (.int .i64 0):=A8
def anZ :Aw 144=true:=A8
def akG :E9 Ak 142 1 1:=EH A8
def afI :Eb Ak 139 false 1:=FW A8
def lW :Ak.underlying 139=some (.map 3 41):=A8
def Zi :G6 Ak 190 41 1 24:=JU A8
def arL :Aw 178=true:=A8
def aoN :Aw 260=true:=A8
def agH :E9 Ak 142 0 0:=EH A8
def ao4 :Aw 167=true:=A8
def ar4 :Aw 91=true:=A8
def aPd :(Ak.info? 142).bind (·.zero)=some (aBG):=A8
def aNs :Iw Ak 142 [(0,1),(1,1),(2,1)] (aBG):=Kq A8 aPd A8
def aqm :Aw 179=true:=A8
def aqj :Aw 180=true:=A8
def arU :Aw 104=true:=A8
def aaf :Aw 220=true:=A8
def aNT :G6 Ak 186 71 1 8:=JU A8
def aT2 :(Ak.info? 71).bind (·.zero)=some (.int .i64 0):=A8
def aqr :Aw 171=true:=A8
def agM :Ak.underlying 186=some (.slice 71):=A8
def ao0 :Aw 105=true:=A8
def anF :Eb Ak 136 false 1:=FW A8
def apP :Aw 258=true:=A8
def aoI :Aw 257=true:=A8
def atP :Aw 177=true:=A8
def arH :Aw 176=true:=A8
def aq8 :Aw 175=true:=A8
def aro :Aw 65=true:=A8
def asQ :Aw 141=true:=A8
def abp :E9 Ak 45 6 6:=EH A8
def ap5 :Aw 142=true:=A8
def aml :Aw 145=true:=A8
def aob :Aw 101=true:=A8
def aoF :Aw 103=true:=A8
def aiu :E9 Ak 45 4 4:=EH A8
def ada :Ak.underlying 233=some (.slice 22):=A8
def arl :Aw 230=true:=A8
def agW :E9 Ak 45 3 3:=EH A8
def apR :Aw 66=true:=A8
def aXT :G6 Ak 233 22 1 24:=JU A8
def anz :Aw 146=true:=A8
def aqS :Aw 67=true:=A8
def as6 :Aw 63=true:=A8
def apl :Aw 68=true:=A8
def ate :Aw 30=true:=A8
def atU :Aw 20=true:=A8
def aaA :E9 Ak 45 7 7:=EH A8
def aXe :Eb Ak 42 false 1:=FW A8
def ah8 :Ak.underlying 42=some (.slice 102):=A8
def agU :E9 Ak 45 8 8:=EH A8
def alJ :Eb Ak 43 false 1:=FW A8
def acH :Ak.underlying 43=some (.slice 104):=A8
def atH :Aw 216=true:=A8
def ar2 :Aw 62=true:=A8
def ap2 :Aw 135=true:=A8
def ap4 :Aw 136=true:=A8
def asi :Aw 61=true:=A8
def aoK :Aw 368=true:=A8
def apt :Aw 249=true:=A8
def aqb :Aw 76=true:=A8
def arn :Aw 369=true:=A8
def aon :Aw 370=true:=A8
def apC :Aw 451=true:=A8
def anV :Aw 426=true:=A8
def aod :Aw 427=true:=A8
def apV :Aw 428=true:=A8
def asW :Aw 431=true:=A8
def aqR :Aw 371=true:=A8
def aqk :Aw 429=true:=A8
def ane :Aw 430=true:=A8
def arG :Aw 372=true:=A8
def atM :Aw 373=true:=A8
def apY :Aw 374=true:=A8
def arz :Aw 375=true:=A8
def apy :Aw 376=true:=A8
def asK :Aw 377=true:=A8
def apf :Aw 378=true:=A8
def asG :Aw 379=true:=A8
def arw :Aw 380=true:=A8
def arB :Aw 303=true:=A8
def aoo :Aw 304=true:=A8
def aoj :Aw 381=true:=A8
def asD :Aw 305=true:=A8
def ar7 :Aw 245=true:=A8
def aoz :Aw 246=true:=A8
def asL :Aw 19=true:=A8
def asf :Aw 159=true:=A8
def aou :Aw 150=true:=A8
def aqN :Aw 187=true:=A8
def aq0 :Aw 160=true:=A8
def aq5 :Aw 111=true:=A8
def arx :Aw 112=true:=A8
def aYj :Aw 84=true:=A8
def aoU :Aw 151=true:=A8
def ao9 :Aw 152=true:=A8
def ap3 :Aw 306=true:=A8
def aZg :Aw 307=true:=A8
def aJq :(Ak.info? 174).bind (·.zero)=some (aBs):=A8
def a2K :Ak.underlying 171=some (.slice 174):=A8
def Yw :Eb Ak 174 true 4:=FW A8
def ajC :E9 Ak 174 0 0:=EH A8
def ajS :Iw Ak 174 [(0,1),(1,1),(2,1),(3,1)] (aBs):=Kq A8 aJq A8
def arE :Aw 364=true:=A8
def aG6 :Aw 262=true:=A8
def aqD :Aw 416=true:=A8
def asU :Aw 186=true:=A8
def apQ :Aw 185=true:=A8
def aoM :Aw 367=true:=A8
def aYT :Aw 446=true:=A8
def aNm :Aw 110=true:=A8
def ank :Aw 447=true:=A8
def aoS :Aw 445=true:=A8
def aZa :Aw 420=true:=A8
def aqz :Aw 444=true:=A8
def ap8 :Aw 359=true:=A8
def ark :Aw 417=true:=A8
def aso :Aw 418=true:=A8
def asX :Aw 419=true:=A8
def bZ :G6 Ak 40 82 3 32:=JU A8
def atC :Aw 432=true:=A8
def ar6 :Aw 383=true:=A8
def aqK :Aw 382=true:=A8
def aoE :Aw 389=true:=A8
def aoc :Aw 309=true:=A8
def aqG :Aw 315=true:=A8
def aqy :Aw 316=true:=A8
def anh :Aw 448=true:=A8
def aqJ :Aw 421=true:=A8
def anc :Aw 422=true:=A8
def abD :Aw 449=true:=A8
def atZ :Aw 251=true:=A8
def asA :Aw 385=true:=A8
def aph :Aw 386=true:=A8
def asr :Aw 387=true:=A8
def asZ :Aw 388=true:=A8
def ao6 :Aw 253=true:=A8
def asj :Aw 311=true:=A8
def aql :Aw 312=true:=A8
def aq4 :Aw 313=true:=A8
def aqn :Aw 314=true:=A8
def atS :Aw 391=true:=A8
def arD :Aw 390=true:=A8
def aoy :Aw 317=true:=A8
def aoB :Aw 392=true:=A8
def apJ :Aw 318=true:=A8
def aqi :Aw 252=true:=A8
def asO :Aw 254=true:=A8
def asq :Aw 310=true:=A8
def anf :Aw 423=true:=A8
def anl :Aw 162=true:=A8
def asC :Aw 250=true:=A8
def atd :Aw 424=true:=A8
def aoJ :Aw 365=true:=A8
def anm :Aw 455=true:=A8
def arh :Aw 450=true:=A8
def arf :Aw 425=true:=A8
def anC :(Ak.info? 281).bind (·.zero)=some (aP8):=A8
def acM :E9 Ak 281 0 0:=EH A8
def ap7 :Aw 360=true:=A8
def aoG :Aw 361=true:=A8
def arK :Aw 362=true:=A8
def aYr :E9 Ak 281 1 1:=EH A8
def ana :Aw 363=true:=A8
def ac1 :E9 Ak 281 2 2:=EH A8
def aor :Aw 366=true:=A8
def amv :E9 Ak 281 3 3:=EH A8
def agJ :E9 Ak 281 4 4:=EH A8
def aVp :Eb Ak 281 true 5:=FW A8
def asy :Aw 302=true:=A8
def afu :mZ Ak 281 4 4 false 1=true:=A8
def aV5 :Aw 384=true:=A8
def apg :Aw 308=true:=A8
def ap9 :Aw 155=true:=A8
def ajo :E9 Ak 174 3 3:=EH A8
def aao :Eb Ak 64 false 1:=FW A8
def apx :Aw 163=true:=A8
def aoe :Aw 247=true:=A8
def anO :E9 Ak 174 2 2:=EH A8
def ap1 :Aw 244=true:=A8
def abI :E9 Ak 174 1 1:=EH A8
def asH :Aw 248=true:=A8
def aNY :G6 Ak 171 174 4 64:=JU A8
def asw :Aw 161=true:=A8
def anq :Aw 78=true:=A8
def ao1 :Aw 241=true:=A8
def aa6 :E9 Ak 79 0 0:=EH A8
def aq9 :Aw 153=true:=A8
def apE :Aw 154=true:=A8
def aqL :Aw 156=true:=A8
def apz :Aw 77=true:=A8
def aoD :Aw 86=true:=A8
def arC :Aw 243=true:=A8
def aqt :Aw 242=true:=A8
def aoW :Aw 157=true:=A8
def aqw :Aw 158=true:=A8
def apr :Aw 79=true:=A8
def aox :Aw 80=true:=A8
def aqP :Aw 81=true:=A8
def apm :Aw 37=true:=A8
def apk :Aw 82=true:=A8
def arR :Aw 71=true:=A8
def aoC :Aw 108=true:=A8
def apZ :Aw 256=true:=A8
def aiY :Aw 173=true:=A8
def ang :Aw 174=true:=A8
def atD :Aw 90=true:=A8
def arp :Aw 92=true:=A8
def alR :(Ak.info? 93).bind (·.zero)=some (.nilFunc):=A8
def afp :Eb Ak 93 false 1:=FW A8
def apB :Aw 95=true:=A8
def aaB :Aw 93=true:=A8
def aFt :(Ak.info? 134).bind (·.zero)=some (a3P):=A8
def alA :Iw Ak 134 [(0,1),(1,1)] (a3P):=Kq A8 aFt A8
def adr :Aw 97=true:=A8
def asg :Aw 100=true:=A8
def Res (x y:BM):AV:=(x.Kind==y.Kind&&(x.Key.toList==y.Key.toList&&(x.Id==y.Id&&true)))
def alM (x y:BM):VA Ak 2 82 [.int .i64 x.Kind,.string x.Key,.int .i64 x.Id] [.int .i64 y.Kind,.string y.Key,.int .i64 y.Id] (Res x y):=⟨λd w=>Y8 A8 A8 A8 (l:=[(26,0),(9,1),(3,2)]) A8 (KY (G5 Wu A8 w) (G5 Wu A8 w) (OY w _ _ .i64 _ _ _ aIp)<|KY (G5 QD A8 w) (G5 QD A8 w) (xu w _ _ _ _ Gm)<|KY (G5 Em A8 w) (G5 Em A8 w) (OY w _ _ .i64 _ _ _ PL)<|Y3 _ _ _ _)⟩
def acd :Program.eqGuardType Ak (Program.depth Ak) 82=false:=A8
def aq6 :Aw 102=true:=A8
def adM :G6 Ak 135 134 2 16:=JU A8
def qK :Ak.underlying 135=some (.slice 134):=A8
def a0X :Eb Ak 134 true 2:=FW A8
def afx :E9 Ak 134 1 1:=EH A8
def ahS :Eb Ak 25 false 1:=FW A8
def aZv :Aw 94=true:=A8
def ahO :E9 Ak 134 0 0:=EH A8
def aeB :Aw 96=true:=A8
def ahL :Aw 98=true:=A8
def af2 :Aw 99=true:=A8
def anb :Aw 55=true:=A8
def aqH :Aw 38=true:=A8
def atG :Aw 28=true:=A8
def aPH :Ak.underlying 71=some (.int .i64):=A8
def ML (x y:FB):AV:=(x.Pos==y.Pos&&(x.Id==y.Id&&(x.Status==y.Status&&(x.Gone==y.Gone&&true))))
def VJ (x y:FB):VA Ak 2 79 [.int .i64 x.Pos,.int .i64 x.Id,.int .i64 x.Status,.bool x.Gone] [.int .i64 y.Pos,.int .i64 y.Id,.int .i64 y.Status,.bool y.Gone] (ML x y):=⟨λd w=>Y8 A8 A8 A8 (l:=[(3,0),(3,1),(71,2),(4,3)]) A8 (KY (G5 Em A8 w) (G5 Em A8 w) (OY w _ _ .i64 _ _ _ PL)<|KY (G5 Em A8 w) (G5 Em A8 w) (OY w _ _ .i64 _ _ _ PL)<|KY (G5 aFh A8 w) (G5 aFh A8 w) (OY w _ _ .i64 _ _ _ aPH)<|KY (G5 aGr A8 w) (G5 aGr A8 w) (run_equalIn_bool' w _ _ _ _ aSd)<|Y3 _ _ _ _)⟩
def Vs :Program.eqGuardType Ak (Program.depth Ak) 79=false:=A8
def aj8 :Eb Ak 102 true 4:=FW A8
def iC (x y:TW):AV:=(x.User.toList==y.User.toList&&(x.Thread==y.Thread&&(x.Id==y.Id&&(x.Time==y.Time&&true))))
def aWU (x y:TW):VA Ak 2 102 [.string x.User,.int .i64 x.Thread,.int .i64 x.Id,.int .i64 x.Time] [.string y.User,.int .i64 y.Thread,.int .i64 y.Id,.int .i64 y.Time] (iC x y):=⟨λd w=>Y8 A8 A8 A8 (l:=[(9,0),(3,1),(3,2),(3,3)]) A8 (KY (G5 QD A8 w) (G5 QD A8 w) (xu w _ _ _ _ Gm)<|KY (G5 Em A8 w) (G5 Em A8 w) (OY w _ _ .i64 _ _ _ PL)<|KY (G5 Em A8 w) (G5 Em A8 w) (OY w _ _ .i64 _ _ _ PL)<|KY (G5 Em A8 w) (G5 Em A8 w) (OY w _ _ .i64 _ _ _ PL)<|Y3 _ _ _ _)⟩
def aQ2 :Program.eqGuardType Ak (Program.depth Ak) 102=false:=A8
def afO :Eb Ak 104 true 2:=FW A8
def fA (x y:Tv):AV:=(x.User.toList==y.User.toList&&(x.Until==y.Until&&true))
def aUq (x y:Tv):VA Ak 2 104 [.string x.User,.int .i64 x.Until] [.string y.User,.int .i64 y.Until] (fA x y):=⟨λd w=>Y8 A8 A8 A8 (l:=[(9,0),(3,1)]) A8 (KY (G5 QD A8 w) (G5 QD A8 w) (xu w _ _ _ _ Gm)<|KY (G5 Em A8 w) (G5 Em A8 w) (OY w _ _ .i64 _ _ _ PL)<|Y3 _ _ _ _)⟩
def aSO :Program.eqGuardType Ak (Program.depth Ak) 104=false:=A8
def aoh :Aw 69=true:=A8
def aow :Aw 70=true:=A8
def anw :Aw 72=true:=A8
def asa :Aw 23=true:=A8
def apw :Aw 24=true:=A8
def asb :Aw 26=true:=A8
def ar8 :Aw 21=true:=A8
def aok :Aw 263=true:=A8
def alQ :Aw 264=true:=A8
def aoO :Aw 188=true:=A8
def ara :Aw 189=true:=A8
def ar9 :Aw 190=true:=A8
def arF :Aw 191=true:=A8
def arS :Aw 113=true:=A8
def arO :Aw 31=true:=A8
def apj :Aw 34=true:=A8
def ap6 :Aw 35=true:=A8
def aqI :Aw 39=true:=A8
def arJ :Aw 40=true:=A8
instance anX :Kn Ak where
 und:=[(9,.string),(4,.bool),(3,.int .i64),(202,.int .u64),(5,.int .u8),(203,.int .u64),(26,.int .i64),(71,.int .i64)]
 an1:=⟨Gm,aSd,PL,acr,a15,abm,aIp,aPH,trivial⟩
 ty:=[(34,true,16),(27,false,1),(28,false,1),(29,false,1),(30,false,1),(9,false,1),(146,true,2),(38,true,29),(3,false,1),(32,true,9),(26,false,1),(221,true,2),(4,false,1),(5,false,1),(22,false,1),(45,true,9),(39,false,1),(79,true,4),(71,false,1),(41,false,1),(82,true,3),(276,true,2),(236,false,1),(95,false,1),(36,true,2),(183,false,1),(251,true,2),(190,false,1),(311,true,5),(222,true,7),(347,true,2),(411,true,4),(415,true,3),(247,true,3),(140,false,1),(139,false,1),(136,false,1),(42,false,1),(43,false,1),(174,true,4),(281,true,5),(64,false,1),(93,false,1),(134,true,2),(25,false,1),(102,true,4),(104,true,2)]
 hty:=⟨UE,aL7,ajx,aNU,aXE,QD,akM,Gx,Em,Yj,Wu,aiD,aGr,aji,akB,Ob,ahQ,qw,aFh,aeP,QV,aZ0,aat,akD,aZu,aY1,UQ,ahr,aXa,aUt,aGn,aCJ,zV,aTy,acX,afI,anF,aXe,alJ,Yw,aVp,aao,afp,a0X,ahS,aj8,afO,trivial⟩
 fld:=[((38,10),10),((38,8),8),((38,9),9),((34,5),5),((34,6),6),((34,7),7),((32,0),0),((32,1),1),((38,1),1),((38,2),2),((38,5),5),((34,0),0),((34,4),4),((38,12),27),((36,0),0),((146,0),0),((34,1),1),((34,2),2),((38,3),3),((146,1),1),((221,0),0),((221,1),1),((32,2),2),((32,3),3),((32,4),4),((32,5),5),((32,6),6),((32,7),7),((32,8),8),((34,3),3),((38,0),0),((38,4),4),((38,6),6),((38,7),7),((38,11),26),((36,1),1),((45,1),1),((45,2),2),((79,1),1),((79,2),2),((45,0),0),((45,5),5),((82,0),0),((82,1),1),((82,2),2),((276,0),0),((276,1),1),((209,0),0),((251,0),0),((251,1),1),((347,0),0),((347,1),1),((411,3),3),((411,0),0),((411,1),1),((411,2),2),((247,1),1),((296,0),0),((415,0),0),((247,0),0),((247,2),2),((142,2),2),((142,1),1),((142,0),0),((45,6),6),((45,4),4),((45,3),3),((45,7),7),((45,8),8),((174,0),0),((281,0),0),((281,1),1),((281,2),2),((281,3),3),((281,4),4),((174,3),3),((174,2),2),((174,1),1),((79,0),0),((134,1),1),((134,0),0)]
 hfld:=⟨aXr,ahz,ahl,alS,ak0,af5,anM,acR,amM,aaV,aZZ,alW,am7,aaW,akI,aZT,aZj,aYS,adp,ajs,aeY,aiy,amN,abZ,agf,aYs,ajG,ait,ahH,aco,aes,aeW,ach,aYY,aib,aYy,aeS,akO,aXQ,afc,agI,aYR,agp,aeL,aY8,aZp,afD,aa8,agx,aeu,agi,aYp,af9,aiZ,alT,an0,agT,agd,aZO,aeO,anB,afb,akG,agH,abp,aiu,agW,aaA,agU,ajC,acM,aYr,ac1,amv,agJ,ajo,anO,abI,aa6,afx,ahO,trivial⟩
 part:=[((247,0),0,false,1),((281,4),4,false,1)]
 hpart:=⟨aaI,afu,trivial⟩
 zero:=[(34,aCD),(38,a2Z),(5,.int .u8 0),(3,.int .i64 0),(32,a6k),(79,a5f),(82,a5P),(45,aAz),(146,a7j),(221,aOn),(222,a4j),(276,aAf),(209,a3j),(9,.string Ci),(4,.bool false),(27,.slice none 0 0),(36,a2D),(183,.map none),(251,aBM),(41,.slice none 0 0),(263,aBt),(311,aA6),(320,a1p),(321,a2x),(378,a1e),(247,aQf),(292,a3M),(347,a2e),(411,aB0),(296,a3r),(415,a4G),(22,.slice none 0 0),(64,.int .i64 0),(142,aBG),(71,.int .i64 0),(174,aBs),(281,aP8),(93,.nilFunc),(134,a3P)]
 hzero:=⟨⟨aOx,A8⟩,⟨Nz,A8⟩,⟨Ql,A8⟩,⟨zero3,A8⟩,⟨zero32,A8⟩,⟨ZG,A8⟩,⟨QM,A8⟩,⟨aU7,A8⟩,⟨uY,A8⟩,⟨aPy,A8⟩,⟨aQc,A8⟩,⟨aIz,A8⟩,⟨aMP,A8⟩,⟨zero9,A8⟩,⟨tV,A8⟩,⟨nG,A8⟩,⟨aNn,A8⟩,⟨aeb,A8⟩,⟨a3g,A8⟩,⟨Tq,A8⟩,⟨aNo,A8⟩,⟨aU3,A8⟩,⟨aNf,A8⟩,⟨aSQ,A8⟩,⟨aNr,A8⟩,⟨ahp,A8⟩,⟨aM4,A8⟩,⟨aGI,A8⟩,⟨aFb,A8⟩,⟨aSu,A8⟩,⟨aGH,A8⟩,⟨zero22,A8⟩,⟨zero64,A8⟩,⟨aPd,A8⟩,⟨aT2,A8⟩,⟨aJq,A8⟩,⟨anC,A8⟩,⟨alR,A8⟩,⟨aFt,A8⟩,trivial⟩
 st:=[(34,[(0,1),(1,1),(2,1),(3,1),(4,1),(5,1),(6,1),(7,9)],aCD),(79,[(0,1),(1,1),(2,1),(3,1)],a5f),(38,[(0,1),(1,1),(2,1),(3,1),(4,1),(5,1),(6,1),(7,1),(8,1),(9,1),(10,16),(26,1),(27,2)],a2Z),(45,[(0,1),(1,1),(2,1),(3,1),(4,1),(5,1),(6,1),(7,1),(8,1)],aAz),(276,[(0,1),(1,1)],aAf),(209,[(0,1)],a3j),(36,[(0,1),(1,1)],a2D),(251,[(0,1),(1,1)],aBM),(82,[(0,1),(1,1),(2,1)],a5P),(263,[(0,1)],aBt),(32,[(0,1),(1,1),(2,1),(3,1),(4,1),(5,1),(6,1),(7,1),(8,1)],a6k),(146,[(0,1),(1,1)],a7j),(378,[],a1e),(292,[],a3M),(347,[(0,1),(1,1)],a2e),(411,[(0,1),(1,1),(2,1),(3,1)],aB0),(296,[(0,1)],a3r),(415,[(0,1),(1,1),(2,1)],a4G),(142,[(0,1),(1,1),(2,1)],aBG),(174,[(0,1),(1,1),(2,1),(3,1)],aBs),(134,[(0,1),(1,1)],a3P)]
 hst:=⟨ak2,ajz,ahu,am8,aiU,ajg,abr,aYP,ag8,ajT,abn,aaM,aah,aly,aha,an4,acV,aea,aNs,ajS,alA,trivial⟩
 arr:=[(222,1,a4j),(311,1,aA6),(320,1,a1p),(321,1,a2x)]
 harr:=⟨aaN,alL,aZL,aZC,trivial⟩
 sl:=[(27,3),(28,9),(29,146),(30,221),(22,38),(95,5),(39,79),(41,82),(277,276),(258,4),(244,27),(249,251),(40,82),(190,41),(342,347),(408,411),(413,415),(186,71),(233,22),(42,102),(43,104),(171,174),(135,134)]
 hsl:=⟨Ij,abj,aSq,aUg,MV,a5C,aQo,oV,abg,aiK,a5u,X4,Rw,aDY,aIk,aFk,uG,agM,ada,ah8,acH,a2K,qK,trivial⟩
abbrev Cb :=λx=>Bc.arr 3 1 (List.map Ad x)
abbrev FV :=λx=>Bc.arr 38 29 (List.map BH x)
abbrev rH :=λx=>Bc.arr 79 4 (List.map Ea x)
abbrev IC :=λx=>Bc.arr 5 1 (List.map Dh x)
abbrev VP :=λx=>Bc.arr 9 1 (List.map DT x)
abbrev KF :=λx=>Bc.arr 82 3 (List.map BR x)
abbrev yS :=λx=>Bc.arr 27 1 (List.map (BQ Ad) x)
abbrev QE :=λx=>Bc.arr 174 4 (List.map LQ x)
abbrev eK :=λx=>Bc.arr 415 3 (List.map Oo x)
abbrev XL :=λx=>Bc.arr 251 2 (List.map Jh x)
abbrev FP :=λx=>Ah.d (CZ x)
abbrev AX :=λx=>Ah.d (Ad x)
abbrev BK :=λx=>Ah.d ((BQ BH) x)
abbrev TI :=λx=>Ah.d ((BQ LQ) x)
abbrev Af :=λx=>Ah.d (Dt x)
abbrev Bf :=λx=>Ah.d ((BQ Ad) x)
abbrev DY :=λx=>Ah.d ((BQ BR) x)
abbrev DV :=λx=>Ah.d (BH x)
abbrev D5 :=λx=>Ah.d (DT x)
abbrev QA :=λx=>Ah.d ((BQ Ea) x)
abbrev dB :=λx=>Ah.d (Ea x)
abbrev He :=λx=>Ah.d (Fl x)
abbrev Hy :=λx=>Ah.d ((BQ DT) x)
abbrev IB :=λx=>Ah.d (F8 x)
abbrev Hu :=λx=>Ah.d ((BQ Dh) x)
abbrev Oh :=λx=>Ah.d ((BQ F5) x)
abbrev Ot :=λx=>Ah.d ((BQ Ey) x)
abbrev Xv :=λx=>Ah.d (LQ x)
abbrev Ie :=λx=>Ah.d ((BQ (BQ BR)) x)
abbrev X3 :=λx=>Ah.d (BR x)
abbrev Vu :=λx=>Ah.d ((BQ Ky) x)
section
set_option maxRecDepth 20000
set_option maxHeartbeats 4000000
def uM (q:Int)(j:D7):AB D7:=(cond (q==1) (some j) (cond (q==2) (some ({ Eu with N:=j.N,Via:=j.Via })) (cond (q==3) (some ({ Eu with Levels:=j.Levels })) (cond (q==4) (some ({ Eu with N:=j.N,Allow:=j.Allow })) (cond (q==5) (some ({ Eu with N:=j.N })) (cond (q==6) (some ({ Eu with Allow:=j.Allow,iw:=j.iw })) (cond (q==14) (some ({ Eu with Target:=j.Target })) (some Eu))))))))
def aSk :=DR func192 rfl uM AX He He λu j r h=>AY<|AZ<|AY<|Ai<|AY<|DX h (λh=>AY<|Ep<|by rw[←CP h];exact⟨[He j],[],⟨⟨1,BI (Fl j),true,16,A8,A8,A8,UE,Dl A8,VE,A8⟩,trivial⟩,A8,A8,A8⟩) λh=>AY<|DX h (λh=>AY<|Ep<|by rw[←CP h];exact⟨[He ({ Eu with N:=j.N,Via:=j.Via })],[],⟨⟨1,BI (Fl ({ Eu with N:=j.N,Via:=j.Via })),true,16,A8,A8,A8,UE,Dl A8,VE,A8⟩,trivial⟩,A8,A8,A8⟩) λh=>AY<|DX h (λh=>AY<|Ep<|by rw[←CP h];exact⟨[He ({ Eu with Levels:=j.Levels })],[],⟨⟨1,BI (Fl ({ Eu with Levels:=j.Levels })),true,16,A8,A8,A8,UE,Dl A8,VE,A8⟩,trivial⟩,A8,A8,A8⟩) λh=>AY<|DX h (λh=>AY<|Ep<|by rw[←CP h];exact⟨[He ({ Eu with N:=j.N,Allow:=j.Allow })],[],⟨⟨1,BI (Fl ({ Eu with N:=j.N,Allow:=j.Allow })),true,16,A8,A8,A8,UE,Dl A8,VE,A8⟩,trivial⟩,A8,A8,A8⟩) λh=>AY<|DX h (λh=>AY<|Ep<|by rw[←CP h];exact⟨[He ({ Eu with N:=j.N })],[],⟨⟨1,BI (Fl ({ Eu with N:=j.N })),true,16,A8,A8,A8,UE,Dl A8,VE,A8⟩,trivial⟩,A8,A8,A8⟩) λh=>AY<|DX h (λh=>AY<|Ep<|by rw[←CP h];exact⟨[He ({ Eu with Allow:=j.Allow,iw:=j.iw })],[],⟨⟨1,BI (Fl ({ Eu with Allow:=j.Allow,iw:=j.iw })),true,16,A8,A8,A8,UE,Dl A8,VE,A8⟩,trivial⟩,A8,A8,A8⟩) λh=>AY<|BG h (λh=>AY<|Ep<|by rw[←CP h];exact⟨[He ({ Eu with Target:=j.Target })],[],⟨⟨1,BI (Fl ({ Eu with Target:=j.Target })),true,16,A8,A8,A8,UE,Dl A8,VE,A8⟩,trivial⟩,A8,A8,A8⟩) λh=>AY<|Ep<|by rw[←CP h];exact⟨[He Eu],[],⟨⟨1,BI (Fl Eu),true,16,A8,A8,A8,UE,Dl A8,VE,A8⟩,trivial⟩,A8,A8,A8⟩
def a6b (j:Aa):AB Aa:=(uM j.Kind j.Content).bind λq=>some ({ j with Content:=q })
def aYV :=Dc func114 rfl a6b DV DV λj r h=>AY<|AO h λq u h=>AP 4<|.ca (aSk u)<|aOu
def aEp (j:AU)(q:AU)(k3:(Int->AB AV)):Int->AB AV:=λv2=>(cond (v2<(j.length:Int)) ((Aj j v2).bind λu=>(Aj q v2).bind λz=>(cond (u != z) (some false) (k3 (Az (v2+1))))) (some true))
def aSw (j:AU)(q:AU):Int->AB AV:=bf (aEp j q) Am
def wH (j:AU)(q:AU):AB AV:=(cond ((j.length:Int) != (q.length:Int)) (some false) (aSw j q 0))
def agj :=DR func43 rfl wH Bf Bf Af λj q r h=>AY<|AZ<|AP 1<|.p (BJ Ad j)<|.a 1<|.Z (BJ Ad q)<|BG h Bv λh=>AZ<|AY<|Ai<|Dk (λu=>⟨BA 26 [(0,Bf j),(1,Bf q),(5,AX u)],[],0⟩) _ _ _ (Ae []) h<|λu z I J h=>AZ<|AP 2<|.Z (BJ Ad j)<|Bl h (λh=>AZ<|Ai<|Bo h λu z J L h=>El A8 A8 A8 (.a 2<|.p (BF Ad z)<|.a 3<|.p (BF Ad L)<|.a 2<|.nil _)<|BG h Bv λh=>RY) λh=>EX
abbrev GH:=AA BL
def a5j (j:GH)(q:GH)(k3:(Int->AB AV)):Int->AB AV:=λv2=>(cond (v2<(j.length:Int)) ((Aj j v2).bind λu=>(Aj q v2).bind λz=>(cond (!(u.toList==z.toList)) (some false) (k3 (Az (v2+1))))) (some true))
def a6n (j:GH)(q:GH):Int->AB AV:=bf (a5j j q) Am
def Td (j:GH)(q:GH):AB AV:=(cond ((j.length:Int) != (q.length:Int)) (some false) (a6n j q 0))
def ai7 :=DR func181 rfl Td Hy Hy Af λj q r h=>AY<|AZ<|AP 1<|.p (BJ DT j)<|.a 1<|.Z (BJ DT q)<|BG h Bv λh=>AZ<|AY<|Ai<|Dk (λu=>⟨BA 26 [(0,Hy j),(1,Hy q),(5,AX u)],[],0⟩) _ _ _ (Ae []) h<|λu z I J h=>AZ<|AP 2<|.Z (BJ DT j)<|Bl h (λh=>AZ<|Ai<|Bo h λu z J L h=>El A8 A8 A8 (.a 2<|.p (BF DT z)<|.a 3<|.p (BF DT L)<|.a 2<|.nil _)<|BG h Bv λh=>RY) λh=>EX
def vS (j:(Int->AB AV))(q:Int)(u:AV):AB AV:=(cond u (some false) (j (Az (q+1))))
def zi (j:(Int->AB AV))(q:Int)(u:AV):AB AV:=(cond u (some false) (j (Az (q+1))))
def o7 (j:Cm)(q:Cm)(z:(Int->AB AV)):Int->AB AV:=λu=>(bif u<(j.Kinds.length:Int) then(Aj j.Kinds u).bind λI=>(Aj q.Kinds u).bind λJ=>(cond (I.Kind != J.Kind) (zi z u true) ((Aj j.Kinds u).bind λL=>(Aj q.Kinds u).bind λM=>zi z u (L.N != M.N)))else(cond (j.User==q.User) (some (j.Message==q.Message)) (some false)).bind λO=>(cond O (some (j.State==q.State)) (some false)).bind λU=>(cond U (some (j.gV==q.gV)) (some false)).bind λY=>(cond Y (some (j.kN==q.kN)) (some false)).bind λZ=>(cond Z (some (j.oK==q.oK)) (some false)).bind λx34=>(cond x34 (some (j.iq==q.iq)) (some false)).bind λx36=>some x36)
def Xz (j:Cm)(q:Cm):Int->AB AV:=bf (o7 j q) Am
def jy (j:Cm)(q:Cm)(M:(Int->AB AV)):Int->AB AV:=λu=>(cond (u<(j.Users.length:Int)) ((Aj j.Users u).bind λz=>(Aj q.Users u).bind λI=>(cond (!(z.User.toList==I.User.toList)) (vS M u true) ((Aj j.Users u).bind λJ=>(Aj q.Users u).bind λL=>vS M u (J.N != L.N)))) (Xz j q 0))
def a0Q (j:Cm)(q:Cm):Int->AB AV:=bf (jy j q) Am
def Wj (j:Cm)(q:Cm):AB AV:=(cond ((j.Users.length:Int) != (q.Users.length:Int)) (some true) (some ((j.Kinds.length:Int) != (q.Kinds.length:Int)))).bind λu=>(cond u (some false) (a0Q j q 0))
def aNA :=DR func182 rfl Wj IB IB Af λq z r h=>AY<|AZ<|AP 2<|.p (BJ F5 q.Users)<|.a 2<|.p (BJ F5 z.Users)<|.a 1<|AO h λu j h=>.mg 14 8 (Af u) (.bi j (k2:=λh=>.a 2<|.p (BJ Ey q.Kinds)<|.a 2<|.Z (BJ Ey z.Kinds)<|Ce))<|.aU<|BG h Bv λh=>AZ<|AY<|Ai<|Dk (λu=>⟨BA 140 [(2,.ptr 0 0),(3,.ptr 1 0),(5,AX u)],[.box (BI (F8 q)),.box (BI (F8 z))],0⟩) _ _ _ (Ae [AQ 0,AQ 1]) h<|λu j J I h=>AZ<|AP 3<|.Z (BJ F5 q.Users)<|Bl h (λh=>AZ<|Ai<|D9 (λs=>∃(O:AV),CO s ⟨BA 140 [(2,.ptr 0 0),(3,.ptr 1 0),(5,AX I),(57,Af O)],[.box (BI (F8 q)),.box (BI (F8 z))],0⟩/\vS j I O=some r) (by rintro s ⟨O,hs,h⟩;exact DJ hs<|BG h Bv λh=>a3c)<|λu=>Bo h λj J I M h=>EI h (λj h=>DU A8 A8 A8 (.a 3<|.p (BF F5 J)<|.a 5<|.p (BF F5 M)<|.a 3<|.c (Au some j)<|.a 14<|.nil _)<|u _ ⟨true,Ae [AQ 0,AQ 1],h⟩) λj h=>Bo h λI U Y Z h=>DU A8 A8 A8 (.a 3<|.p (BF F5 J)<|.a 5<|.p (BF F5 M)<|.a 3<|.c (Au some j)<|.a 3<|.p (BF F5 U)<|.a 5<|.p (BF F5 Z)<|.a 4<|.nil _)<|u _ ⟨(I.N != Y.N),Ae [AQ 0,AQ 1],h⟩) λh=>Cj<|AZ<|AY<|Ai<|Dk (λu=>⟨BA 140 [(2,.ptr 0 0),(3,.ptr 1 0),(6,AX u)],[.box (BI (F8 q)),.box (BI (F8 z))],0⟩) _ _ _ (Ae [AQ 0,AQ 1]) h<|λu j J I h=>AZ<|AP 3<|.Z (BJ Ey q.Kinds)<|Bl h (λh=>AZ<|Ai<|D9 (λs=>∃(L:AV),CO s ⟨BA 140 [(2,.ptr 0 0),(3,.ptr 1 0),(6,AX I),(92,Af L)],[.box (BI (F8 q)),.box (BI (F8 z))],0⟩/\zi j I L=some r) (by rintro s ⟨L,hs,h⟩;exact DJ hs<|BG h Bv λh=>a3c)<|λu=>Bo h λj J I M h=>EI h (λj h=>DU A8 A8 A8 (.a 3<|.p (BF Ey J)<|.a 5<|.p (BF Ey M)<|.a 3<|.c (Au some j)<|.a 14<|.nil _)<|u _ ⟨true,Ae [AQ 0,AQ 1],h⟩) λj h=>Bo h λI U Y Z h=>DU A8 A8 A8 (.a 3<|.p (BF Ey J)<|.a 5<|.p (BF Ey M)<|.a 3<|.c (Au some j)<|.a 3<|.p (BF Ey U)<|.a 5<|.p (BF Ey Z)<|.a 4<|.nil _)<|u _ ⟨(I.N != Y.N),Ae [AQ 0,AQ 1],h⟩) λh=>Cj<|AP 5<|AO h λu j h=>.mg 98 6 (Af u) (.bi j)<|.a 1<|AO h λu j h=>.mg 106 5 (Af u) (Cc j)<|.a 1<|AO h λu j h=>.mg 113 5 (Af u) (Cc j)<|.a 1<|AO h λu j h=>.mg 120 5 (Af u) (Cc j)<|.a 1<|AO h λu j h=>.mg 127 5 (Af u) (Cc j)<|.a 1<|AO h λu j h=>.mg 134 5 (Af u) (Cc j)<|.aW<|CW
def U1 (j:D7)(q:D7):AB AV:=(cond (j.Text.toList==q.Text.toList) (some (j.N==q.N)) (some false)).bind λM=>(cond M (some (j.Target==q.Target)) (some false)).bind λO=>(cond O (some (j.Thread==q.Thread)) (some false)).bind λU=>(cond U (some (j.Via.toList==q.Via.toList)) (some false)).bind λY=>(cond Y ((Td j.Allow q.Allow).bind λu=>some u) (some false)).bind λZ=>(cond Z ((Td j.iw q.iw).bind λz=>some z) (some false)).bind λI=>(cond I ((Wj j.Levels q.Levels).bind λJ=>some J) (some false)).bind λL=>some L
def aLB :=DR func106 rfl U1 He He Af λu z r h=>AY<|AP 5<|AO h λq j h=>.mg 10 6 (Af q) (.bi j)<|.a 1<|AO h λq j h=>.mg 18 5 (Af q) (Cc j)<|.a 1<|AO h λq j h=>.mg 25 5 (Af q) (Cc j)<|.a 1<|AO h λq j h=>.mg 32 5 (Af q) (Cc j)<|.a 1<|AO h λq j h=>.mg 39 5 (Af q) (Cc j (λe i=>aQq))<|.a 1<|AO h λq j h=>.mg 46 5 (Af q) (Cc j (λe i=>aQq))<|.a 1<|AO h λq j h=>.mg 53 5 (Af q) (Cc j (λe i=>by subst e;have h:=i;exact AO h λq j h=>.a 4<|.X (aNA j)<|Ce))<|.aW<|CW
def oH (j:Aa)(q:Aa):AB AV:=(cond (j.Id==q.Id) (some (j.Room.toList==q.Room.toList)) (some false)).bind λx1=>(cond x1 (some (j.bQ.toList==q.bQ.toList)) (some false)).bind λx3=>(cond x3 (some (j.Kind==q.Kind)) (some false)).bind λx5=>(cond x5 (some (j.State==q.State)) (some false)).bind λx7=>(cond x7 (some (j.Key.toList==q.Key.toList)) (some false)).bind λx9=>(cond x9 (some (j.Time==q.Time)) (some false)).bind λu=>(cond u (some (j.Depth==q.Depth)) (some false)).bind λz=>(cond z ((wH j.bG q.bG).bind λI=>some I) (some false)).bind λJ=>(cond J ((wH j.bJ q.bJ).bind λL=>some L) (some false)).bind λM=>(cond M ((U1 j.Content q.Content).bind λO=>some O) (some false)).bind λU=>(cond U (some (j.Hash==q.Hash)) (some false)).bind λY=>(cond Y (some (j.nM.Server.toList==q.nM.Server.toList)) (some false)).bind λZ=>(cond Z (some (j.nM.Sum==q.nM.Sum)) (some false)).bind λx28=>some x28
def jh :=DR func36 rfl oH DV DV Af λu z r h=>AY<|AP 5<|AO h λq j h=>.mg 10 6 (Af q) (.bi j)<|.a 1<|AO h λq j h=>.mg 18 5 (Af q) (Cc j)<|.a 1<|AO h λq j h=>.mg 25 5 (Af q) (Cc j)<|.a 1<|AO h λq j h=>.mg 32 5 (Af q) (Cc j)<|.a 1<|AO h λq j h=>.mg 39 5 (Af q) (Cc j)<|.a 1<|AO h λq j h=>.mg 46 5 (Af q) (Cc j)<|.a 1<|AO h λq j h=>.mg 53 5 (Af q) (Cc j)<|.a 1<|AO h λq j h=>.mg 60 5 (Af q) (Cc j (λe i=>aNK))<|.a 1<|AO h λq j h=>.mg 67 5 (Af q) (Cc j (λe i=>aNK))<|.a 1<|AO h λq j h=>.mg 74 5 (Af q) (Cc j (λe i=>by subst e;have h:=i;exact AO h λq j h=>.a 4<|.X (aLB j)<|Ce))<|.a 1<|AO h λq j h=>.mg 81 5 (Af q) (Cc j)<|.a 1<|AO h λq j h=>.mg 88 7 (Af q) (Cc j)<|.a 1<|AO h λq j h=>.mg 97 7 (Af q) (Cc j)<|.aW<|CW
def Xd (z:(Int->AU->AB AU)):Int->AU->AB AU:=λj u=>(cond (j>=128) ((Wi j 128).bind λI=>(DC 1 u [IntKind.u8.wrap (IntKind.u64.wrap (I+128))]).bind λJ=>(yR .u64 j 128).bind λL=>z L J) ((DC 1 u [IntKind.u8.wrap j]).bind λq=>some q))
def aVN  :Int->AU->AB AU:=aP (Xd) Am
def aBJ (v2:Int):AB AU:=aVN v2 []
def a05 (j:Int):AB AU:=(PZ .shl .u64 (IntKind.u64.wrap j) 1).bind λq=>(cond (j<0) (aBJ (eu .u64 q)) (aBJ q))
def aQQ :=Jv func194 rfl a05 AX IC λz r h=>BO<|.f (CY 5 1)<|.aU<|AO h λq j h=>AP 2<|.Z (a4J (k:=.u64) (k':=.u64) j)<|D9 (λs=>∃(v2:Int),CO s ⟨BA 28 [(3,.d ((oZ .u64) v2))],[],0⟩/\aBJ v2=some r) (by rintro s ⟨v2,hs,h⟩;exact DJ hs<|BO<|.f (CY 5 1)<|.aU<|AZ<|Ai<|DW (λq j=>⟨BA 28 [(3,.d ((oZ .u64) q)),(4,.aQ 0)],[(IC j)],0⟩) _ _ _ _ (Ae [AQ 0]) h<|λq j L I J h=>AZ<|AY<|Bl h (λh=>Ai<|Bo h λq j I J h=>AP 2<|.p (aG4 (k:=.u64) j)<|.a 2<|.p (Dx JC Ql [Dh (IntKind.u8.wrap (IntKind.u64.wrap (q+128)))])<|.Y (DZ (k:=0) Dh J JC A8 (λ_=>rfl) Bd)<|AO h λq j h=>CS<|.a 1<|.p (aiL (k:=.u64) j)<|.aN<|L _ _ _ (Ae [AQ 1]) h) λh=>Cj<|AO h λq j h=>AP 3<|.p (Dx JC Ql [Dh (IntKind.u8.wrap I)])<|.Y (DZ (k:=0) Dh j JC A8 (λ_=>rfl) Bd)<|JL)<|λj=>AY<|BG h (λh=>CS<|.a 1<|.p (aME (k:=.u64) (u:=q))<|.aN<|j _ ⟨(eu .u64 q),Ae [],h⟩) λh=>j _ ⟨q,Ae [],h⟩
def Kw (j:AU)(q:Int):AB AU:=(DC 1 [] j).bind λu=>(a05 q).bind λz=>(DC 1 u z).bind λI=>some I
def O8 :=G8 func117 rfl Kw Hu AX IC λj q r h=>BO<|.f (CY 5 1)<|.aU<|Gt h λJ u L z M I h=>BO<|.f (GY JC Ql [])<|.a 1<|.f (DZ (k:=1) Dh u JC A8 (λ_=>rfl) Bd)<|.a 1<|.ca (aQQ z).view<|.Y (DZ (k:=2) Dh I JC A8 (λ_=>rfl) Bd)<|jH
def RP (q:AU)(j:BL):AB AU:=(Kw q (j.size:Int)).bind λu=>(DC 1 u (DL j)).bind λz=>some z
def Xw :=G8 func116 rfl RP Hu D5 IC λq j r h=>BO<|.f (CY 5 1)<|.aU<|Bo h λI u J z h=>AP 3<|.f (x:=.aQ 1) (J9 [Hu q,AX (j.size:Int)] (O8 u))<|.a 1<|.p (ah1 (s:=j) Gm a5C a15)<|.Y (DZ (k:=1) Dh z JC A8 (λ_=>rfl) Bd)<|KH
def lK (q:AU)(j:AV):AB AU:=(DC 1 [] q).bind λu=>(cond j ((DC 1 u [1]).bind λz=>some z) ((DC 1 u [0]).bind λI=>some I))
def aV3 :=G8 func328 rfl lK Hu Af IC λu q r h=>BO<|.f (CY 5 1)<|.aU<|AO h λz j h=>BO<|.f (GY JC Ql [])<|.a 1<|.Y (DZ (k:=1) Dh j JC A8 (λ_=>rfl) Bd)<|AZ<|AY<|BG h (λh=>AO h λz j h=>AP 1<|.p (Dx JC Ql [Dh 1])<|.Y (DZ (k:=2) Dh j JC A8 (λ_=>rfl) Bd)<|jH) λh=>AO h λz j h=>AP 1<|.p (Dx JC Ql [Dh 0])<|.Y (DZ (k:=2) Dh j JC A8 (λ_=>rfl) Bd)<|jH
def a0q (j:GH)(u:(AU->Int->AB AU)):AU->Int->AB AU:=λv2 q=>(cond (q<(j.length:Int)) ((Aj j q).bind λz=>(RP v2 z).bind λI=>u I (Az (q+1))) (some v2))
def aTa (j:GH):AU->Int->AB AU:=aP (a0q j) Am
def sD (q:AU)(j:GH):AB AU:=(Kw q (j.length:Int)).bind λu=>aTa j u 0
def aXK :=G8 func329 rfl sD Hu Hy IC λz j r h=>BO<|.f (CY 5 1)<|.aU<|AO h λq u h=>AP 2<|.p (BJ DT j)<|.Y (x:=.aQ 1) (J9 [Hu z,AX (j.length:Int)] (O8 u))<|AZ<|AY<|Ai<|DW (λq u=>⟨BA 24 [(1,Hy j),(5,.aQ 0),(6,AX u)],[(IC q)],0⟩) _ _ _ _ (Ae [AQ 1]) h<|λq u J I L h=>AZ<|AP 2<|.Z (BJ DT j)<|Bl h (λh=>AZ<|Ai<|Bo h λq u L M h=>CS<|.a 3<|.p (BF DT u)<|.a 1<|.f (JB (dY:=[.aQ 0,D5 q]) (fE:=[.d (.sl (List.map Dh I)),D5 q]) (Xw M) (λx q=>Na) aIl ⟨⟨5,1,List.map Dh I,A8,rfl⟩,rfl,trivial⟩ rfl)<|aJu) λh=>IW
def aJy (j:Cm):AB AU:=some [j.User,j.Message,j.State,j.gV,j.kN,j.oK,j.iq]
def aZN :=Jv func330 rfl aJy IB Cb λj r h=>AP 1<|.f (CY 3 1)<|.aU<|AP 14<|.Y (GY Df zero3 [Ad j.User,Ad j.Message,Ad j.State,Ad j.gV,Ad j.kN,Ad j.oK,Ad j.iq])<|KH
def a2q (q:AU)(z:(AU->Int->AB AU)):AU->Int->AB AU:=λu j=>(cond (j<(q.length:Int)) ((Aj q j).bind λI=>(Kw u I).bind λJ=>z J (Az (j+1))) (some u))
def aCX (j:AU):AU->Int->AB AU:=aP (a2q j) Am
def a4a (j:D7)(z:(AU->Int->AB AU)):AU->Int->AB AU:=λu q=>(bif q<(j.Levels.Kinds.length:Int) then(Aj j.Levels.Kinds q).bind λI=>(Kw u I.Kind).bind λJ=>(Aj j.Levels.Kinds q).bind λL=>(Kw J L.N).bind λM=>z M (Az (q+1))else(aJy j.Levels).bind λO=>aCX O u 0)
def aLN (j:D7):AU->Int->AB AU:=aP (a4a j) Am
def a5b (j:D7)(u:(AU->Int->AB AU)):AU->Int->AB AU:=λO q=>(bif q<(j.Levels.Users.length:Int) then(Aj j.Levels.Users q).bind λz=>(RP O z.User).bind λI=>(Aj j.Levels.Users q).bind λJ=>(Kw I J.N).bind λL=>u L (Az (q+1))else(Kw O (j.Levels.Kinds.length:Int)).bind λM=>aLN j M 0)
def aT1 (j:D7):AU->Int->AB AU:=aP (a5b j) Am
def lV (j:D7):AB AU:=(RP [] j.Text).bind λq=>(Kw q j.N).bind λu=>(Kw u j.Target).bind λz=>(lK z j.Thread).bind λI=>(RP I j.Via).bind λJ=>(sD J j.Allow).bind λL=>(sD L j.iw).bind λM=>(Kw M (j.Levels.Users.length:Int)).bind λO=>aT1 j O 0
def aUA :=Jv func265 rfl lV He IC λj r h=>AP 1<|.f (CY 5 1)<|.aU<|AO h λq u h=>AP 2<|.Y (x:=.aQ 2) (J9 [.d (.lit (.slice none 0 0)),D5 j.Text] (Xw u))<|AO h λu z h=>AP 3<|.Y (JB (dY:=[.aQ 2,AX j.N]) (fE:=[.d (.sl (List.map Dh q)),AX j.N]) (O8 z) (λx q=>Na) ZU ⟨⟨5,1,List.map Dh q,A8,rfl⟩,rfl,trivial⟩ rfl)<|AO h λq z h=>AP 3<|.Y (JB (dY:=[.aQ 3,AX j.Target]) (fE:=[.d (.sl (List.map Dh u)),AX j.Target]) (O8 z) (λx q=>Na) ZU ⟨⟨5,1,List.map Dh u,A8,rfl⟩,rfl,trivial⟩ rfl)<|AO h λu z h=>AP 3<|.Y (JB (dY:=[.aQ 4,Af j.Thread]) (fE:=[.d (.sl (List.map Dh q)),Af j.Thread]) (aV3 z) (λx q=>Na) aXR ⟨⟨5,1,List.map Dh q,A8,rfl⟩,rfl,trivial⟩ rfl)<|AO h λq z h=>AP 3<|.Y (JB (dY:=[.aQ 5,D5 j.Via]) (fE:=[.d (.sl (List.map Dh u)),D5 j.Via]) (Xw z) (λx q=>Na) aIl ⟨⟨5,1,List.map Dh u,A8,rfl⟩,rfl,trivial⟩ rfl)<|AO h λu z h=>AP 3<|.Y (JB (dY:=[.aQ 6,Hy j.Allow]) (fE:=[.d (.sl (List.map Dh q)),Hy j.Allow]) (aXK z) (λx q=>Na) aSU ⟨⟨5,1,List.map Dh q,A8,rfl⟩,rfl,trivial⟩ rfl)<|AO h λq z h=>AP 3<|.Y (JB (dY:=[.aQ 7,Hy j.iw]) (fE:=[.d (.sl (List.map Dh u)),Hy j.iw]) (aXK z) (λx q=>Na) aSU ⟨⟨5,1,List.map Dh u,A8,rfl⟩,rfl,trivial⟩ rfl)<|AY<|AO h λu z h=>AP 3<|.p (BJ F5 j.Levels.Users)<|.Y (JB (dY:=[.aQ 8,AX (j.Levels.Users.length:Int)]) (fE:=[.d (.sl (List.map Dh q)),AX (j.Levels.Users.length:Int)]) (O8 z) (λx q=>Na) ZU ⟨⟨5,1,List.map Dh q,A8,rfl⟩,rfl,trivial⟩ rfl)<|AZ<|AY<|Ai<|DW (λq u=>⟨BA 109 [(3,.aQ 0),(4,.ptr 1 0),(5,AX u)],[(IC q),.box (BI (F8 j.Levels))],0⟩) _ _ _ _ (Ae [AQ 10,AQ 9]) h<|λq u z I J h=>AZ<|AP 3<|.Z (BJ F5 j.Levels.Users)<|Bl h (λh=>AZ<|Ai<|Bo h λq u J L h=>AP 4<|.p (BF F5 u)<|.a 2<|.Y (JB (dY:=[.aQ 0,D5 q.User]) (fE:=[.d (.sl (List.map Dh I)),D5 q.User]) (Xw L) (λx q=>Na) aIl ⟨⟨5,1,List.map Dh I,A8,rfl⟩,rfl,trivial⟩ rfl)<|Bo h λq u I L h=>CS<|.a 4<|.p (BF F5 u)<|.a 2<|.f (JB (dY:=[.aQ 2,AX q.N]) (fE:=[.d (.sl (List.map Dh J)),AX q.N]) (O8 L) (λx q=>Na) ZU ⟨⟨5,1,List.map Dh J,A8,rfl⟩,rfl,trivial⟩ rfl)<|.aN<|DI<|z _ _ _ (Ae [AQ 3,AQ 1]) h) λh=>Cj<|AO h λq u h=>AP 3<|.p (BJ Ey j.Levels.Kinds)<|.Y (JB (dY:=[.aQ 0,AX (j.Levels.Kinds.length:Int)]) (fE:=[.d (.sl (List.map Dh I)),AX (j.Levels.Kinds.length:Int)]) (O8 u) (λx q=>Na) ZU ⟨⟨5,1,List.map Dh I,A8,rfl⟩,rfl,trivial⟩ rfl)<|AZ<|AY<|Ai<|DW (λq u=>⟨BA 109 [(3,.aQ 0),(4,.ptr 1 0),(6,AX u)],[(IC q),.box (BI (F8 j.Levels))],0⟩) _ _ _ _ (Ae [AQ 2,AQ 1]) h<|λq u z I J h=>AZ<|AP 3<|.Z (BJ Ey j.Levels.Kinds)<|Bl h (λh=>AZ<|Ai<|Bo h λq u J L h=>AP 4<|.p (BF Ey u)<|.a 2<|.Y (JB (dY:=[.aQ 0,AX q.Kind]) (fE:=[.d (.sl (List.map Dh I)),AX q.Kind]) (O8 L) (λx q=>Na) ZU ⟨⟨5,1,List.map Dh I,A8,rfl⟩,rfl,trivial⟩ rfl)<|Bo h λq u I L h=>CS<|.a 4<|.p (BF Ey u)<|.a 2<|.f (JB (dY:=[.aQ 2,AX q.N]) (fE:=[.d (.sl (List.map Dh J)),AX q.N]) (O8 L) (λx q=>Na) ZU ⟨⟨5,1,List.map Dh J,A8,rfl⟩,rfl,trivial⟩ rfl)<|.aN<|DI<|z _ _ _ (Ae [AQ 3,AQ 1]) h) λh=>Cj<|AO h λq u h=>AP 1<|.X (aZN u).view<|AZ<|AY<|Ai<|DW (λu z=>⟨BA 109 [(3,.aQ 0),(7,Bf q),(8,AX z)],[(IC u)],0⟩) _ _ _ _ (Ae [AQ 0]) h<|λu z I J L h=>AZ<|AP 2<|.Z (BJ Ad q)<|Bl h (λh=>AZ<|Ai<|Bo h λq u z L h=>CS<|.a 3<|.p (BF Ad u)<|.a 1<|.f (JB (dY:=[.aQ 0,AX q]) (fE:=[.d (.sl (List.map Dh J)),AX q]) (O8 L) (λx q=>Na) ZU ⟨⟨5,1,List.map Dh J,A8,rfl⟩,rfl,trivial⟩ rfl)<|aHV) λh=>IW
def aL0  :AB Int:=some 860922984064492325
def aip (r:Int)(h:aL0=some r):Dw 196 [] [] (AX r) []:=ER func196 rfl<|Ze
def aD3 (j:AU)(u:(Int->Int->AB Int)):Int->Int->AB Int:=λv2 q=>(cond (q<(j.length:Int)) ((Aj j q).bind λz=>(Wi (IntKind.u64.wrap ((Ej .xor .u64 v2 (IntKind.u64.wrap z))*1099511628211)) 4611686018427387904).bind λI=>u I (Az (q+1))) (some (Az v2)))
def aNQ (j:AU):Int->Int->AB Int:=aP (aD3 j) Am
def aE5 (j:Int)(q:AU):AB Int:=(Wi (IntKind.u64.wrap j) 4611686018427387904).bind λu=>aNQ q u 0
def aZn :=DR func195 rfl aE5 AX Hu AX λI j r h=>AY<|AO h λz q h=>AP 2<|.Z (aG4 (k:=.u64) q)<|AZ<|AY<|Ai<|DW (λz q=>⟨BA 27 [(1,Hu j),(5,.d ((oZ .u64) z)),(6,AX q)],[],0⟩) _ _ _ _ (Ae []) h<|λz q J L M h=>AZ<|AP 2<|.Z (BJ Dh j)<|Bl h (λh=>AZ<|Ai<|Bo h λz q M O h=>CS<|.a 3<|.p (BF Dh q)<|.a 2<|.p (a6y (k:=.u64) (u:=L) (v:=(IntKind.u64.wrap z)))<|.a 1<|.p (aG4 (k:=.u64) O)<|.aN<|DI<|J _ _ _ (Ae []) h) λh=>EX
def Sim (j:AU):AB Int:=(aL0).bind λq=>(aE5 q j).bind λu=>some u
def aSN :=Dc func119 rfl Sim Hu AX λj r h=>AY<|Bo h λq u I z h=>BO<|.ca (aip  q u)<|.a 1<|.X (aZn z)<|CW
def aBh (j:Aa):AB Int:=(lV j.Content).bind λq=>(Sim q).bind λu=>some u
def acg :=Dc func193 rfl aBh DV AX λj r h=>AY<|Bo h λz q I u h=>AP 2<|.ca (aUA q).view<|.X (aSN u)<|CW
def yx (j:Aa):AB AV:=(aBh j).bind λq=>some (q==j.Hash)
def aT8 :=Dc func115 rfl yx DV Af λj r h=>AY<|AO h λu q h=>El A8 A8 A8 (.a 1<|.ca (acg q)<|.a 4<|.nil _)<|CW
def nJ (j:AU):AB AU:=(DC 8 [] j).bind λq=>some q
def aSL {ng r}(h:nJ ng=some r):Dw 183 [Bf ng] [] (.aQ 0) [(Cb r)]:=by
 refine ER func183 rfl ?_;unfold nJ at h;refine BO<|.f (CY 3 1)<|.aU<|AZ<|jL (x:=.tmp 3) (t':=27) (d:=4) (es:=List.map Ad ng) 1 rfl (.a 1<|.nil _) A8 A8 A8 Ij A8 ?_;intro b j;cases b
 ·clear j;refine MF A8<|Ew ?_;obtain⟨u,q,h⟩:=Dn h;refine BO<|.f (GY Df zero3 [])<|.a 1<|.f (DZ (k:=1) Ad q Df A8 (λ_=>rfl) Bd)<|.aM 1 ?_;rw[←CP h];exact .ret (Ei [AQ 2])
 replace j:=lR j;replace h:some []=some r:=jc
 refine Nc A8<|BO<|.f (CY 3 1)<|.aU ?_;rw[←CP h];exact .ret (Ei [AQ 1])
def Uc (j:AU):AB AU:=(nJ j).bind λq=>(Oc q).bind λu=>(XZ u).bind λz=>some z
def Zd :=Jv func125 rfl Uc Bf Cb λj r h=>BO<|.f (CY 3 1)<|.aU<|AO h λu q h=>AP 1<|.Y (x:=.aQ 1) (J9 [Bf j] (aSL q))<|AO h λq z h=>AP 1<|.f (x:=.eG []) (EL [.ent 1] [.aQ 1] (zJ u q z))<|.aU<|AO h λu z h=>AP 1<|.Y (x:=.aQ 2) (EL [.ent 1] [.aQ 1] (aDq q u z))<|KH
def cmp_isNaN_int (j:Int):AB AV:=some (j != j)
def aVd :=Dc func268 rfl cmp_isNaN_int AX Af λj r h=>Ze
def cmp_Less_int (j:Int)(q:Int):AB AV:=(cmp_isNaN_int j).bind λu=>(cond u ((cmp_isNaN_int q).bind λz=>some (!z)) (some false)).bind λI=>(cond I (some true) (some (decide (j<q)))).bind λJ=>some J
def aYe :=DR func199 rfl cmp_Less_int AX AX Af λu z r h=>AY<|AO h λq j h=>AP 1<|.ca (aVd j)<|.a 1<|AO h λq j h=>.mg 8 3 (Af q) (Cc j (λe i=>by subst e;have h:=i;exact AO h λq j h=>.a 1<|.X (aVd j)<|Ce))<|.a 1<|AO h λq j h=>.mg 13 3 (Af q) (Cc j)<|.aW<|CW
def a5r (j:Int):AB AV:=some (j != j)
def aSM :=Dc func200 rfl a5r AX Af λj r h=>Ze
def aUl (q:AU)(j:Int)(k3:(Int->Int->AB (Int×AV))):Int->Int->AB (Int×AV):=λu v2=>(bif u<v2 then(PZ .shr .u64 (IntKind.u64.wrap (Az (u+v2))) 1).bind λz=>(Aj q (Az z)).bind λY=>(cmp_Less_int Y j).bind λZ=>(cond Z (k3 (Az ((Az z)+1)) v2) (k3 u (Az z)))else(cond (u<(q.length:Int)) ((Aj q u).bind λI=>(cond (I==j) (some true) ((Aj q u).bind λJ=>(a5r J).bind λL=>(cond L ((a5r j).bind λM=>some M) (some false)).bind λO=>some O)).bind λU=>some U) (some false)).bind λx9=>some (u,x9))
def aTH (q:AU)(j:Int):Int->Int->AB (Int×AV):=aP (aUl q j) Am
def a2z (q:AU)(j:Int):AB (Int×AV):=aTH q j 0 (q.length:Int)
def ak3 :=DR func126 rfl a2z Bf AX (λr=>.eG [AX r.1,Af r.2]) λz q r h=>AY<|AP 1<|.Z (BJ Ad z)<|AY<|AZ<|Ai<|DW (λu j=>⟨BA 54 [(0,Bf z),(1,AX q),(6,AX (z.length:Int)),(7,AX u),(8,AX j)],[],0⟩) _ _ _ _ (Ae []) h<|λu j I J L h=>AZ<|AY<|Bl h (λh=>Ai<|AO h λu j h=>AP 4<|.Z (aOX (k:=.u64) (k':=.u64) j)<|Bo h λu j J L h=>AP 2<|.p (BF Ad j)<|.a 2<|.ca (aYe L)<|.aU<|DX h (λh=>yO) λh=>yO) λh=>Cj<|AP 4<|AO h λu j h=>.mg 35 18 (Af u) (.bi j (λh=>AO h λu j h=>.a 2<|.p (BF Ad j)<|.a 3<|AO h λu j h=>.mg 42 10 (Af u) (.bi j (k2:=λh=>Bo h λu j I J h=>.a 2<|.p (BF Ad j)<|.a 1<|.ca (aSM J)<|.a 1<|AO h λu j h=>.mg 49 2 (Af u) (Cc j (λe i=>by subst e;have h:=i;exact AO h λu j h=>.a 1<|.X (aSM j)<|Ce))<|.aW<|Ce))<|.aW<|Ce))<|.aW<|CW
def a5J (j:(AU->Int->AB AU))(q:Int)(u:AU):AB AU:=j u (Az (q+1))
def aCr (I:AU)(M:AU)(J:(AU->Int->AB AU)):AU->Int->AB AU:=λq j=>(cond (j<(I.length:Int)) ((Aj I j).bind λL=>(a2z M L).bind λu=>(cond (!u.2) ((DC 8 q [L]).bind λz=>a5J J j z) (a5J J j q))) (some q))
def aM7 (j:AU)(q:AU):AU->Int->AB AU:=aP (aCr j q) Am
def a4h (j:AU)(q:AU):AB AU:=(Uc q).bind λu=>(Uc j).bind λz=>aM7 z u [] 0
def am0 :=G8 func51 rfl a4h Bf Bf Cb λL M r h=>BO<|.f (CY 3 1)<|.aU<|AO h λz j h=>AP 1<|.X (Zd j).view<|BO<|.f (CY 3 1)<|.aU<|AZ<|AO h λj u h=>AP 1<|.ca (Zd u).view<|.Z (BJ Ad j)<|Ai<|DW (λu q=>⟨BA 34 [(5,Bf z),(6,.aQ 0),(14,Bf j),(15,AX (j.length:Int)),(16,AX q)],[(Cb u)],0⟩) _ _ _ _ (Ae [AQ 1]) h<|λu q I U O h=>AY<|AZ<|Bl h (λh=>D9 (λs=>∃(J:(AA Int)),CO s ⟨BA 34 [(5,Bf z),(6,.aQ 0),(14,Bf j),(15,AX (j.length:Int)),(16,AX O)],[(Cb J)],0⟩/\a5J q O J=some r) (by rintro s ⟨J,hs,h⟩;exact DJ hs<|Sl)<|λj=>Ai<|AO h λu q h=>BO<|.Z (BF Ad q)<|AO h λq I h=>AP 2<|.X (ak3 I)<|AY<|BG h (λh=>AO h λz q h=>CS<|.a 2<|.p (Dx Df zero3 [Ad u])<|.f (DZ (k:=0) Ad q Df A8 (λ_=>rfl) Bd)<|.aN<|j _ ⟨z,Ae [AQ 1],h⟩) λh=>j _ ⟨U,Ae [AQ 0],h⟩) λh=>IW
def aA2 (j:AU)(q:AU):AB AU:=(nJ j).bind λu=>(DC 8 u q).bind λz=>(Uc z).bind λI=>some I
def ai8 :=G8 func107 rfl aA2 Bf Bf Cb λj q r h=>BO<|.f (CY 3 1)<|.aU<|Gt h λL z u I M J h=>AP 1<|.f (x:=.aQ 1) (J9 [Bf j] (aSL z))<|.a 1<|.f (DZ (k:=1) Ad I Df A8 (λ_=>rfl) Bd)<|.conv _ (IQ (e:=3) (s:=1) 2 (xs:=List.map Ad u) A8)<|.Y (x:=.aQ 3) (J9 [Bf u] (Zd J))<|jH
def Z7 (j:AU)(q:Int):AB AU:=(Ir 1 0 (j.length:Int) (Az ((j.length:Int)+q))).bind λu=>some (gCopy u j)
def zn :=G8 func121 rfl Z7 Hu AX IC λj q r h=>BO<|.f (CY 5 1)<|.aU<|AO h λu z h=>AP 1<|.p (BJ Dh j)<|.a 1<|.p (BJ Dh j)<|.a 2<|.Y (YO Dh 0 z JC Ql A8 A8 A8 Bd)<|AP 2<|.f (aeM (k:=1) Dh u j JC A8 (λ_=>rfl))<|.aU<|AY<|JL
def XU (u:(AU->Int->AB AU)):AU->Int->AB AU:=λq j=>(cond (j>=128) ((DC 1 q [Ej .or .u8 (IntKind.u8.wrap j) 128]).bind λz=>(PZ .shr .u64 j 7).bind λI=>u z I) ((DC 1 q [IntKind.u8.wrap j]).bind λJ=>some J))
def aQ4  :AU->Int->AB AU:=aP (XU) Am
def a2w (j:AU)(v2:Int):AB AU:=aQ4 j v2
def Z9 (j:AU)(q:Int):AB AU:=(PZ .shl .u64 (IntKind.u64.wrap q) 1).bind λu=>(cond (q<0) (a2w j (eu .u64 u)) (a2w j u))
def yI {VL Fj r}(h:Z9 VL Fj=some r):Dw 122 [.aQ 0,AX Fj] [(IC VL)] (.aQ 1) [.dead,(IC r)]:=ER func122 rfl<|BO<|.f (CY 5 1)<|.aU<|AO h λq j h=>AP 2<|.Z (a4J (k:=.u64) (k':=.u64) j)<|D9 (λs=>∃(v2:Int),CO s ⟨BA 28 [(0,.aQ 1),(5,.d ((oZ .u64) v2))],[.dead,(IC VL)],1⟩/\a2w VL v2=some r) (by rintro s ⟨v2,hs,h⟩;exact DJ hs<|AZ<|Ai<|DW (λq j=>⟨BA 28 [(0,.aQ 1),(5,.d ((oZ .u64) j))],[.dead,(IC q)],1⟩) _ _ _ _ (Ae [(0,false),AQ 1]) h<|λq j I J z h=>AZ<|AY<|Bl h (λh=>Ai<|AO h λq j h=>AP 3<|.p (WC (k:=.u8) (u:=(IntKind.u8.wrap z)) (v:=128))<|.p (Dx JC Ql [Dh (Ej .or .u8 (IntKind.u8.wrap z) 128)])<|.Y (DZ (k:=1) Dh j JC A8 (λ_=>rfl) Bd)<|AO h λq j h=>CS<|.a 1<|.p (aOX (k:=.u64) (k':=.u64) j)<|.aN<|I _ _ _ (Ae [(0,false),AQ 2]) h) λh=>Cj<|AO h λq j h=>AP 3<|.p (Dx JC Ql [Dh (IntKind.u8.wrap z)])<|.Y (DZ (k:=1) Dh j JC A8 (λ_=>rfl) Bd)<|by cases h;exact .ret (Ei [(0,false),AQ 2]))<|λj=>AY<|BG h (λh=>CS<|.a 1<|.p (aME (k:=.u64) (u:=q))<|.aN<|j _ ⟨(eu .u64 q),Ae [(0,false),AQ 0],h⟩) λh=>j _ ⟨q,Ae [(0,false),AQ 0],h⟩
def zs (q:AU)(j:BL):AB AU:=(Z9 q (j.size:Int)).bind λu=>(DC 1 u (DL j)).bind λz=>some z
def aRV {VL rW r}(h:zs VL rW=some r):Dw 120 [.aQ 0,D5 rW] [(IC VL)] (.aQ 1) [.dead,(IC r)]:=ER func120 rfl<|BO<|.f (CY 5 1)<|.aU<|Bo h λu j z q h=>AP 3<|.f (x:=.aQ 2) (EL [.ent 0] [.aQ 0,AX (rW.size:Int)] (yI j))<|.a 1<|.Y (aei (k:=2) q JC Ql Gm A8)<|by cases h;exact .ret (Ei [(0,false),AQ 3])
def TA (q:AU)(j:BL):AB AU:=(Z7 q (Az ((j.size:Int)+10))).bind λu=>(zs u j).bind λz=>some z
def a2c :=G8 func47 rfl TA Hu D5 IC λq j r h=>BO<|.f (CY 5 1)<|.aU<|Bo h λI u J z h=>AP 4<|.f (x:=.aQ 1) (J9 [Hu q,AX (Az ((j.size:Int)+10))] (zn u))<|.a 1<|.Y (x:=.aQ 2) (EL [.ent 1] [.aQ 1,D5 j] (aRV z))<|KH
def Nq (j:AU)(q:Int):AB AU:=(Z7 j 10).bind λu=>(Z9 u q).bind λz=>some z
def Xb :=G8 func48 rfl Nq Hu AX IC λj q r h=>BO<|.f (CY 5 1)<|.aU<|Bo h λI u J z h=>AP 1<|.f (x:=.aQ 1) (J9 [Hu j,AX 10] (zn u))<|.a 1<|.Y (x:=.aQ 2) (EL [.ent 1] [.aQ 1,AX q] (yI z))<|KH
def UK (j:CJ)(q:Int)(k3:(Int->FB->AB (FB×AV))):Int->FB->AB (FB×AV):=λu v2=>(cond (u<(j.Rows.length:Int)) ((Aj j.Rows u).bind λz=>(cond (z.Id==q) (some (z,true)) (k3 (Az (u+1)) v2))) (some (KC,false)))
def aQd (q:CJ)(j:Int):Int->FB->AB (FB×AV):=aP (UK q j) Am
def Yf (q:CJ)(j:Int):AB (FB×AV):=aQd q j 0 KC
def wM :=DR func32 rfl Yf FP AX (λr=>.eG [dB r.1,Af r.2]) λj q r h=>AY<|AZ<|AP 2<|.Z (BJ Ea j.Rows)<|Ai<|DW (λu z=>⟨BA 22 [(1,AX q),(4,.ptr 0 0),(9,QA j.Rows),(10,AX (j.Rows.length:Int)),(11,AX u)],[.box (BI (Ea z))],0⟩) _ _ _ _ (Ae [AQ 1]) h<|λu z J L M h=>AY<|AZ<|Bl h (λh=>AZ<|Ai<|AO h λu z h=>BO<|.Z (BF Ea z)<|AY<|BG h (λh=>AY<|Ep<|by rw[←CP h];exact⟨[dB u,Af true],[],⟨⟨0,BI (Ea u),true,4,A8,A8,A8,qw,Dl A8,Lc,A8⟩,G7 A8,trivial⟩,A8,A8,A8⟩) λh=>kn) λh=>Cj<|AY<|Ep<|by rw[←CP h];exact⟨[dB KC,Af false],[],⟨⟨0,BI (Ea KC),true,4,A8,A8,A8,qw,Dl A8,Lc,A8⟩,G7 A8,trivial⟩,A8,A8,A8⟩
def aCv  :AB Int:=some 860922984064492325
def ahF (r:Int)(h:aCv=some r):Dw 124 [] [] (AX r) []:=ER func124 rfl<|Ze
def aIq (j:AU)(k3:(Int->Int->AB Int)):Int->Int->AB Int:=λq v2=>(cond (v2<(j.length:Int)) ((Aj j v2).bind λu=>k3 (Ej .and .u64 (IntKind.u64.wrap ((Ej .xor .u64 q (IntKind.u64.wrap u))*1099511628211)) 4611686018427387903) (Az (v2+1))) (some (Az q)))
def aQ8 (j:AU):Int->Int->AB Int:=aP (aIq j) Am
def aEj (j:Int)(q:AU):AB Int:=aQ8 q (Ej .and .u64 (IntKind.u64.wrap j) 4611686018427387903) 0
def aaR :=DR func123 rfl aEj AX Hu AX λq j r h=>AY<|AP 2<|.Z (Qr (k:=.u64) (u:=(IntKind.u64.wrap q)) (v:=4611686018427387903))<|AZ<|AP 1<|.Z (BJ Dh j)<|Ai<|DW (λz I=>⟨BA 26 [(5,.d ((oZ .u64) z)),(11,Hu j),(12,AX (j.length:Int)),(13,AX I)],[],0⟩) _ _ _ _ (Ae []) h<|λz I L J M h=>AY<|AZ<|Bl h (λh=>AZ<|Ai<|AO h λz I h=>BO<|.Z (BF Dh I)<|CS<|.a 3<|.p (a6y (k:=.u64) (u:=J) (v:=(IntKind.u64.wrap z)))<|.a 1<|.p (Qr (k:=.u64) (u:=(IntKind.u64.wrap ((Ej .xor .u64 J (IntKind.u64.wrap z))*1099511628211))) (v:=4611686018427387903))<|.aN<|DI<|L _ _ _ (Ae []) h) λh=>EX
def zF (j:AU):AB Int:=(aCv).bind λq=>(aEj q j).bind λu=>some u
def aOO :=Dc func50 rfl zF Hu AX λj r h=>AY<|Bo h λq u I z h=>BO<|.ca (ahF  q u)<|.a 1<|.X (aaR z)<|CW
def UU (j:CJ)(q:Int)(k3:(Int->FB->AB (FB×AV))):Int->FB->AB (FB×AV):=λu v2=>(cond (u<(j.Rows.length:Int)) ((Aj j.Rows u).bind λz=>(cond (z.Id==q) ((Aj j.Rows u).bind λI=>some (I,true)) (k3 (Az (u+1)) v2))) (some (KC,false)))
def aOK (q:CJ)(j:Int):Int->FB->AB (FB×AV):=aP (UU q j) Am
def dG (q:CJ)(j:Int):AB (FB×AV):=aOK q j 0 KC
def a2s :=DR func33 rfl dG FP AX (λr=>.eG [dB r.1,Af r.2]) λj q r h=>AY<|AZ<|AY<|Ai<|DW (λu z=>⟨BA 28 [(1,AX q),(2,.ptr 0 0),(4,.ptr 1 0),(6,AX u)],[.box (BI (CZ j)),.box (BI (Ea z))],0⟩) _ _ _ _ (Ae [AQ 0,AQ 1]) h<|λu z J L M h=>AZ<|AP 3<|.Z (BJ Ea j.Rows)<|Bl h (λh=>AZ<|Ai<|AO h λu z h=>AP 3<|.Z (BF Ea z)<|BG h (λh=>AO h λu z h=>AP 3<|.Z (BF Ea z)<|Ep<|by rw[←CP h];exact⟨[dB u,Af true],[],⟨⟨1,BI (Ea u),true,4,A8,A8,A8,qw,Dl A8,Lc,A8⟩,G7 A8,trivial⟩,A8,A8,A8⟩) λh=>yC) λh=>Cj<|AY<|Ep<|by rw[←CP h];exact⟨[dB KC,Af false],[],⟨⟨1,BI (Ea KC),true,4,A8,A8,A8,qw,Dl A8,Lc,A8⟩,G7 A8,trivial⟩,A8,A8,A8⟩
def aFF (j:BL)(q:BL):AB (BL×BL×AV):=(a4P j q).bind λu=>(cond (u>=0) ((OC j 0 u).bind λz=>(OC j (Az (u+(q.size:Int))) ((j).size)).bind λI=>some (z,I,true)) (some (j,Ci,false)))
def ag0 :=DR func274 rfl aFF D5 D5 (λr=>.eG [D5 r.1,D5 r.2.1,Af r.2.2]) λq j r h=>AY<|AZ<|AO h λJ u h=>AP 2<|.X (alc q j J u)<|AY<|BG h (λh=>Bo h λJ u L z h=>El A8 A8 A8 (.a 2<|.p (kY u (λ_=>rfl) Lc Gm rfl)<|.a 5<|.p (kY z Lc (λ_=>rfl) Gm rfl)<|.a 3<|.nil _)<|CW) λh=>AY<|CW
def strings_Cut (q:BL)(j:BL):AB (BL×BL×AV):=(aFF q j).bind λu=>some (u.1,u.2.1,u.2.2)
def ac7 :=DR func204 rfl strings_Cut D5 D5 (λr=>.eG [D5 r.1,D5 r.2.1,Af r.2.2]) λq j r h=>AY<|AO h λz u h=>AP 2<|.X (ag0 u)<|CW
def a07 (j:Int):AB AV:=(cond (j==95) (some true) (some (j==46))).bind λq=>(cond q (some true) (some (j==45))).bind λu=>(cond u (some true) (some (j==61))).bind λz=>some z
def ai4 :=Dc func272 rfl a07 (λj=>.d (Dh j)) Af λj r h=>AY<|AP 2<|AO h λq u h=>.mg 5 3 (Af q) (.bi u)<|.a 1<|AO h λq u h=>.mg 10 2 (Af q) (Cc u)<|.a 1<|AO h λq u h=>.mg 14 2 (Af q) (Cc u)<|.aW<|CW
def nE (j:Int):AB AV:=(cond (j>=97) (some (decide (j<=122))) (some false)).bind λq=>(cond q (some true) ((cond (j>=48) (some (decide (j<=57))) (some false)).bind λu=>some u)).bind λz=>some z
def aEc :=Dc func271 rfl nE (λj=>.d (Dh j)) Af λj r h=>AY<|AP 2<|AO h λq u h=>.mg 5 3 (Af q) (.bi u)<|.a 1<|AO h λq u h=>.mg 10 6 (Af q) (Cc u (k2:=λe i=>aVb))<|.aW<|CW
def aGT (q:BL)(j:(Int->AB AV))(J:(Int->AB AV)):Int->AB AV:=λu=>(cond (u<(q.size:Int)) ((Hz q u).bind λL=>(nE L).bind λM=>(cond (!M) ((Hz q u).bind λz=>(j z).bind λI=>some (!I)) (some false)).bind λO=>(cond O (some false) (J (Az (u+1))))) (some true))
def aJw (q:BL)(j:(Int->AB AV)):Int->AB AV:=bf (aGT q j) Am
def dI (q:BL)(j:(Int->AB AV)):AB AV:=(cond ((q.size:Int)<1) (some true) (some (decide ((q.size:Int)>32)))).bind λu=>(cond u (some false) (aJw q j 0))
def aWH (z:BL)(q:(Int->AB AV))(j:D)(u:S9 Ak Dh Dt j q)(r:AV)(h:dI z q=some r):Dw 269 [D5 z,.d j] [] (Af r) []:=ER func269 rfl<|AY<|AZ<|AP 3<|AO h λI J h=>.mg 9 4 (Af I) (.bi J)<|.aU<|BG h Bv λh=>AZ<|AY<|Ai<|Dk (λI=>⟨BA 33 [(0,D5 z),(1,.d j),(15,AX (z.size:Int)),(16,AX I)],[],0⟩) _ _ _ (Ae []) h<|λI J M L h=>AY<|AZ<|Bl h (λh=>AZ<|Ai<|AY<|Bo h λI J L O h=>AP 2<|.p (KO (k:=.i64) J Gm)<|.ca (aEc O)<|.a 1<|AO h λI J h=>.mg 24 7 (Af I) (.bi J (λh=>Bo h λI J M L h=>.a 3<|.p (KO (k:=.i64) J Gm)<|.Z (rU (d:=j) (u:S9 Ak Dh Dt j q) L)<|Ce))<|.aU<|aD7) λh=>EX
def aAj (j:BL):AB AV:=(dI j (λa0=>a07 a0)).bind λq=>some q
def aaX :=Dc func202 rfl aAj D5 Af λj r h=>AY<|AO h λq u h=>AP 1<|.X (aWH j (λq=>a07 q) (.fn (.func 272) [] []) ⟨272,[],rfl,alF,λq u z=>ai4 z⟩ q u)<|CW
def vV (j:Int):AB AV:=(cond (j==46) (some true) (some (j==45))).bind λq=>some q
def abN :=Dc func270 rfl vV (λj=>.d (Dh j)) Af λj r h=>AY<|AP 2<|AO h λq u h=>.mg 5 3 (Af q) (.bi u)<|.aW<|CW
def a3l (j:BL):AB AV:=(dI j (λa0=>vV a0)).bind λq=>(cond q ((Hz j 0).bind λu=>(nE u).bind λz=>some z) (some false)).bind λI=>(cond I ((Hz j (Az ((j.size:Int)-1))).bind λJ=>(nE J).bind λL=>some L) (some false)).bind λM=>some M
def aaG :=Dc func201 rfl a3l D5 Af λu r h=>AY<|AO h λj q h=>AP 1<|.ca (aWH u (λj=>vV j) (.fn (.func 270) [] []) ⟨270,[],rfl,aj1,λj q z=>abN z⟩ j q)<|.a 1<|AO h λj q h=>.mg 6 3 (Af j) (Cc q (λe i=>by subst e;have h:=i;exact Bo h λj q z I h=>.a 1<|.p (KO (k:=.i64) q Gm)<|.X (aEc I)<|Ce))<|.a 1<|AO h λj q h=>.mg 11 6 (Af j) (Cc q (λe i=>by subst e;have h:=i;exact Bo h λj q z I h=>.a 4<|.p (KO (k:=.i64) q Gm)<|.X (aEc I)<|Ce))<|.aW<|CW
def o9 (j:BL)(q:BL):AB (BL×BL×AV):=(cond (j.toList==Ci.toList) (some true) ((Hz j 0).bind λL=>(strings_IndexByte q L).bind λM=>some (decide (M<0)))).bind λO=>(cond O (some (Ci,Ci,false)) ((OC j 1 ((j).size)).bind λU=>(strings_Cut U uJ).bind λu=>(cond (!u.2.2) (some true) ((aAj u.1).bind λz=>some (!z))).bind λY=>(cond Y (some true) ((a3l u.2.1).bind λI=>some (!I))).bind λJ=>(cond J (some (Ci,Ci,false)) (some (u.1,u.2.1,true)))))
def aNq :=DR func130 rfl o9 D5 D5 (λr=>.eG [D5 r.1,D5 r.2.1,Af r.2.2]) λz j r h=>AY<|AZ<|AP 2<|AO h λu q h=>.mg 12 6 (Af u) (.bi q (k2:=λh=>Bo h λu q J I h=>.a 2<|.p (KO (k:=.i64) q Gm)<|.X (aj0 j u J I)<|Ce))<|.aU<|BG h Bv λh=>Bo h λu q J I h=>AP 1<|.p (kY q aLR (λ_=>rfl) Gm rfl)<|.X (ac7 I)<|AZ<|AP 2<|AO h λu q h=>.mg 28 4 (Af u) (.bi q (k2:=λh=>AO h λu q h=>.a 1<|.X (aaX q)<|Ce))<|.a 1<|AO h λu q h=>.mg 34 3 (Af u) (Cc q (k2:=λe i=>by subst e;have h:=i;exact AO h λu q h=>.a 1<|.X (aaG q)<|Ce))<|.aU<|Ib
def yJ (q:BL)(j:BL):AB Int:=(o9 q j).bind λu=>(cond (!u.2.2) (some 3) (some 0))
def aX1 :=DR func166 rfl yJ D5 D5 AX λq j r h=>AY<|AZ<|AO h λz u h=>AP 2<|.X (aNq u)<|AY<|Ib
def aG (j:BL):AB Int:=(yJ j a3K).bind λq=>some q
def aB1 :=Dc func89 rfl aG D5 AX λj r h=>AY<|AO h λu q h=>AP 1<|.X (aX1 q)<|CW
def jT (j:BL):AB (CJ×Int):=(aG j).bind λq=>(cond (q != 0) (some (LJ,3)) (some ({ LJ with Id:=j },0)))
def aHd :=Dc func30 rfl jT D5 (λr=>.eG [FP r.1,AX r.2]) λj r h=>AY<|AZ<|AO h λz u h=>AP 1<|.ca (aB1 u)<|aSS
def YN (q:AU)(j:AV):AB AU:=(Z7 q 1).bind λu=>(cond j ((DC 1 u [1]).bind λz=>some z) ((DC 1 u [0]).bind λI=>some I))
def aO2 :=G8 func214 rfl YN Hu Af IC λj u r h=>BO<|.f (CY 5 1)<|.aU<|AO h λz q h=>AP 1<|.Y (x:=.aQ 1) (J9 [Hu j,AX 1] (zn q))<|AZ<|AY<|BG h (λh=>AO h λz q h=>AP 1<|.p (Dx JC Ql [Dh 1])<|.Y (DZ (k:=1) Dh q JC A8 (λ_=>rfl) Bd)<|KH) λh=>AO h λz q h=>AP 1<|.p (Dx JC Ql [Dh 0])<|.Y (DZ (k:=1) Dh q JC A8 (λ_=>rfl) Bd)<|KH
def aFe (j:GH)(u:(AU->Int->AB AU)):AU->Int->AB AU:=λv2 q=>(cond (q<(j.length:Int)) ((Aj j q).bind λz=>(zs v2 z).bind λI=>u I (Az (q+1))) (some v2))
def aTi (j:GH):AU->Int->AB AU:=aP (aFe j) Am
def aBu (q:AU)(j:GH):AB AU:=(Z9 q (j.length:Int)).bind λu=>aTi j u 0
def aY3 {VL iT r}(h:aBu VL iT=some r):Dw 277 [.aQ 0,Hy iT,.d (.fn (.func 120) [] [])] [(IC VL)] (.aQ 1) [.dead,(IC r)]:=ER func277 rfl<|BO<|.f (CY 5 1)<|.aU<|AO h λq j h=>AP 2<|.p (BJ DT iT)<|.Y (x:=.aQ 2) (EL [.ent 0] [.aQ 0,AX (iT.length:Int)] (yI j))<|AZ<|AP 1<|.Z (BJ DT iT)<|Ai<|DW (λq j=>⟨BA 25 [(0,.aQ 1),(2,.d (.fn (.func 120) [] [])),(13,Hy iT),(14,AX (iT.length:Int)),(15,AX j)],[.dead,(IC q)],1⟩) _ _ _ _ (Ae [(0,false),AQ 2]) h<|λq j z I u h=>AY<|AZ<|Bl h (λh=>AZ<|Ai<|AO h λq j h=>BO<|.Z (BF DT j)<|AO h λj u h=>CS<|.a 3<|.f (x:=.aQ 2) (aPT [.ent 1] [] [] [.aQ 1,D5 q] (aRV u))<|aGh) λh=>Cj<|AY<|iV
def Opn (q:AU)(j:GH):AB AU:=(Z7 q (Az ((Az (8*(j.length:Int)))+10))).bind λu=>(aBu u j).bind λz=>some z
def aWi :=G8 func215 rfl Opn Hu Hy IC λq j r h=>BO<|.f (CY 5 1)<|.aU<|Bo h λI u J z h=>AP 2<|.p (BJ DT j)<|.a 2<|.f (x:=.aQ 1) (J9 [Hu q,AX (Az ((Az (8*(j.length:Int)))+10))] (zn u))<|.a 1<|.Y (x:=.aQ 2) (EL [.ent 1] [.aQ 1,Hy j,.d (.fn (.func 120) [] [])] (aY3 z))<|KH
def aEi (j:D7)(z:(AU->Int->AB AU)):AU->Int->AB AU:=λu q=>(cond (q<7) ((Aj ([j.Levels.User,j.Levels.Message,j.Levels.State,j.Levels.gV,j.Levels.kN,j.Levels.oK,j.Levels.iq]:AU) q).bind λI=>(Nq u I).bind λJ=>z J (Az (q+1))) (some u))
def aFJ (j:D7):AU->Int->AB AU:=aP (aEi j) Am
def a3C (j:D7)(I:(AU->Int->AB AU)):AU->Int->AB AU:=λu q=>(cond (q<(j.Levels.Kinds.length:Int)) ((Aj j.Levels.Kinds q).bind λz=>(Nq u z.Kind).bind λJ=>(Nq J z.N).bind λL=>I L (Az (q+1))) (aFJ j u 0))
def aFH (j:D7):AU->Int->AB AU:=aP (a3C j) Am
def a5F (j:D7)(z:(AU->Int->AB AU)):AU->Int->AB AU:=λM q=>(bif q<(j.Levels.Users.length:Int) then(Aj j.Levels.Users q).bind λu=>(TA M u.User).bind λI=>(Nq I u.N).bind λJ=>z J (Az (q+1))else(Nq M (j.Levels.Kinds.length:Int)).bind λL=>aFH j L 0)
def aPK (j:D7):AU->Int->AB AU:=aP (a5F j) Am
def jk (j:D7):AB AU:=(TA [] j.Text).bind λq=>(Nq q j.N).bind λu=>(Nq u j.Target).bind λz=>(YN z j.Thread).bind λI=>(TA I j.Via).bind λJ=>(Opn J j.Allow).bind λL=>(Opn L j.iw).bind λM=>(Nq M (j.Levels.Users.length:Int)).bind λO=>aPK j O 0
def aOf :=Dc func134 rfl jk He Hu λj r h=>AY<|AO h λz q h=>AP 2<|.Z (x:=(Hu z)) (aRw [.d (.lit (.slice none 0 0)),D5 j.Text] (a2c q).view)<|AO h λq u h=>AP 3<|.X (Xb u).view<|AO h λz u h=>AP 3<|.X (Xb u).view<|AO h λq u h=>AP 3<|.X (aO2 u).view<|AO h λz u h=>AP 3<|.X (a2c u).view<|AO h λq u h=>AP 3<|.X (aWi u).view<|AO h λz u h=>AP 3<|.X (aWi u).view<|AY<|AO h λq u h=>AP 3<|.p (BJ F5 j.Levels.Users)<|.X (Xb u).view<|AZ<|AP 2<|.Z (BJ F5 j.Levels.Users)<|Ai<|DW (λz q=>⟨BA 103 [(3,Hu z),(4,.ptr 0 0),(46,Oh j.Levels.Users),(47,AX (j.Levels.Users.length:Int)),(48,AX q)],[.box (BI (F8 j.Levels))],0⟩) _ _ _ _ (Ae [AQ 1]) h<|λz q u L I h=>AY<|AZ<|Bl h (λh=>AZ<|Ai<|AO h λz q h=>BO<|.Z (BF F5 q)<|Bo h λq I M J h=>DU A8 A8 A8 (.a 3<|.ca (a2c I).view<|.a 2<|.ca (Xb J).view<|.a 1<|.nil _)<|xX) λh=>Cj<|AO h λz q h=>AP 3<|.p (BJ Ey j.Levels.Kinds)<|.X (Xb q).view<|AZ<|AP 2<|.Z (BJ Ey j.Levels.Kinds)<|Ai<|DW (λz q=>⟨BA 103 [(3,Hu z),(4,.ptr 0 0),(66,Ot j.Levels.Kinds),(67,AX (j.Levels.Kinds.length:Int)),(68,AX q)],[.box (BI (F8 j.Levels))],0⟩) _ _ _ _ (Ae [AQ 0]) h<|λz q u L I h=>AY<|AZ<|Bl h (λh=>AZ<|Ai<|AO h λz q h=>BO<|.Z (BF Ey q)<|Bo h λq I M J h=>DU A8 A8 A8 (.a 3<|.ca (Xb I).view<|.a 2<|.ca (Xb J).view<|.a 1<|.nil _)<|xX) λh=>Cj<|AZ<|AY<|Ai<|DW (λz q=>⟨BA 103 [(3,Hu z),(94,.d ((NT Ad) ([j.Levels.User,j.Levels.Message,j.Levels.State,j.Levels.gV,j.Levels.kN,j.Levels.oK,j.Levels.iq]:(AA Int)))),(95,AX q)],[],0⟩) _ _ _ _ (Ae []) h<|λz q u L I h=>AY<|AZ<|Bl h (λh=>AZ<|Ai<|AO h λz q h=>BO<|.Z (a5A (k:=.i64) Ad q a1H Em A8)<|AO h λq I h=>CS<|.a 2<|.ca (Xb I).view<|.aN<|DI<|u _ _ _ (Ae []) h) λh=>EX
def zN (j:Aa):AB Int:=(jk j.Content).bind λq=>(zF q).bind λu=>some u
def aQu :=Dc func60 rfl zN DV AX λj r h=>AY<|Bo h λz q I u h=>AP 2<|.ca (aOf q)<|.X (aOO u)<|CW
def Zy (j:Aa):AB AV:=(zN j).bind λq=>some (q==j.Hash)
def wU :=Dc func137 rfl Zy DV Af λj r h=>AY<|AO h λu q h=>El A8 A8 A8 (.a 1<|.ca (aQu q)<|.a 4<|.nil _)<|CW
def Rq (j:GH):AB GH:=(DC 16 [] j).bind λq=>some q
def a5G :=Jv func238 rfl Rq Hy VP λj r h=>BO<|.f (CY 9 1)<|.aU<|AO h λu q h=>AP 1<|.Y (aBm 9 1 (DZ (k:=_) DT q NZ A8 (λ_=>rfl) Bd))<|KH
def cG (j:Cm):AB Cm:=(DC 24 [] j.Users).bind λq=>(DC 16 [] (({ j with Users:=q }).Kinds)).bind λu=>some ({ { j with Users:=q }with Kinds:=u })
def aT0 :=Dc func239 rfl cG IB IB λj r h=>AY<|AO h λu q h=>AP 2<|.f (aBm 146 2 (DZ (k:=_) F5 q wP A8 (λ_=>rfl) Bd))<|.conv _ (IQ (e:=146) (s:=2) 3 (xs:=List.map F5 u) A8)<|.aW<|AO h λq z h=>AP 2<|.f (aBm 221 2 (DZ (k:=_) Ey z aEH A8 (λ_=>rfl) Bd))<|.conv _ (IQ (e:=221) (s:=2) 5 (xs:=List.map Ey q) A8)<|.aW<|AY<|Ep<|by rw[←CP h];exact⟨[IB ({ { j with Users:=u }with Kinds:=q })],[],⟨⟨1,BI (F8 ({ { j with Users:=u }with Kinds:=q })),true,9,A8,A8,A8,Yj,Dl A8,Lc,A8⟩,trivial⟩,A8,A8,A8⟩
def xW (j:AV):AB Int:=(cond j (some 5) (some 0))
def yL (j:Int)(q:AV):AB Int:=(cond q (some 2) (cond (j==6) (some 96) (cond (j==7) (some 1) (cond (j==9) (some 3) (cond (j==11) (some 13) (cond (j==12) (xW (j==12)) (cond (j==13) (xW (j==13)) (xW (j==14)))))))))
def nP (j:Int):AB Int:=(cond (j==2) (some 19) (cond (j==3) (some 128) (cond (j==4) (some 34) (cond (j==5) (yL j (j==5)) (cond (j==8) (yL j (j==8)) (yL j (j==10)))))))
def aMv :=Dc func291 rfl nP AX AX λj r h=>AY<|AZ<|AY<|Ai<|AY<|DX h Bv λh=>AY<|DX h Bv λh=>AY<|DX h Bv λh=>D9 (λs=>∃(z:AV),CO s ⟨BA 26 [(3,AX j),(10,Af z)],[],0⟩/\yL j z=some r) (by rintro s ⟨z,hs,h⟩;exact DJ hs<|DX h Bv λh=>AY<|DX h Bv λh=>AY<|DX h Bv λh=>AY<|DX h Bv λh=>AY<|DX h Bv λh=>D9 (λs=>∃(q:AV),CO s ⟨BA 26 [(22,Af q)],[],0⟩/\xW q=some r) (by rintro s ⟨q,hs,h⟩;exact DJ hs<|Ib)<|aRN)<|aWL
def jD (j:Int)(v2:AV):AB Int:=(cond v2 ((nP j).bind λq=>some q) (cond (j==14) (some 4) (some 0)))
def mV (j:Int):AB Int:=(cond (j==2) (some 18) (cond (j==3) (jD j (j==3)) (cond (j==4) (jD j (j==4)) (cond (j==5) (jD j (j==5)) (jD j (j==6))))))
def aMs :=Dc func240 rfl mV AX AX λj r h=>AY<|AZ<|AY<|Ai<|AY<|DX h Bv λh=>D9 (λs=>∃(v2:AV),CO s ⟨BA 15 [(0,AX j),(3,AX j),(6,Af v2)],[],0⟩/\jD j v2=some r) (by rintro s ⟨v2,hs,h⟩;exact DJ hs<|DX h (λh=>AO h λq u h=>AP 1<|.X (aMv u)<|CW) λh=>AY<|Ib)<|λq=>AY<|Bl h (λh=>q _ ⟨(j==3),Ae [],h⟩) λh=>AY<|Bl h (λh=>q _ ⟨(j==4),Ae [],h⟩) λh=>AY<|Bl h (λh=>q _ ⟨(j==5),Ae [],h⟩) λh=>DI<|q _ ⟨(j==6),Ae [],h⟩
def aJF (j:D7):AB D7:=some j
def aDK (z:Int)(j:D7)(q:D7):AB D7:=(cond ((Ej .and .i64 z 128) != 0) ((cG j.Levels).bind λu=>aJF ({ q with Levels:=u })) (aJF q))
def aGX (q:Int)(j:D7)(z:D7):AB D7:=(cond ((Ej .and .i64 q 64) != 0) ((Rq j.iw).bind λu=>aDK q j ({ z with iw:=u })) (aDK q j z))
def aDx (q:Int)(j:D7)(z:D7):AB D7:=(cond ((Ej .and .i64 q 32) != 0) ((Rq j.Allow).bind λu=>aGX q j ({ z with Allow:=u })) (aGX q j z))
def aEs (q:Int)(j:D7)(u:D7):AB D7:=(cond ((Ej .and .i64 q 16) != 0) (aDx q j ({ u with Via:=j.Via })) (aDx q j u))
def aGo (q:Int)(j:D7)(u:D7):AB D7:=(cond ((Ej .and .i64 q 4) != 0) (aEs q j ({ u with Target:=j.Target })) (aEs q j u))
def jI (q:Int)(j:D7):AB D7:=(cond (q==1) ((Rq j.Allow).bind λz=>(Rq j.iw).bind λI=>(cG j.Levels).bind λJ=>some ({ { { j with Allow:=z }with iw:=I }with Levels:=J })) ((mV q).bind λu=>(cond ((Ej .and .i64 u 2) != 0) (aGo u j ({ Eu with N:=j.N })) (aGo u j Eu))))
def aRl :=DR func149 rfl jI AX He He λaES j r h=>AY<|AZ<|AY<|BG h (λh=>Gt h λq z L x4 x5 x6 h=>El A8 A8 A8 (.a 2<|.ca (a5G z).view<|.a 2<|.ca (a5G x4).view<|.a 2<|.ca (aT0 x6)<|.a 6<|.nil _)<|AY<|Ep<|by rw[←CP h];exact⟨[He ({ { { j with Allow:=q }with iw:=L }with Levels:=x5 })],[],⟨⟨1,BI (Fl ({ { { j with Allow:=q }with iw:=L }with Levels:=x5 })),true,16,A8,A8,A8,UE,Dl A8,Vm,A8⟩,trivial⟩,A8,A8,A8⟩) λh=>AY<|AO h λq z h=>AP 1<|.X (aMs z)<|D9 (λs=>∃(M:D7),CO s ⟨BA 64 [(3,.ptr 0 0),(4,.ptr 1 0),(5,.ptr 2 0),(6,AX q)],[.box (BI (Fl j)),.box (BI (Fl Eu)),.box (BI (Fl M))],0⟩/\aGo q j M=some r) (by rintro s ⟨M,hs,h⟩;exact DJ hs<|D9 (λs=>∃(O:D7),CO s ⟨BA 64 [(3,.ptr 0 0),(4,.ptr 1 0),(5,.ptr 2 0),(6,AX q)],[.box (BI (Fl j)),.box (BI (Fl Eu)),.box (BI (Fl O))],0⟩/\aEs q j O=some r) (by rintro s ⟨O,hs,h⟩;exact DJ hs<|D9 (λs=>∃(U:D7),CO s ⟨BA 64 [(3,.ptr 0 0),(4,.ptr 1 0),(5,.ptr 2 0),(6,AX q)],[.box (BI (Fl j)),.box (BI (Fl Eu)),.box (BI (Fl U))],0⟩/\aDx q j U=some r) (by rintro s ⟨U,hs,h⟩;exact DJ hs<|D9 (λs=>∃(Y:D7),CO s ⟨BA 64 [(3,.ptr 0 0),(4,.ptr 1 0),(5,.ptr 2 0),(6,AX q)],[.box (BI (Fl j)),.box (BI (Fl Eu)),.box (BI (Fl Y))],0⟩/\aGX q j Y=some r) (by rintro s ⟨Y,hs,h⟩;exact DJ hs<|D9 (λs=>∃(I:D7),CO s ⟨BA 64 [(3,.ptr 0 0),(4,.ptr 1 0),(5,.ptr 2 0),(6,AX q)],[.box (BI (Fl j)),.box (BI (Fl Eu)),.box (BI (Fl I))],0⟩/\aDK q j I=some r) (by rintro s ⟨I,hs,h⟩;exact DJ hs<|D9 (λs=>∃(J:D7),CO s ⟨BA 64 [(4,.ptr 0 0),(5,.ptr 1 0)],[.box (BI (Fl Eu)),.box (BI (Fl J))],0⟩/\aJF J=some r) (by rintro s ⟨J,hs,h⟩;exact DJ hs<|AY<|Ep<|by rw[←CP h];exact⟨[He J],[],⟨⟨0,BI (Fl J),true,16,A8,A8,A8,UE,Dl A8,Vm,A8⟩,trivial⟩,A8,A8,A8⟩)<|λZ=>AP 1<|.Z (Qr (k:=.i64) (u:=q) (v:=128))<|BG h (λh=>AO h λq z h=>CS<|.a 2<|.ca (aT0 z)<|.aN<|Z _ ⟨({ I with Levels:=q }),Ae [AQ 1,AQ 2],h⟩) λh=>Z _ ⟨I,Ae [AQ 1,AQ 2],h⟩)<|λz=>AP 1<|.Z (Qr (k:=.i64) (u:=q) (v:=64))<|BG h (λh=>AO h λq L h=>CS<|.a 2<|.ca (a5G L).view<|.aN<|z _ ⟨({ Y with iw:=q }),Ae [AQ 0,AQ 1,AQ 2],h⟩) λh=>z _ ⟨Y,Ae [AQ 0,AQ 1,AQ 2],h⟩)<|λz=>AP 1<|.Z (Qr (k:=.i64) (u:=q) (v:=32))<|BG h (λh=>AO h λq L h=>CS<|.a 2<|.ca (a5G L).view<|.aN<|z _ ⟨({ U with Allow:=q }),Ae [AQ 0,AQ 1,AQ 2],h⟩) λh=>z _ ⟨U,Ae [AQ 0,AQ 1,AQ 2],h⟩)<|λz=>AP 1<|.Z (Qr (k:=.i64) (u:=q) (v:=16))<|BG h (λh=>DI<|z _ ⟨({ O with Via:=j.Via }),Ae [AQ 0,AQ 1,AQ 2],h⟩) λh=>z _ ⟨O,Ae [AQ 0,AQ 1,AQ 2],h⟩)<|λz=>AP 1<|.Z (Qr (k:=.i64) (u:=q) (v:=4))<|BG h (λh=>DI<|z _ ⟨({ M with Target:=j.Target }),Ae [AQ 0,AQ 1,AQ 2],h⟩) λh=>z _ ⟨M,Ae [AQ 0,AQ 1,AQ 2],h⟩)<|λz=>AP 1<|.Z (Qr (k:=.i64) (u:=q) (v:=2))<|BG h (λh=>DI<|z _ ⟨({ Eu with N:=j.N }),Ae [AQ 0,AQ 1,AQ 2],h⟩) λh=>z _ ⟨Eu,Ae [AQ 0,AQ 1,AQ 2],h⟩
def wu (j:Aa):AB Aa:=(jI j.Kind j.Content).bind λq=>some ({ j with Content:=q })
def aN3 :=Dc func131 rfl wu DV DV λj r h=>AY<|AO h λq u h=>AP 4<|.ca (aRl u)<|aOu
def fJ (j:Int):AB AV:=(cond (j>=1) (some (decide (j<=10))) (some false)).bind λq=>some q
def jG :=Dc func231 rfl fJ AX Af λj r h=>AY<|AP 2<|AO h λq u h=>.mg 5 3 (Af q) (.bi u)<|.aW<|CW
def dN (j:BL):AB Int:=(yJ j aC3).bind λq=>some q
def a5l :=Dc func289 rfl dN D5 AX λj r h=>AY<|AO h λu q h=>AP 1<|.X (aX1 q)<|CW
def aFU (j:BL)(k2:(Int->AB AV)):Int->AB AV:=λq=>(bif q<(j.size:Int) then(Hz j q).bind λu=>(cond (u<33) (some true) ((Hz j q).bind λz=>some (decide (z>126)))).bind λI=>(cond I (some false) (k2 (Az (q+1))))else(cond ((j.size:Int)>=1) (some (decide ((j.size:Int)<=32))) (some false)).bind λJ=>some J)
def aNP (j:BL):Int->AB AV:=bf (aFU j) Am
def a3A (j:BL):AB AV:=aNP j 0
def aZr :=Dc func290 rfl a3A D5 Af λj r h=>AY<|AZ<|AY<|Ai<|Dk (λq=>⟨BA 28 [(0,D5 j),(5,AX (j.size:Int)),(6,AX q)],[],0⟩) _ _ _ (Ae []) h<|λq k2 u z h=>AY<|AZ<|Bl h (λh=>AZ<|Ai<|AY<|AO h λq z h=>AP 2<|.p (KO (k:=.i64) z Gm)<|.a 1<|AO h λq z h=>.mg 13 5 (Af q) (.bi z (k2:=λh=>AO h λq u h=>.a 2<|.Z (KO (k:=.i64) u Gm)<|Ce))<|.aU<|BG h Bv λh=>DI<|u _ _ (Ae []) h) λh=>Cj<|AP 3<|AO h λq u h=>.mg 23 4 (Af q) (.bi u)<|.aW<|CW
def a6U (j:Aa):AB AV:=(aG j.Room).bind λq=>(cond (q != 0) (some true) ((dN j.bQ).bind λu=>some (u != 0))).bind λz=>(cond z (some false) (cond (j.Kind==2) ((dN j.Key).bind λI=>some (I==0)) (cond (j.Kind==9) ((a3A j.Key).bind λJ=>some J) (some true))))
def ak7 :=Dc func232 rfl a6U DV Af λu r h=>AY<|AZ<|AO h λq j h=>AP 2<|.ca (aB1 j)<|.a 1<|AO h λq j h=>.mg 7 5 (Af q) (.bi j (k2:=λh=>AO h λq j h=>.a 2<|.X (a5l j)<|Ce))<|.aU<|BG h Bv λh=>AZ<|AY<|Ai<|AY<|DX h (λh=>AO h λq j h=>AP 2<|.X (a5l j)<|CW) λh=>AY<|BG h (λh=>AO h λq j h=>AP 2<|.X (aZr j)<|CW) λh=>AY<|CW
def aLK (j:AU)(k2:(Int->AB AV)):Int->AB AV:=λq=>(cond (q<(j.length:Int)) ((Aj j q).bind λu=>(cond (u<0) (some true) ((cond (q>0) ((Aj j (Az (q-1))).bind λz=>some (decide (z>=u))) (some false)).bind λI=>some I)).bind λJ=>(cond J (some false) (k2 (Az (q+1))))) (some true))
def aMJ (j:AU):Int->AB AV:=bf (aLK j) Am
def xZ (j:AU):AB AV:=aMJ j 0
def aWX :=Dc func233 rfl xZ Bf Af λj r h=>AY<|AZ<|AP 1<|.Z (BJ Ad j)<|Ai<|Dk (λq=>⟨BA 28 [(0,Bf j),(5,Bf j),(6,AX (j.length:Int)),(7,AX q)],[],0⟩) _ _ _ (Ae []) h<|λq k2 u z h=>AY<|AZ<|Bl h (λh=>AZ<|Ai<|AO h λq z h=>AP 1<|.Z (BF Ad z)<|AP 2<|AO h λq z h=>.mg 14 12 (Af q) (.bi z (k2:=λh=>.a 2<|AO h λq u h=>.mg 17 8 (Af q) (.bi u (λh=>AO h λq u h=>.a 3<|.Z (BF Ad u)<|Ce))<|.aW<|Ce))<|.aU<|BG h Bv λh=>DI<|u _ _ (Ae []) h) λh=>EX
def rM (j:Int):AB AV:=(cond (j>=1) (some (decide (j<=14))) (some false)).bind λq=>some q
def aS5 :=Dc func292 rfl rM AX Af λj r h=>AY<|AP 2<|AO h λq u h=>.mg 5 3 (Af q) (.bi u)<|.aW<|CW
def aBz (j:Cm):AB AV:=(cond ((j.Users.length:Int)==0) (some ((j.Kinds.length:Int)==0)) (some false)).bind λI=>(cond I (some (j.User==0)) (some false)).bind λJ=>(cond J (some (j.Message==0)) (some false)).bind λL=>(cond L (some (j.State==0)) (some false)).bind λM=>(cond M (some (j.gV==0)) (some false)).bind λO=>(cond O (some (j.kN==0)) (some false)).bind λq=>(cond q (some (j.oK==0)) (some false)).bind λu=>(cond u (some (j.iq==0)) (some false)).bind λz=>some z
def aZG :=Dc func354 rfl aBz IB Af λu r h=>AY<|AP 2<|.p (BJ F5 u.Users)<|.a 1<|AO h λj q h=>.mg 7 5 (Af j) (.bi q (λh=>.a 2<|.Z (BJ Ey u.Kinds)<|Ce))<|.a 1<|AO h λj q h=>.mg 14 3 (Af j) (Cc q)<|.a 1<|AO h λj q h=>.mg 19 3 (Af j) (Cc q)<|.a 1<|AO h λj q h=>.mg 24 3 (Af j) (Cc q)<|.a 1<|AO h λj q h=>.mg 29 3 (Af j) (Cc q)<|.a 1<|AO h λj q h=>.mg 34 3 (Af j) (Cc q)<|.a 1<|AO h λj q h=>.mg 39 3 (Af j) (Cc q)<|.a 1<|AO h λj q h=>.mg 44 3 (Af j) (Cc q)<|.aW<|CW
def a0r (j:Int):AB Int:=some j
def a4B (j:D7)(u:Int):AB Int:=(aBz j.Levels).bind λq=>(cond (!q) (a0r (Ej .or .i64 u 128)) (a0r u))
def a7i (j:D7)(q:Int):AB Int:=(cond ((j.iw.length:Int)>0) (a4B j (Ej .or .i64 q 64)) (a4B j q))
def a3d (j:D7)(q:Int):AB Int:=(cond ((j.Allow.length:Int)>0) (a7i j (Ej .or .i64 q 32)) (a7i j q))
def a6t (j:D7)(q:Int):AB Int:=(cond (!(j.Via.toList==Ci.toList)) (a3d j (Ej .or .i64 q 16)) (a3d j q))
def a5q (j:D7)(q:Int):AB Int:=(cond j.Thread (a6t j (Ej .or .i64 q 8)) (a6t j q))
def a4g (j:D7)(v2:Int):AB Int:=(cond (j.Target != 0) (a5q j (Ej .or .i64 v2 4)) (a5q j v2))
def a6l (j:D7)(q:Int):AB Int:=(cond (j.N != 0) (a4g j (Ej .or .i64 q 2)) (a4g j q))
def SPr (j:D7):AB Int:=(cond (!(j.Text.toList==Ci.toList)) (a6l j (Ej .or .i64 0 1)) (a6l j 0))
def aWC :=Dc func293 rfl SPr He AX λj r h=>AY<|AY<|D9 (λs=>∃(z:Int),CO s ⟨BA 47 [(1,.ptr 0 0),(3,AX z)],[.box (BI (Fl j))],0⟩/\a6l j z=some r) (by rintro s ⟨z,hs,h⟩;exact DJ hs<|D9 (λs=>∃(v2:Int),CO s ⟨BA 47 [(1,.ptr 0 0),(3,AX v2)],[.box (BI (Fl j))],0⟩/\a4g j v2=some r) (by rintro s ⟨v2,hs,h⟩;exact DJ hs<|D9 (λs=>∃(I:Int),CO s ⟨BA 47 [(1,.ptr 0 0),(3,AX I)],[.box (BI (Fl j))],0⟩/\a5q j I=some r) (by rintro s ⟨I,hs,h⟩;exact DJ hs<|D9 (λs=>∃(J:Int),CO s ⟨BA 47 [(1,.ptr 0 0),(3,AX J)],[.box (BI (Fl j))],0⟩/\a6t j J=some r) (by rintro s ⟨J,hs,h⟩;exact DJ hs<|D9 (λs=>∃(L:Int),CO s ⟨BA 47 [(1,.ptr 0 0),(3,AX L)],[.box (BI (Fl j))],0⟩/\a3d j L=some r) (by rintro s ⟨L,hs,h⟩;exact DJ hs<|D9 (λs=>∃(M:Int),CO s ⟨BA 47 [(1,.ptr 0 0),(3,AX M)],[.box (BI (Fl j))],0⟩/\a7i j M=some r) (by rintro s ⟨M,hs,h⟩;exact DJ hs<|D9 (λs=>∃(O:Int),CO s ⟨BA 47 [(1,.ptr 0 0),(3,AX O)],[.box (BI (Fl j))],0⟩/\a4B j O=some r) (by rintro s ⟨O,hs,h⟩;exact DJ hs<|D9 (λs=>∃(U:Int),CO s ⟨BA 47 [(3,AX U)],[],0⟩/\a0r U=some r) (by rintro s ⟨U,hs,h⟩;exact DJ hs<|AY<|CW)<|λq=>AO h λZ Y h=>AP 2<|.X (aZG Y)<|BG h (λh=>CS<|.a 1<|.p (WC (k:=.i64) (u:=O) (v:=128))<|.aN<|q _ ⟨(Ej .or .i64 O 128),Ae [],h⟩) λh=>q _ ⟨O,Ae [],h⟩)<|λq=>AP 2<|.Z (BJ DT j.iw)<|BG h (λh=>CS<|.a 1<|.p (WC (k:=.i64) (u:=M) (v:=64))<|.aN<|q _ ⟨(Ej .or .i64 M 64),Ae [AQ 0],h⟩) λh=>q _ ⟨M,Ae [AQ 0],h⟩)<|λq=>AP 2<|.Z (BJ DT j.Allow)<|BG h (λh=>CS<|.a 1<|.p (WC (k:=.i64) (u:=L) (v:=32))<|.aN<|q _ ⟨(Ej .or .i64 L 32),Ae [AQ 0],h⟩) λh=>q _ ⟨L,Ae [AQ 0],h⟩)<|λq=>AY<|BG h (λh=>CS<|.a 1<|.p (WC (k:=.i64) (u:=J) (v:=16))<|.aN<|q _ ⟨(Ej .or .i64 J 16),Ae [AQ 0],h⟩) λh=>q _ ⟨J,Ae [AQ 0],h⟩)<|λq=>AY<|BG h (λh=>CS<|.a 1<|.p (WC (k:=.i64) (u:=I) (v:=8))<|.aN<|q _ ⟨(Ej .or .i64 I 8),Ae [AQ 0],h⟩) λh=>q _ ⟨I,Ae [AQ 0],h⟩)<|λq=>AY<|BG h (λh=>CS<|.a 1<|.p (WC (k:=.i64) (u:=v2) (v:=4))<|.aN<|q _ ⟨(Ej .or .i64 v2 4),Ae [AQ 0],h⟩) λh=>q _ ⟨v2,Ae [AQ 0],h⟩)<|λq=>AY<|BG h (λh=>CS<|.a 1<|.p (WC (k:=.i64) (u:=z) (v:=2))<|.aN<|q _ ⟨(Ej .or .i64 z 2),Ae [AQ 0],h⟩) λh=>q _ ⟨z,Ae [AQ 0],h⟩)<|λq=>AY<|BG h (λh=>CS<|.a 1<|.p (WC (k:=.i64) (u:=0) (v:=1))<|.aN<|q _ ⟨(Ej .or .i64 0 1),Ae [AQ 0],h⟩) λh=>q _ ⟨0,Ae [AQ 0],h⟩
def aFj (j:BL)(u:(Int->AB Int)):Int->AB Int:=λq=>(cond (q<(j.size:Int)) ((Hz j q).bind λz=>(cond (z<33) (some true) ((Hz j q).bind λI=>some (decide (I>126)))).bind λJ=>(cond J (some 3) (u (Az (q+1))))) (some 0))
def aG0 (j:BL):Int->AB Int:=bf (aFj j) Am
def a0N (j:BL):AB Int:=(cond (j.toList==Ci.toList) (some 9) (cond ((j.size:Int)>64) (some 7) (aG0 j 0)))
def aXF :=Dc func355 rfl a0N D5 AX λj r h=>AY<|AZ<|Ai<|AY<|DX h Bv λh=>AY<|BG h Bv λh=>AZ<|AY<|Ai<|Dk (λq=>⟨BA 27 [(0,D5 j),(12,AX (j.size:Int)),(13,AX q)],[],0⟩) _ _ _ (Ae []) h<|λq u z I h=>AY<|AZ<|Bl h (λh=>AZ<|Ai<|AY<|AO h λq u h=>AP 2<|.p (KO (k:=.i64) u Gm)<|.a 1<|AO h λq u h=>.mg 20 5 (Af q) (.bi u (k2:=λh=>AO h λq u h=>.a 2<|.Z (KO (k:=.i64) u Gm)<|Ce))<|aHY) λh=>EX
def aLo (j:GH)(k3:(Int->AB Int)):Int->AB Int:=λv2=>(cond (v2<(j.length:Int)) ((Aj j v2).bind λu=>(a0N u).bind λq=>(cond (q != 0) (some q) (k3 (Az (v2+1))))) (some 0))
def aMm (j:GH):Int->AB Int:=bf (aLo j) Am
def Wv (j:GH):AB Int:=(cond ((j.length:Int)>100) (some 7) (aMm j 0))
def aMo :=Dc func300 rfl Wv Hy AX λj r h=>AY<|AZ<|AP 1<|.Z (BJ DT j)<|BG h Bv λh=>AZ<|AP 1<|.Z (BJ DT j)<|Ai<|Dk (λq=>⟨BA 21 [(9,Hy j),(10,AX (j.length:Int)),(11,AX q)],[],0⟩) _ _ _ (Ae []) h<|λq u I z h=>AY<|AZ<|Bl h (λh=>AZ<|Ai<|AO h λq u h=>BO<|.Z (BF DT u)<|AO h λu z h=>AP 1<|.X (aXF z)<|AY<|BG h Bv λh=>RY) λh=>EX
def kP (j:Int):AB AV:=(cond (j<(-1000)) (some true) (some (decide (j>1000)))).bind λq=>some q
def aQh :=Dc func358 rfl kP AX Af λj r h=>AY<|AP 2<|AO h λq u h=>.mg 5 3 (Af q) (.bi u)<|.aW<|CW
def a6e (q:H6)(k3:(Int->AB Int))(v2:Int)(u:AV):AB Int:=(cond u (some 8) ((kP q.N).bind λj=>(cond j (some 2) (k3 (Az (v2+1))))))
abbrev NH:=AA H6
def aIr (j:NH)(k3:(Int->AB Int)):Int->AB Int:=λv2=>(cond (v2<(j.length:Int)) ((Aj j v2).bind λq=>(dN q.User).bind λz=>(cond (z != 0) (some 3) (cond (v2>0) ((Aj j (Az (v2-1))).bind λu=>a6e q k3 v2 (Op.bytesLess (q.User.toList) (u.User.toList)||q.User.toList==u.User.toList)) (a6e q k3 v2 false)))) (some 0))
def aS8 (j:NH):Int->AB Int:=bf (aIr j) Am
def a6z (j:NH):AB Int:=(cond ((j.length:Int)>100) (some 7) (aS8 j 0))
def aXU :=Dc func356 rfl a6z Oh AX λj r h=>AY<|AZ<|AP 1<|.Z (BJ F5 j)<|BG h Bv λh=>AZ<|AP 1<|.Z (BJ F5 j)<|Ai<|Dk (λq=>⟨BA 39 [(0,Oh j),(8,Oh j),(9,AX (j.length:Int)),(10,AX q)],[],0⟩) _ _ _ (Ae []) h<|λq z J u h=>AY<|AZ<|Bl h (λh=>AZ<|Ai<|AO h λq I h=>AP 1<|.Z (BF F5 I)<|Ai<|AO h λI M h=>AP 2<|.X (a5l M)<|DX h Bv λh=>D9 (λs=>∃(L:AV),CO s ⟨BA 39 [(0,Oh j),(4,.ptr 0 0),(8,Oh j),(9,AX (j.length:Int)),(10,AX u),(20,Af L)],[.box (BI (F5 q))],0⟩/\a6e q z u L=some r) aWz<|λz=>EI h (λJ h=>AO h λu I h=>DU A8 A8 A8 (.a 2<|.c (Au some J)<|.a 5<|.p (BF F5 I)<|.a 5<|.nil _)<|z _ ⟨(Op.bytesLess (q.User.toList) (u.User.toList)||q.User.toList==u.User.toList),Ae [AQ 0],h⟩) λq h=>DU A8 A8 A8 (.a 2<|.c (Au some q)<|.a 11<|.nil _)<|z _ ⟨false,Ae [AQ 0],h⟩) λh=>EX
def aAN (q:J5)(k3:(Int->AB Int))(v2:Int)(u:AV):AB Int:=(cond u (some 8) ((kP q.N).bind λj=>(cond j (some 2) (k3 (Az (v2+1))))))
abbrev NW:=AA J5
def aGG (j:NW)(k3:(Int->AB Int)):Int->AB Int:=λv2=>(cond (v2<(j.length:Int)) ((Aj j v2).bind λq=>(rM q.Kind).bind λz=>(cond (!z) (some 1) (cond (v2>0) ((Aj j (Az (v2-1))).bind λu=>aAN q k3 v2 (decide (q.Kind<=u.Kind))) (aAN q k3 v2 false)))) (some 0))
def aUN (j:NW):Int->AB Int:=bf (aGG j) Am
def aAg (j:NW):AB Int:=(cond ((j.length:Int)>100) (some 7) (aUN j 0))
def aXk :=Dc func357 rfl aAg Ot AX λj r h=>AY<|AZ<|AP 1<|.Z (BJ Ey j)<|BG h Bv λh=>AZ<|AP 1<|.Z (BJ Ey j)<|Ai<|Dk (λq=>⟨BA 39 [(0,Ot j),(8,Ot j),(9,AX (j.length:Int)),(10,AX q)],[],0⟩) _ _ _ (Ae []) h<|λq z J u h=>AY<|AZ<|Bl h (λh=>AZ<|Ai<|AO h λq I h=>AP 1<|.Z (BF Ey I)<|Ai<|AO h λI M h=>AP 2<|.X (aS5 M)<|DX h Bv λh=>D9 (λs=>∃(L:AV),CO s ⟨BA 39 [(0,Ot j),(4,.ptr 0 0),(8,Ot j),(9,AX (j.length:Int)),(10,AX u),(20,Af L)],[.box (BI (Ey q))],0⟩/\aAN q z u L=some r) aWz<|λz=>EI h (λJ h=>AO h λu I h=>DU A8 A8 A8 (.a 2<|.c (Au some J)<|.a 5<|.p (BF Ey I)<|.a 5<|.nil _)<|z _ ⟨(decide (q.Kind<=u.Kind)),Ae [AQ 0],h⟩) λq h=>DU A8 A8 A8 (.a 2<|.c (Au some q)<|.a 11<|.nil _)<|z _ ⟨false,Ae [AQ 0],h⟩) λh=>EX
def aU5 (j:Cm)(u:(Int->AB Int)):Int->AB Int:=λq=>(cond (q<7) ((Aj ([j.User,j.Message,j.State,j.gV,j.kN,j.oK,j.iq]:AU) q).bind λz=>(kP z).bind λI=>(cond I (some 2) (u (Az (q+1))))) (some 0))
def aFD (j:Cm):Int->AB Int:=bf (aU5 j) Am
def gB (j:Cm):AB Int:=(a6z j.Users).bind λq=>(cond (q != 0) (some q) ((aAg j.Kinds).bind λu=>(cond (u != 0) (some u) (aFD j 0))))
def amX :=Dc func301 rfl gB IB AX λj r h=>AY<|AZ<|AO h λu q h=>AP 2<|.X (aXU q)<|AY<|BG h Bv λh=>AZ<|AO h λu q h=>AP 2<|.X (aXk q)<|AY<|BG h Bv λh=>AZ<|AY<|Ai<|Dk (λu=>⟨BA 40 [(33,.d ((NT Ad) ([j.User,j.Message,j.State,j.gV,j.kN,j.oK,j.iq]:(AA Int)))),(34,AX u)],[],0⟩) _ _ _ (Ae []) h<|λu q I z h=>AY<|AZ<|Bl h (λh=>AZ<|Ai<|AO h λu q h=>BO<|.Z (a5A (k:=.i64) Ad q a1H Em A8)<|AO h λq z h=>AP 1<|.ca (aQh z)<|a6P) λh=>EX
def a1r (j:AV):AB Int:=(cond j (some 7) (some 0))
def Qh (q:Int)(j:D7):AB Int:=(cond (q==9) (some (!(j.Text.toList==Ci.toList))) (some false)).bind λz=>(cond z ((a0N j.Text).bind λI=>some I) ((cond (q==12) (some (j.Text.toList==Ci.toList)) (some false)).bind λJ=>(cond J (some 9) ((cond (q==12) (some (decide ((j.Text.size:Int)>32))) (some false)).bind λu=>(cond u (a1r u) (a1r (decide ((j.Text.size:Int)>400))))))))
def ag5 :=DR func294 rfl Qh AX He AX λI u r h=>AY<|AZ<|Ai<|AP 2<|AO h λq j h=>.mg 8 4 (Af q) (.bi j)<|.aW<|DX h (λh=>AO h λq j h=>AP 2<|.X (aXF j)<|CW) λh=>AP 2<|AO h λq j h=>.mg 19 4 (Af q) (.bi j)<|.aW<|DX h Bv λh=>D9 (λs=>∃(z:AV),CO s ⟨BA 37 [(24,Af z)],[],0⟩/\a1r z=some r) aP4<|λq=>AP 2<|AO h λj J h=>.mg 27 5 (Af j) (.bi J)<|.aW<|Bl h (λh=>q _ ⟨j,Ae [],h⟩) λh=>DI<|q _ ⟨(decide ((u.Text.size:Int)>400)),Ae [],h⟩
def sU (j:D7)(q:Int)(v2:Int):AB Int:=(cond (j.N<q) (some true) (some (decide (j.N>v2)))).bind λu=>(cond u (some 2) (some 0))
def Ol (q:Int)(j:D7):AB Int:=(cond (q==2) (sU j 0 4) (cond (q==8) (sU j 0 1000000000) (cond (q==10) (sU j 1 10000) (cond (q==9) ((cond (j.N==1) (some true) (some (j.N==2))).bind λu=>(cond u (some true) (some (j.N==6))).bind λz=>(cond z (some 0) (some 2))) (sU j 0 3)))))
def aYK :=DR func295 rfl Ol AX He AX λI q r h=>AY<|AY<|D9 (λs=>∃(z:Int) (v2:Int),CO s ⟨BA 39 [(3,.ptr 0 0),(5,AX z),(6,AX v2)],[.box (BI (Fl q))],0⟩/\sU q z v2=some r) (by rintro s ⟨z,v2,hs,h⟩;exact DJ hs<|AZ<|AP 4<|AO h λj u h=>.mg 33 5 (Af j) (.bi u)<|.aU<|Ib)<|λj=>AY<|Ai<|AY<|DX h (λh=>DI<|j _ ⟨0,4,Ae [AQ 0],h⟩) λh=>AY<|DX h (λh=>DI<|j _ ⟨0,1000000000,Ae [AQ 0],h⟩) λh=>AY<|DX h (λh=>DI<|j _ ⟨1,10000,Ae [AQ 0],h⟩) λh=>AY<|BG h (λh=>AZ<|AY<|AP 2<|AO h λj u h=>.mg 21 3 (Af j) (.bi u)<|.a 1<|AO h λj u h=>.mg 26 2 (Af j) (Cc u)<|.aU<|Ib) λh=>j _ ⟨0,3,Ae [AQ 0],h⟩
def TG (q:Int)(j:D7):AB Int:=(cond (j.Target<0) (some true) ((cond (j.Target==0) (some (q != 11)) (some false)).bind λu=>some u)).bind λz=>(cond z (some 2) (some 0))
def ajB :=DR func296 rfl TG AX He AX λu z r h=>AY<|AZ<|AP 3<|AO h λj q h=>.mg 8 8 (Af j) (.bi q (k2:=λh=>.a 3<|AO h λj q h=>.mg 12 3 (Af j) (.bi q)<|.aW<|Ce))<|.aU<|Ib
def gX (q:Int)(j:D7):AB Int:=(cond j.Thread (some (j.Target==0)) (some false)).bind λu=>(cond u (some 1) (some 0))
def aj3 :=DR func297 rfl gX AX He AX λj q r h=>AY<|AZ<|AP 2<|AO h λu z h=>.mg 7 4 (Af u) (.bi z)<|.aU<|Ib
def fK (q:Int)(j:D7):AB Int:=(cond (j.Via.toList==Ci.toList) (some 0) (cond (j.N != 3) (some 1) ((dN j.Via).bind λu=>some u)))
def an3 :=DR func298 rfl fK AX He AX λj q r h=>AY<|AZ<|Ai<|AY<|DX h Bv λh=>AY<|BG h Bv λh=>AO h λz u h=>AP 2<|.X (a5l u)<|CW
end
section
set_option maxRecDepth 20000
set_option maxHeartbeats 4000000
def aDU (j:D7)(L:(Int->AB Int)):Int->AB Int:=λu=>(cond (u<(j.Allow.length:Int)) ((Aj j.Allow u).bind λq=>(aG q).bind λI=>(cond (I != 0) (some 3) ((cond (u>0) ((Aj j.Allow (Az (u-1))).bind λz=>some (Op.bytesLess (q.toList) (z.toList)||q.toList==z.toList)) (some false)).bind λJ=>(cond J (some 8) (L (Az (u+1))))))) (some 0))
def aNM (j:D7):Int->AB Int:=bf (aDU j) Am
def Xa (q:Int)(j:D7):AB Int:=(cond (q==6) ((Wv j.Allow).bind λu=>some u) ((cond ((j.Allow.length:Int)>0) (some (j.N != 3)) (some false)).bind λz=>(cond z (some 1) (cond ((j.Allow.length:Int)>100) (some 7) (aNM j 0)))))
def aYh :=DR func299 rfl Xa AX He AX λz j r h=>AY<|AZ<|Ai<|AY<|DX h (λh=>AO h λu q h=>AP 2<|.X (aMo q)<|CW) λh=>AP 2<|.p (BJ DT j.Allow)<|.a 1<|AO h λu q h=>.mg 18 4 (Af u) (.bi q)<|.aW<|DX h Bv λh=>AP 2<|.Z (BJ DT j.Allow)<|BG h Bv λh=>AZ<|AP 2<|.Z (BJ DT j.Allow)<|Ai<|Dk (λu=>⟨BA 52 [(3,.ptr 0 0),(29,Hy j.Allow),(30,AX (j.Allow.length:Int)),(31,AX u)],[.box (BI (Fl j))],0⟩) _ _ _ (Ae [AQ 0]) h<|λu q J I h=>AY<|AZ<|Bl h (λh=>AZ<|Ai<|AO h λu q h=>AP 1<|.Z (BF DT q)<|AZ<|AO h λq I h=>AP 1<|.X (aB1 I)<|BG h Bv λh=>AP 2<|AO h λu q h=>.mg 41 9 (Af u) (.bi q (λh=>AO h λu q h=>.a 5<|.Z (BF DT q)<|Ce))<|aLG) λh=>EX
def aAe (n:Nat)(a0:Int)(j:D7):AB Int:=bif n==294 then Qh a0 j else bif n==295 then Ol a0 j else bif n==296 then TG a0 j else bif n==297 then gX a0 j else bif n==298 then fK a0 j else bif n==299 then Xa a0 j else none
def ail {n a0 q r}(h:aAe n a0 q=some r):Ve Ak Ad Fl Ad (aUs n) (aAe n):=by
 by_cases u:n=294
 ·subst u;exact⟨294,[],rfl,aeJ,λa0 q c j=>ag5 j⟩
 by_cases h1:n=295
 ·subst h1;exact⟨295,[],rfl,aXq,λa0 q c j=>aYK j⟩
 by_cases h2:n=296
 ·subst h2;exact⟨296,[],rfl,ahJ,λa0 q c j=>ajB j⟩
 by_cases h3:n=297
 ·subst h3;exact⟨297,[],rfl,aXV,λa0 q c j=>aj3 j⟩
 by_cases z:n=298
 ·subst z;exact⟨298,[],rfl,abB,λa0 q c j=>an3 j⟩
 by_cases I:n=299
 ·subst I;exact⟨299,[],rfl,ai3,λa0 q c j=>aYh j⟩
 rw[aAe,qM u,qM h1,qM h2,qM h3,qM z,qM I]at h;have h:(none:AB Int)=some r:=h;cases h
def eY :(AA OT):=[(⟨1,294⟩:OT),(⟨2,295⟩:OT),(⟨4,296⟩:OT),(⟨8,297⟩:OT),(⟨16,298⟩:OT),(⟨32,299⟩:OT)]
def aIe (j:(Int->D7->AB Int))(q:Int)(u:D7):AB Int:=j (Az (q+1)) u
def Zl (L:Int)(u:Int)(z:(Int->D7->AB Int)):Int->D7->AB Int:=λq j=>(cond (q<(eY.length:Int)) ((Aj eY q).bind λI=>(cond ((Ej .and .i64 L I.aEd)==0) (aIe z q j) ((aAe I.aCz u j).bind λJ=>(cond (J != 0) (some J) (aIe z q j))))) (cond ((Ej .and .i64 L 64) != 0) ((Wv j.iw).bind λM=>some M) (cond ((Ej .and .i64 L 128) != 0) ((gB j.Levels).bind λO=>some O) (some 0))))
def MX (q:Int)(j:Int):Int->D7->AB Int:=aP (Zl q j) Am
def Ld (j:Int)(q:D7):AB Int:=(nP j).bind λz=>(rM j).bind λI=>(cond (!I) (some true) ((SPr q).bind λJ=>some ((Ej .andNot .i64 J z) != 0))).bind λL=>(cond L (some 1) ((SPr q).bind λM=>(cond (M==0) ((mV j).bind λu=>some (u==0)) (some false)).bind λO=>(cond O (some 0) (MX z j 0 q))))
def akz :=DR func234 rfl Ld AX He AX λI L r h=>AY<|AO h λz j h=>AP 1<|.X (aMv j)<|AZ<|AO h λj q h=>AP 1<|.ca (aS5 q)<|.a 1<|AO h λj q h=>.mg 15 6 (Af j) (.bi q (k2:=λh=>AO h λj q h=>.a 1<|.ca (aWC q)<|.a 1<|.Z (al6 (k:=.i64) (u:=j) (v:=z))<|Ce))<|.aU<|BG h Bv λh=>AZ<|AO h λj q h=>AP 1<|.ca (aWC q)<|.a 1<|AO h λj q h=>.mg 25 4 (Af j) (.bi q (λh=>AO h λz j h=>.a 1<|.X (aMs j)<|Ce))<|.aU<|BG h Bv λh=>AP 6<|.Z (Dx ahe aIz [Uz (⟨1,294⟩:OT),Uz (⟨2,295⟩:OT),Uz (⟨4,296⟩:OT),Uz (⟨8,297⟩:OT),Uz (⟨16,298⟩:OT),Uz (⟨32,299⟩:OT)])<|AZ<|AP 1<|.Z (BJ Uz eY)<|Ai<|DW (λj q=>⟨BA 69 [(0,AX I),(3,.ptr 0 0),(5,AX z),(37,.d ((BQ Uz) eY)),(38,AX (eY.length:Int)),(39,AX j)],[.box (BI (Fl q))],0⟩) _ _ _ _ (Ae [AQ 0]) h<|λj q J M O h=>AY<|AZ<|Bl h (λh=>D9 (λs=>CO s ⟨BA 69 [(0,AX I),(3,.ptr 0 0),(5,AX z),(37,.d ((BQ Uz) eY)),(38,AX (eY.length:Int)),(39,AX M)],[.box (BI (Fl O))],0⟩/\aIe q M O=some r) (by rintro s ⟨hs,h⟩;exact DJ hs<|kn)<|λj=>Ai<|AO h λq J h=>BO<|.Z (BF Uz J)<|AZ<|AP 3<|.Z (Qr (k:=.i64) (u:=z) (v:=q.aEd))<|BG h (λh=>Cj<|j _ ⟨Ae [AQ 0],h⟩) λh=>AO h λz J h=>AP 4<|.Z (YL (ail J) J)<|AY<|BG h Bv λh=>j _ ⟨Ae [AQ 0],h⟩) λh=>Cj<|AZ<|AP 1<|.Z (Qr (k:=.i64) (u:=z) (v:=64))<|BG h (λh=>AO h λz j h=>AP 2<|.X (aMo j)<|CW) λh=>AZ<|AP 1<|.Z (Qr (k:=.i64) (u:=z) (v:=128))<|BG h (λh=>AO h λz j h=>AP 2<|.X (amX j)<|CW) λh=>AY<|CW
def Yx (j:Aa)(U:AV):AB Int:=(cond U (some 1) ((a6U j).bind λY=>(cond (!Y) (some 3) ((cond (j.Time<0) (some true) (some (decide (j.Time>1000000000)))).bind λZ=>(cond Z (some true) (some (decide (j.Depth<1)))).bind λx9=>(cond x9 (some true) (some (decide (j.Depth>100000)))).bind λq=>(cond q (some 2) ((cond ((j.bG.length:Int)>10) (some true) (some (decide ((j.bJ.length:Int)>8)))).bind λu=>(cond u (some 7) ((xZ j.bG).bind λz=>(cond (!z) (some true) ((xZ j.bJ).bind λI=>some (!I))).bind λJ=>(cond J (some 8) ((cond ((j.bG.length:Int)==0) (some (j.Kind != 1)) (some false)).bind λL=>(cond L (some 9) ((cond (j.Kind==1) (some (decide ((Az ((j.bG.length:Int)+(j.bJ.length:Int)))>0))) (some false)).bind λM=>(cond M (some 6) ((Ld j.Kind j.Content).bind λO=>some O))))))))))))))
def a1n (j:Aa):AB Int:=(cond (j.Kind==2) (some true) (some (j.Kind==9))).bind λu=>(cond (j.Kind<1) (Yx j true) (cond (j.Kind>14) (Yx j true) ((fJ j.Kind).bind λq=>(cond (!(j.State==q)) (Yx j true) (cond (!(j.Key.toList==Ci.toList)) (Yx j (!u)) (Yx j false))))))
def aZd :=Dc func147 rfl a1n DV AX λu r h=>AY<|AP 3<|AO h λq j h=>.mg 7 4 (Af q) (.bi j)<|.aW<|AZ<|Ai<|D9 (λs=>∃(I:AV),CO s ⟨BA 112 [(1,.ptr 0 0),(12,Af I)],[.box (BI (BH u))],0⟩/\Yx u I=some r) (by rintro s ⟨I,hs,h⟩;exact DJ hs<|DX h Bv λh=>AO h λq j h=>AP 1<|.X (ak7 j)<|DX h Bv λh=>AP 3<|AO h λq j h=>.mg 46 4 (Af q) (.bi j)<|.a 1<|AO h λq j h=>.mg 52 3 (Af q) (Cc j)<|.a 1<|AO h λq j h=>.mg 57 3 (Af q) (Cc j)<|.aW<|DX h Bv λh=>AP 2<|.p (BJ Ad u.bG)<|.a 1<|AO h λq j h=>.mg 66 5 (Af q) (.bi j (k2:=λh=>.a 2<|.Z (BJ Ad u.bJ)<|Ce))<|.aW<|DX h Bv λh=>AO h λq j h=>AP 2<|.ca (aWX j)<|.a 1<|AO h λq j h=>.mg 77 5 (Af q) (.bi j (k2:=λh=>AO h λq j h=>.a 2<|.X (aWX j)<|Ce))<|.aW<|DX h Bv λh=>AP 2<|.p (BJ Ad u.bG)<|.a 1<|AO h λq j h=>.mg 88 4 (Af q) (.bi j)<|.aW<|DX h Bv λh=>AP 3<|AO h λq j h=>.mg 97 9 (Af q) (.bi j (λh=>.a 2<|.p (BJ Ad u.bG)<|.a 2<|.Z (BJ Ad u.bJ)<|Ce))<|.aW<|BG h Bv λh=>AO h λq j h=>AP 4<|.X (akz j)<|CW)<|λj=>EI h (λq h=>DU A8 A8 A8 (.a 3<|.c (Au some q)<|.a 22<|.nil _)<|j _ ⟨true,Ae [AQ 0],h⟩) λz h=>EI h (λq h=>DU A8 A8 A8 (.a 3<|.c (Au some z)<|.a 4<|.c (Au some q)<|.a 17<|.nil _)<|j _ ⟨true,Ae [AQ 0],h⟩) λJ h=>AO h λU L h=>EI h (λq h=>DU A8 A8 A8 (.a 3<|.c (Au some z)<|.a 4<|.c (Au some J)<|.a 4<|.ca (jG L)<|.a 2<|.c (Au some q)<|.a 9<|.nil _)<|j _ ⟨true,Ae [AQ 0],h⟩) λM h=>EI h (λO h=>DU A8 A8 A8 (.a 3<|.c (Au some z)<|.a 4<|.c (Au some J)<|.a 4<|.ca (jG L)<|.a 2<|.c (Au some M)<|.a 3<|.c (Au some O)<|.a 5<|.nil _)<|j _ ⟨(!q),Ae [AQ 0],h⟩) λq h=>DU A8 A8 A8 (.a 3<|.c (Au some z)<|.a 4<|.c (Au some J)<|.a 4<|.ca (jG L)<|.a 2<|.c (Au some M)<|.a 3<|.c (Au some q)<|.a 5<|.nil _)<|j _ ⟨false,Ae [AQ 0],h⟩
def su (j:GH)(q:GH)(k3:(Int->AB AV)):Int->AB AV:=λv2=>(cond (v2<(j.length:Int)) ((Aj j v2).bind λu=>(Aj q v2).bind λz=>(cond (!(u.toList==z.toList)) (some false) (k3 (Az (v2+1))))) (some true))
def aCR (j:GH)(q:GH):Int->AB AV:=bf (su j q) Am
def iD (j:GH)(q:GH):AB AV:=(cond ((j.length:Int) != (q.length:Int)) (some false) (aCR j q 0))
def aY7 :=DR func235 rfl iD Hy Hy Af λj q r h=>AY<|AZ<|AP 1<|.p (BJ DT j)<|.a 1<|.Z (BJ DT q)<|BG h Bv λh=>AZ<|AP 1<|.Z (BJ DT j)<|Ai<|Dk (λu=>⟨BA 26 [(0,Hy j),(1,Hy q),(12,AX (j.length:Int)),(13,AX u)],[],0⟩) _ _ _ (Ae []) h<|λu z I J h=>AY<|AZ<|Bl h (λh=>AZ<|Ai<|AY<|Bo h λu z J L h=>El A8 A8 A8 (.a 2<|.p (BF DT z)<|.a 3<|.p (BF DT L)<|.a 2<|.nil _)<|BG h Bv λh=>RY) λh=>EX
def sN (j:NH)(q:NH)(k3:(Int->AB AV)):Int->AB AV:=λv2=>(cond (v2<(j.length:Int)) ((Aj j v2).bind λu=>(Aj q v2).bind λz=>(cond (!wJ u z) (some false) (k3 (Az (v2+1))))) (some true))
def aJ8 (j:NH)(q:NH):Int->AB AV:=bf (sN j q) Am
def lU (j:NH)(q:NH):AB AV:=(cond ((j.length:Int) != (q.length:Int)) (some false) (aJ8 j q 0))
def adP :=DR func236 rfl lU Oh Oh Af λj q r h=>AY<|AZ<|AP 1<|.p (BJ F5 j)<|.a 1<|.Z (BJ F5 q)<|BG h Bv λh=>AZ<|AP 1<|.Z (BJ F5 j)<|Ai<|Dk (λu=>⟨BA 26 [(0,Oh j),(1,Oh q),(12,AX (j.length:Int)),(13,AX u)],[],0⟩) _ _ _ (Ae []) h<|λu I J z h=>AY<|AZ<|Bl h (λh=>AZ<|Ai<|AY<|Bo h λu I z L h=>El A8 A8 A8 (.a 2<|.p (BF F5 I)<|.a 3<|.p (BF F5 L)<|.a 1<|.p (x:=(Af (!wJ u z))) (Us [.string u.User,.int .i64 u.N] [.string z.User,.int .i64 z.N] (aaH u z) Bd ab9)<|.nil _)<|BG h Bv λh=>UH) λh=>EX
def a0A (j:NW)(q:NW)(k3:(Int->AB AV)):Int->AB AV:=λv2=>(cond (v2<(j.length:Int)) ((Aj j v2).bind λu=>(Aj q v2).bind λz=>(cond (!wW u z) (some false) (k3 (Az (v2+1))))) (some true))
def aLf (j:NW)(q:NW):Int->AB AV:=bf (a0A j q) Am
def o8 (j:NW)(q:NW):AB AV:=(cond ((j.length:Int) != (q.length:Int)) (some false) (aLf j q 0))
def aYq :=DR func237 rfl o8 Ot Ot Af λj q r h=>AY<|AZ<|AP 1<|.p (BJ Ey j)<|.a 1<|.Z (BJ Ey q)<|BG h Bv λh=>AZ<|AP 1<|.Z (BJ Ey j)<|Ai<|Dk (λu=>⟨BA 26 [(0,Ot j),(1,Ot q),(12,AX (j.length:Int)),(13,AX u)],[],0⟩) _ _ _ (Ae []) h<|λu I J z h=>AY<|AZ<|Bl h (λh=>AZ<|Ai<|AY<|Bo h λu I z L h=>El A8 A8 A8 (.a 2<|.p (BF Ey I)<|.a 3<|.p (BF Ey L)<|.a 1<|.p (x:=(Af (!wW u z))) (Us [.int .i64 u.Kind,.int .i64 u.N] [.int .i64 z.Kind,.int .i64 z.N] (aln u z) Bd adB)<|.nil _)<|BG h Bv λh=>UH) λh=>EX
def eF (j:D7)(q:D7):AB AV:=(cond (!(j.Text.toList==q.Text.toList)) (some true) (some (j.N != q.N))).bind λx1=>(cond x1 (some true) (some (j.Target != q.Target))).bind λx3=>(cond x3 (some true) (some (!(j.Thread==q.Thread)))).bind λx5=>(cond x5 (some true) (some (!(j.Via.toList==q.Via.toList)))).bind λx7=>(cond x7 (some true) ((iD j.Allow q.Allow).bind λu=>some (!u))).bind λx9=>(cond x9 (some true) ((iD j.iw q.iw).bind λz=>some (!z))).bind λI=>(cond I (some false) ((lU j.Levels.Users q.Levels.Users).bind λJ=>(cond J ((o8 j.Levels.Kinds q.Levels.Kinds).bind λL=>some L) (some false)).bind λM=>(cond M (some (j.Levels.User==q.Levels.User)) (some false)).bind λO=>(cond O (some (j.Levels.Message==q.Levels.Message)) (some false)).bind λU=>(cond U (some (j.Levels.State==q.Levels.State)) (some false)).bind λY=>(cond Y (some (j.Levels.gV==q.Levels.gV)) (some false)).bind λZ=>(cond Z (some (j.Levels.kN==q.Levels.kN)) (some false)).bind λx28=>(cond x28 (some (j.Levels.oK==q.Levels.oK)) (some false)).bind λx30=>(cond x30 (some (j.Levels.iq==q.Levels.iq)) (some false)).bind λx32=>some x32))
def aUw :=DR func148 rfl eF He He Af λu z r h=>AY<|Fn2 [] [51,52] ⟨BA 121 [(2,.ptr 0 0),(3,.ptr 1 0),(5,.ptr 2 0),(6,.ptr 3 0)],[.box (BI (Fl u)),.box (BI (Fl z)),.box (BI (F8 u.Levels)),.box (BI (F8 z.Levels))],0⟩ ⟨NC (Ae [AQ 0,AQ 1,AQ 2,AQ 3]),NC (Ae [AQ 0,AQ 1,AQ 3,AQ 2]),trivial⟩<|AZ<|AP 5<|AO h λq j h=>.mg 16 6 (Af q) (.bi j)<|.a 1<|AO h λq j h=>.mg 24 5 (Af q) (Cc j)<|.a 1<|AO h λq j h=>.mg 31 5 (Af q) (Cc j)<|.a 1<|AO h λq j h=>.mg 38 5 (Af q) (Cc j)<|.a 1<|AO h λq j h=>.mg 45 6 (Af q) (Cc j (k2:=λe i=>aMu))<|.a 1<|AO h λq j h=>.mg 53 6 (Af q) (Cc j (k2:=λe i=>aMu))<|.aU<|BG h Bv λh=>AO h λq j h=>AP 4<|.ca (adP j)<|.a 1<|AO h λq j h=>.mg 66 5 (Af q) (Cc j (λe i=>by subst e;have h:=i;exact AO h λq j h=>.a 4<|.X (aYq j)<|Ce))<|.a 1<|AO h λq j h=>.mg 73 5 (Af q) (Cc j)<|.a 1<|AO h λq j h=>.mg 80 5 (Af q) (Cc j)<|.a 1<|AO h λq j h=>.mg 87 5 (Af q) (Cc j)<|.a 1<|AO h λq j h=>.mg 94 5 (Af q) (Cc j)<|.a 1<|AO h λq j h=>.mg 101 5 (Af q) (Cc j)<|.a 1<|AO h λq j h=>.mg 108 5 (Af q) (Cc j)<|.a 1<|AO h λq j h=>.mg 115 5 (Af q) (Cc j)<|.aW<|CW
def lH (j:FZ)(q:Int):AB FZ:=(Nq j.b_ q).bind λu=>some ({ j with b_:=u })
def aaj {abK Fj r}(h:lH abK Fj=some r):Dw 206 [.ptr 0 0,AX Fj] [.box (BI (Lj abK))] (.eG []) [.box (BI (Lj r))]:=ER func206 rfl<|AO h λq j h=>CS<|.a 6<|.ca (Xb j).view<|.aN<|Y4
def aHP (j:AU)(k3:(Int->FZ->AB FZ)):Int->FZ->AB FZ:=λq v2=>(cond (q<(j.length:Int)) ((Aj j q).bind λu=>(lH v2 u).bind λz=>k3 (Az (q+1)) z) (some v2))
def aPJ (j:AU):Int->FZ->AB FZ:=aP (aHP j) Am
def UY (j:FZ)(q:AU):AB FZ:=aPJ q 0 j
def yZ {uh iT r}(h:UY uh iT=some r):Dw 205 [.fn (.func 206) [.ptr 0 0] [],Bf iT] [.box (BI (Lj uh))] (.eG []) [.box (BI (Lj r))]:=ER func205 rfl<|AP 1<|.Z (BJ Ad iT)<|Ai<|DW (λq j=>⟨BA 16 [(0,.fn (.func 206) [.ptr 0 0] []),(6,Bf iT),(7,AX (iT.length:Int)),(8,AX q)],[.box (BI (Lj j))],1⟩) _ _ _ _ (Ae [AQ 0]) h<|λq j z u I h=>AY<|AZ<|Bl h (λh=>AZ<|Ai<|AO h λq j h=>BO<|.Z (BF Ad j)<|AO h λj u h=>CS<|.a 2<|.f (x:=.eG []) (dR [.ent 0] [.ptr 0 0] [] [AX q] (aaj u))<|.nil<|XC) λh=>Cj<|Y4
def nX (j:FZ)(q:BL):AB FZ:=(TA j.b_ q).bind λu=>some ({ j with b_:=u })
def am6 {abK rW r}(h:nX abK rW=some r):Dw 208 [.ptr 0 0,D5 rW] [.box (BI (Lj abK))] (.eG []) [.box (BI (Lj r))]:=ER func208 rfl<|AO h λq j h=>CS<|.a 6<|.ca (a2c j).view<|.aN<|Y4
def aIL (j:GH)(k3:(Int->FZ->AB FZ)):Int->FZ->AB FZ:=λq v2=>(cond (q<(j.length:Int)) ((Aj j q).bind λu=>(nX v2 u).bind λz=>k3 (Az (q+1)) z) (some v2))
def aWR (j:GH):Int->FZ->AB FZ:=aP (aIL j) Am
def XA (j:FZ)(q:GH):AB FZ:=aWR q 0 j
def a1a {uh iT r}(h:XA uh iT=some r):Dw 207 [.fn (.func 208) [.ptr 0 0] [],Hy iT] [.box (BI (Lj uh))] (.eG []) [.box (BI (Lj r))]:=ER func207 rfl<|AP 1<|.Z (BJ DT iT)<|Ai<|DW (λq j=>⟨BA 16 [(0,.fn (.func 208) [.ptr 0 0] []),(6,Hy iT),(7,AX (iT.length:Int)),(8,AX q)],[.box (BI (Lj j))],1⟩) _ _ _ _ (Ae [AQ 0]) h<|λq j z u I h=>AY<|AZ<|Bl h (λh=>AZ<|Ai<|AO h λq j h=>BO<|.Z (BF DT j)<|AO h λj u h=>CS<|.a 2<|.f (x:=.eG []) (dR [.ent 0] [.ptr 0 0] [] [D5 q] (am6 u))<|.nil<|XC) λh=>Cj<|Y4
def Mem (j:FZ)(q:AV):AB FZ:=(YN j.b_ q).bind λu=>some ({ j with b_:=u })
def ajv {abK aFR r}(h:Mem abK aFR=some r):Dw 210 [.ptr 0 0,Af aFR] [.box (BI (Lj abK))] (.eG []) [.box (BI (Lj r))]:=ER func210 rfl<|AO h λq j h=>CS<|.a 6<|.ca (aO2 j).view<|.aN<|Y4
def aH1 (j:(AA AV))(k3:(Int->FZ->AB FZ)):Int->FZ->AB FZ:=λq v2=>(cond (q<(j.length:Int)) ((Aj j q).bind λu=>(Mem v2 u).bind λz=>k3 (Az (q+1)) z) (some v2))
def aQU (j:(AA AV)):Int->FZ->AB FZ:=aP (aH1 j) Am
def tY (j:FZ)(q:(AA AV)):AB FZ:=aQU q 0 j
def ahI {uh iT r}(h:tY uh iT=some r):Dw 209 [.fn (.func 210) [.ptr 0 0] [],.d ((BQ Dt) iT)] [.box (BI (Lj uh))] (.eG []) [.box (BI (Lj r))]:=ER func209 rfl<|AP 1<|.Z (BJ Dt iT)<|Ai<|DW (λq j=>⟨BA 16 [(0,.fn (.func 210) [.ptr 0 0] []),(6,.d ((BQ Dt) iT)),(7,AX (iT.length:Int)),(8,AX q)],[.box (BI (Lj j))],1⟩) _ _ _ _ (Ae [AQ 0]) h<|λq j z u I h=>AY<|AZ<|Bl h (λh=>AZ<|Ai<|AO h λq j h=>BO<|.Z (BF Dt j)<|AO h λj u h=>CS<|.a 2<|.f (x:=.eG []) (dR [.ent 0] [.ptr 0 0] [] [Af q] (ajv u))<|.nil<|XC) λh=>Cj<|Y4
def aKc (j:AU)(u:(AU->Int->AB AU)):AU->Int->AB AU:=λv2 q=>(cond (q<(j.length:Int)) ((Aj j q).bind λz=>(Z9 v2 z).bind λI=>u I (Az (q+1))) (some v2))
def aWV (j:AU):AU->Int->AB AU:=aP (aKc j) Am
def a6C (q:AU)(j:AU):AB AU:=(Z9 q (j.length:Int)).bind λu=>aWV j u 0
def aad {VL iT r}(h:a6C VL iT=some r):Dw 343 [.aQ 0,Bf iT,.d (.fn (.func 122) [] [])] [(IC VL)] (.aQ 1) [.dead,(IC r)]:=ER func343 rfl<|BO<|.f (CY 5 1)<|.aU<|AO h λq j h=>AP 2<|.p (BJ Ad iT)<|.Y (x:=.aQ 2) (EL [.ent 0] [.aQ 0,AX (iT.length:Int)] (yI j))<|AZ<|AP 1<|.Z (BJ Ad iT)<|Ai<|DW (λq j=>⟨BA 25 [(0,.aQ 1),(2,.d (.fn (.func 122) [] [])),(13,Bf iT),(14,AX (iT.length:Int)),(15,AX j)],[.dead,(IC q)],1⟩) _ _ _ _ (Ae [(0,false),AQ 2]) h<|λq j z I u h=>AY<|AZ<|Bl h (λh=>AZ<|Ai<|AO h λq j h=>BO<|.Z (BF Ad j)<|AO h λj u h=>CS<|.a 3<|.f (x:=.aQ 2) (aPT [.ent 1] [] [] [.aQ 1,AX q] (yI u))<|aGh) λh=>Cj<|AY<|iV
def ZK (q:AU)(j:AU):AB AU:=(Z7 q (Az ((Az (2*(j.length:Int)))+10))).bind λu=>(a6C u j).bind λz=>some z
def aZi :=G8 func275 rfl ZK Hu Bf IC λq j r h=>BO<|.f (CY 5 1)<|.aU<|Bo h λI u J z h=>AP 2<|.p (BJ Ad j)<|.a 2<|.f (x:=.aQ 1) (J9 [Hu q,AX (Az ((Az (2*(j.length:Int)))+10))] (zn u))<|.a 1<|.Y (x:=.aQ 2) (EL [.ent 1] [.aQ 1,Bf j,.d (.fn (.func 122) [] [])] (aad z))<|KH
def jK (j:FZ)(q:AU):AB FZ:=(ZK j.b_ q).bind λu=>some ({ j with b_:=u })
def acB {abK iT r}(h:jK abK iT=some r):Dw 212 [.ptr 0 0,Bf iT] [.box (BI (Lj abK))] (.eG []) [.box (BI (Lj r))]:=ER func212 rfl<|AO h λq j h=>CS<|.a 6<|.ca (aZi j).view<|.aN<|Y4
abbrev PE:=AA (AA Int)
def aCH (j:PE)(k3:(Int->FZ->AB FZ)):Int->FZ->AB FZ:=λq v2=>(cond (q<(j.length:Int)) ((Aj j q).bind λu=>(jK v2 u).bind λz=>k3 (Az (q+1)) z) (some v2))
def aV2 (j:PE):Int->FZ->AB FZ:=aP (aCH j) Am
def sQ (j:FZ)(q:PE):AB FZ:=aV2 q 0 j
def anL {uh iT r}(h:sQ uh iT=some r):Dw 211 [.fn (.func 212) [.ptr 0 0] [],.d ((BQ (BQ Ad)) iT)] [.box (BI (Lj uh))] (.eG []) [.box (BI (Lj r))]:=ER func211 rfl<|AP 1<|.Z (BJ (BQ Ad) iT)<|Ai<|DW (λq j=>⟨BA 16 [(0,.fn (.func 212) [.ptr 0 0] []),(6,.d ((BQ (BQ Ad)) iT)),(7,AX (iT.length:Int)),(8,AX q)],[.box (BI (Lj j))],1⟩) _ _ _ _ (Ae [AQ 0]) h<|λq j z u I h=>AY<|AZ<|Bl h (λh=>AZ<|Ai<|AO h λq j h=>BO<|.Z (BF (BQ Ad) j)<|AO h λj u h=>CS<|.a 2<|.f (x:=.eG []) (dR [.ent 0] [.ptr 0 0] [] [Bf q] (acB u))<|.nil<|XC) λh=>Cj<|Y4
def qZ (j:Aa):AB AU:=(UY aJX [j.Id]).bind λI=>(XA I [j.Room,j.bQ]).bind λJ=>(UY J [j.Kind]).bind λL=>(tY L [j.State]).bind λM=>(XA M [j.Key]).bind λO=>(UY O [j.Time,j.Depth]).bind λU=>(sQ U [j.bG,j.bJ]).bind λY=>(jk j.Content).bind λZ=>(XA Y [Rz Z]).bind λx9=>(UY x9 [j.Hash]).bind λq=>(XA q [j.nM.Server]).bind λu=>(UY u [j.nM.Sum]).bind λz=>some z.b_
def adk :=Dc func132 rfl qZ DV Hu λj r h=>AY<|AY<|AO h λz u h=>AP 1<|.p (x:=.fn (.func 206) [.ptr 1 0] []) (Q5 (fi:=[.ptr 1 0]) (ca:=[]) rfl rfl)<|.a 2<|.p (Dx Df zero3 [Ad j.Id])<|.f (x:=.eG []) (EL [.ent 1] [.fn (.func 206) [.ptr 1 0] [],Bf [j.Id]] (yZ u) (ha:=⟨⟨_,_,rfl,⟨⟨0,rfl,rfl⟩,trivial⟩,trivial⟩,.inl rfl,trivial⟩))<|.aU<|AO h λu q h=>AP 1<|.p (x:=.fn (.func 208) [.ptr 1 0] []) (Q5 (fi:=[.ptr 1 0]) (ca:=[]) rfl rfl)<|.a 4<|.p (Dx NZ zero9 [DT j.Room,DT j.bQ])<|.f (x:=.eG []) (EL [.ent 1] [.fn (.func 208) [.ptr 1 0] [],Hy [j.Room,j.bQ]] (a1a q) (ha:=⟨⟨_,_,rfl,⟨⟨0,rfl,rfl⟩,trivial⟩,trivial⟩,.inl rfl,trivial⟩))<|.aU<|AO h λz q h=>AP 1<|.p (x:=.fn (.func 206) [.ptr 1 0] []) (Q5 (fi:=[.ptr 1 0]) (ca:=[]) rfl rfl)<|.a 2<|.p (Dx Df zero3 [Ad j.Kind])<|.f (x:=.eG []) (EL [.ent 1] [.fn (.func 206) [.ptr 1 0] [],Bf [j.Kind]] (yZ q) (ha:=⟨⟨_,_,rfl,⟨⟨0,rfl,rfl⟩,trivial⟩,trivial⟩,.inl rfl,trivial⟩))<|.aU<|AO h λu q h=>AP 1<|.p (x:=.fn (.func 210) [.ptr 1 0] []) (Q5 (fi:=[.ptr 1 0]) (ca:=[]) rfl rfl)<|.a 2<|.p (Dx ah0 tV [Dt j.State])<|.f (x:=.eG []) (EL [.ent 1] [.fn (.func 210) [.ptr 1 0] [],.d ((BQ Dt) [j.State])] (ahI q) (ha:=⟨⟨_,_,rfl,⟨⟨0,rfl,rfl⟩,trivial⟩,trivial⟩,.inl rfl,trivial⟩))<|.aU<|AO h λz q h=>AP 1<|.p (x:=.fn (.func 208) [.ptr 1 0] []) (Q5 (fi:=[.ptr 1 0]) (ca:=[]) rfl rfl)<|.a 2<|.p (Dx NZ zero9 [DT j.Key])<|.f (x:=.eG []) (EL [.ent 1] [.fn (.func 208) [.ptr 1 0] [],Hy [j.Key]] (a1a q) (ha:=⟨⟨_,_,rfl,⟨⟨0,rfl,rfl⟩,trivial⟩,trivial⟩,.inl rfl,trivial⟩))<|.aU<|AO h λu q h=>AP 1<|.p (x:=.fn (.func 206) [.ptr 1 0] []) (Q5 (fi:=[.ptr 1 0]) (ca:=[]) rfl rfl)<|.a 4<|.p (Dx Df zero3 [Ad j.Time,Ad j.Depth])<|.f (x:=.eG []) (EL [.ent 1] [.fn (.func 206) [.ptr 1 0] [],Bf [j.Time,j.Depth]] (yZ q) (ha:=⟨⟨_,_,rfl,⟨⟨0,rfl,rfl⟩,trivial⟩,trivial⟩,.inl rfl,trivial⟩))<|.aU<|AO h λz q h=>AP 1<|.p (x:=.fn (.func 212) [.ptr 1 0] []) (Q5 (fi:=[.ptr 1 0]) (ca:=[]) rfl rfl)<|.a 4<|.p (Dx a4t nG [(BQ Ad) j.bG,(BQ Ad) j.bJ])<|.f (x:=.eG []) (EL [.ent 1] [.fn (.func 212) [.ptr 1 0] [],.d ((BQ (BQ Ad)) [j.bG,j.bJ])] (anL q) (ha:=⟨⟨_,_,rfl,⟨⟨0,rfl,rfl⟩,trivial⟩,trivial⟩,.inl rfl,trivial⟩))<|.aU<|Bo h λu q J I h=>AP 1<|.p (x:=.fn (.func 208) [.ptr 1 0] []) (Q5 (fi:=[.ptr 1 0]) (ca:=[]) rfl rfl)<|.a 2<|.ca (aOf q)<|.p (aVP (l:=u) a5C a15 Gm)<|.p (Dx NZ zero9 [DT (Rz u)])<|.f (x:=.eG []) (EL [.ent 1] [.fn (.func 208) [.ptr 1 0] [],Hy [Rz u]] (a1a I) (ha:=⟨⟨_,_,rfl,⟨⟨0,rfl,rfl⟩,trivial⟩,trivial⟩,.inl rfl,trivial⟩))<|.aU<|AO h λz u h=>AP 1<|.p (x:=.fn (.func 206) [.ptr 1 0] []) (Q5 (fi:=[.ptr 1 0]) (ca:=[]) rfl rfl)<|.a 2<|.p (Dx Df zero3 [Ad j.Hash])<|.f (x:=.eG []) (EL [.ent 1] [.fn (.func 206) [.ptr 1 0] [],Bf [j.Hash]] (yZ u) (ha:=⟨⟨_,_,rfl,⟨⟨0,rfl,rfl⟩,trivial⟩,trivial⟩,.inl rfl,trivial⟩))<|.aU<|AO h λu q h=>AP 1<|.p (x:=.fn (.func 208) [.ptr 1 0] []) (Q5 (fi:=[.ptr 1 0]) (ca:=[]) rfl rfl)<|.a 3<|.p (Dx NZ zero9 [DT j.nM.Server])<|.f (x:=.eG []) (EL [.ent 1] [.fn (.func 208) [.ptr 1 0] [],Hy [j.nM.Server]] (a1a q) (ha:=⟨⟨_,_,rfl,⟨⟨0,rfl,rfl⟩,trivial⟩,trivial⟩,.inl rfl,trivial⟩))<|.aU<|AO h λz q h=>AP 1<|.p (x:=.fn (.func 206) [.ptr 1 0] []) (Q5 (fi:=[.ptr 1 0]) (ca:=[]) rfl rfl)<|.a 3<|.p (Dx Df zero3 [Ad j.nM.Sum])<|.f (x:=.eG []) (EL [.ent 1] [.fn (.func 206) [.ptr 1 0] [],Bf [j.nM.Sum]] (yZ q) (ha:=⟨⟨_,_,rfl,⟨⟨0,rfl,rfl⟩,trivial⟩,trivial⟩,.inl rfl,trivial⟩))<|.aU<|AY<|CW
def ug (j:Aa):AB Int:=(wu j).bind λq=>(qZ ({ { q with Id:=0 }with nM:=ah })).bind λu=>(zF u).bind λz=>some z
def aWE :=Dc func58 rfl ug DV AX λq r h=>AY<|AO h λu j h=>AP 1<|.X (aN3 j)<|AY<|Bo h λu j I z h=>AP 1<|.ca (adk j)<|.X (aOO z)<|CW
def jq (j:BL):AB BL:=(o9 j aBS).bind λq=>some q.2.1
def aJV :=Dc func57 rfl jq D5 D5 λj r h=>AY<|AO h λu q h=>AP 1<|.X (aNq q)<|AY<|CW
def aH (j:Aa)(q:AV):AB Int:=(cond q (some 6) ((ug j).bind λu=>(cond (u != j.Id) (some 11) ((jq j.bQ).bind λz=>(cond (!dh j.nM (⟨z,j.Id⟩:OW)) (some 12) (some 0))))))
def yD (j:Aa):AB Int:=(a1n j).bind λI=>(cond (I != 0) (some I) ((Zy j).bind λq=>(cond (!q) ((jI j.Kind j.Content).bind λu=>(eF j.Content u).bind λz=>aH j (!z)) (aH j false))))
def aRO :=Dc func74 rfl yD DV AX λj r h=>AY<|AZ<|AO h λq u h=>AP 1<|.X (aZd u)<|AY<|BG h Bv λh=>AZ<|Ai<|D9 (λs=>∃(z:AV),CO s ⟨BA 40 [(1,.ptr 0 0),(9,Af z)],[.box (BI (BH j))],0⟩/\aH j z=some r) (by rintro s ⟨z,hs,h⟩;exact DJ hs<|DX h Bv λh=>AO h λq u h=>El A8 A8 A8 (.a 1<|.ca (aWE u)<|.a 4<|.nil _)<|DX h Bv λh=>AO h λq u h=>El A8 A8 A8 (.a 4<|.ca (aJV u)<|.a 3<|.p (x:=(Af (!dh j.nM (⟨q,j.Id⟩:OW)))) (Us [.string j.nM.Server,.int .i64 j.nM.Sum] [.string ((⟨q,j.Id⟩:OW).Server),.int .i64 ((⟨q,j.Id⟩:OW).Sum)] (aMC j.nM (⟨q,j.Id⟩:OW)) Bd aOg)<|.a 1<|.nil _)<|Ib)<|λq=>AO h λu J h=>EI h (λI h=>Bo h λU L M O h=>DU A8 A8 A8 (.a 1<|.ca (wU J)<|.a 1<|.c (Au some I)<|.a 6<|.ca (aRl L)<|.ca (aUw O)<|.a 3<|.nil _)<|q _ ⟨(!M),Ae [AQ 0],h⟩) λI h=>DU A8 A8 A8 (.a 1<|.ca (wU J)<|.a 1<|.c (Au some I)<|.a 11<|.nil _)<|q _ ⟨false,Ae [AQ 0],h⟩
def aHT (j:Aa):AB (Aa×Int):=(yD j).bind λq=>(cond (q != 0) (some (FU,q)) (some (j,0)))
def aSZ (j:Aa):AB (Aa×Int):=(Zy j).bind λq=>(cond (!q) ((wu j).bind λu=>aHT u) (aHT j))
def abC :=Dc func63 rfl aSZ DV (λr=>.eG [DV r.1,AX r.2]) λj r h=>AY<|D9 (λs=>∃(q:Aa),CO s ⟨BA 17 [(1,.ptr 0 0),(2,.ptr 1 0)],[.box (BI (BH q)),.box (BI (BH FU))],0⟩/\aHT q=some r) (by rintro s ⟨q,hs,h⟩;exact DJ hs<|AZ<|AO h λz u h=>AP 1<|.X (aRO u)<|AY<|BG h (λh=>AY<|Ep<|by rw[←CP h];exact⟨[DV FU,AX z],[],⟨⟨1,BI (BH FU),true,29,A8,A8,A8,Gx,Dl A8,Lc,A8⟩,G7 A8,trivial⟩,A8,A8,A8⟩) λh=>AY<|Ep<|by rw[←CP h];exact⟨[DV q,AX 0],[],⟨⟨1,BI (BH q),true,29,A8,A8,A8,Gx,Dl A8,Lc,A8⟩,G7 A8,trivial⟩,A8,A8,A8⟩)<|λK4=>AO h λz u h=>AP 1<|.X (wU u)<|BG h (λh=>AO h λz u h=>CS<|.a 1<|.ca (aN3 u)<|.aN<|K4 _ ⟨z,Ae [AQ 0,AQ 1],h⟩) λh=>K4 _ ⟨j,Ae [AQ 0,AQ 1],h⟩
abbrev Ag:=AA Aa
def sV (j:Ag)(q:(Aa->AB AV))(k2:(Int->AB Int)):Int->AB Int:=λu=>(cond (u<(j.length:Int)) ((Aj j u).bind λz=>(q z).bind λI=>(cond I (some u) (k2 (Az (u+1))))) (some (-1)))
def aFP (j:Ag)(q:(Aa->AB AV)):Int->AB Int:=bf (sV j q) Am
def Uy (j:Ag)(q:(Aa->AB AV)):AB Int:=aFP j q 0
def Agr (q:(AA Aa))(u:(Aa->AB AV))(j:D)(z:S9 Ak BH Dt j u)(r:Int)(h:Uy q u=some r):Dw 172 [BK q,.d j] [] (AX r) []:=ER func172 rfl<|AY<|AZ<|AP 1<|.Z (BJ BH q)<|Ai<|Dk (λI=>⟨BA 19 [(0,BK q),(1,.d j),(7,AX (q.length:Int)),(8,AX I)],[],0⟩) _ _ _ (Ae []) h<|λI J L M h=>AY<|AZ<|Bl h (λh=>AZ<|Ai<|AY<|Bo h λI J M O h=>AP 3<|.p (BF BH J)<|.a 1<|.p (rU (d:=j) (z:S9 Ak BH Dt j u) O)<|.aU<|BG h Bv λh=>DI<|L _ _ (Ae []) h) λh=>EX
def a1w (j:Aa)(q:Int):AB AV:=some (j.Id==q)
def akq :=DR func217 rfl a1w DV (λj=>.d (.ref (Ad j).cells 0)) Af λq j r h=>Ze
def a4C (q:Ag)(j:Int):AB Int:=(Uy q (λa0=>a1w a0 j)).bind λu=>some u
def aQV :=DR func138 rfl a4C BK AX AX λq j r h=>AY<|AO h λu z h=>AP 1<|.conv _ (Qv (cs:=BI (Ad j)) 0 A8 A8)<|.p (x:=.d (.fn (.func 217) [] [(.ref (Ad j).cells 0)])) (Oq [(.ref (Ad j).cells 0)] rfl)<|.X (Agr q (λu=>a1w u j) (.fn (.func 217) [] [(.ref (Ad j).cells 0)]) ⟨217,[(.ref (Ad j).cells 0)],rfl,aa4,λu z I=>akq I⟩ u z)<|CW
def L6 (j:Ag)(q:Int):AB (Aa×AV):=(a4C j q).bind λu=>(cond (u<0) (some (FU,false)) ((Aj j u).bind λz=>some (z,true)))
def ND :=DR func64 rfl L6 BK AX (λr=>.eG [DV r.1,Af r.2]) λI j r h=>AY<|AO h λq u h=>AP 2<|.X (aQV u)<|AZ<|AY<|BG h (λh=>AY<|Ep<|aAy) λh=>AO h λq u h=>AP 2<|.Z (BF BH u)<|Ep<|a19
def aFg (j:Ag):AB Ag:=(DC 376 [] j).bind λq=>some q
def amw {ng r}(h:aFg ng=some r):Dw 139 [BK ng] [] (.aQ 0) [(FV r)]:=by
 refine ER func139 rfl ?_;unfold aFg at h;refine BO<|.f (CY 38 29)<|.aU<|AZ<|jL (x:=.tmp 3) (t':=22) (d:=4) (es:=List.map BH ng) 1 rfl (.a 1<|.nil _) A8 A8 A8 MV A8 ?_;intro b j;cases b
 ·clear j;refine MF A8<|Ew ?_;obtain⟨u,q,h⟩:=Dn h;refine BO<|.f (GY J7 Nz [])<|.a 1<|.f (DZ (k:=1) BH q J7 A8 (λ_=>rfl) Bd)<|.aM 1 ?_;rw[←CP h];exact .ret (Ei [AQ 2])
 replace j:=lR j;replace h:some []=some r:=jc
 refine Nc A8<|BO<|.f (CY 38 29)<|.aU ?_;rw[←CP h];exact .ret (Ei [AQ 1])
def aMb (j:AA Aa)(q:Int)(u:AA Aa):AB Ag:=aEm j q u
def aZY (j:AA Aa)(q:Int)(u r:AA Aa)(h:aMb j q u=some r):Dw 140 [.aQ 0,AX q,.aQ 1] [(FV j),(FV u)] (.aQ 2) [.dead,.dead,(FV r)]:=
 ax6 (λ_=>rfl) j q u r h
def aGW (j:Ag):AB (Ag×Int):=some (j,0)
def aHI (u:(Int->AB (Ag×Int)))(j:Int)(z:Ag)(q:Aa)(I:AV):AB (Ag×Int):=(cond I (u (Az (j+1))) ((aMb z j [q]).bind λJ=>some (J,0)))
def aa1 (u:Ag)(z:Ag)(j:Aa)(I:(Int->AB (Ag×Int))):Int->AB (Ag×Int):=λq=>(cond (q<(u.length:Int)) ((Aj u q).bind λJ=>aHI I q z j (decide (J.Id<j.Id))) (aHI I q z j false))
def aiM (j:Ag)(u:Ag)(q:Aa):Int->AB (Ag×Int):=bf (aa1 j u q) Am
def agq (j:Ag)(q:Aa)(k2:(Int->AB (Ag×Int))):Int->AB (Ag×Int):=λI=>(bif I<(j.length:Int) then(Aj j I).bind λU=>(cond (!(U.Room.toList==q.Room.toList)) (some ([],13)) (k2 (Az (I+1))))else(a4C j q.Id).bind λz=>(cond (z<0) (some (decide ((j.length:Int)>=2000))) (some false)).bind λY=>(cond Y (some ([],29)) ((aFg j).bind λu=>(cond (z>=0) ((Zy q).bind λJ=>(cond J ((Aj j z).bind λL=>(Zy L).bind λM=>some (!M)) (some false)).bind λO=>(cond O ((Aj u z).bind λZ=>aGW (u.set (z).toNat q)) (aGW u))) (aiM j u q 0)))))
def aZb (j:Ag)(q:Aa):Int->AB (Ag×Int):=bf (agq j q) Am
def a6h (j:Ag)(q:Aa):AB (Ag×Int):=aZb j q 0
def aI0 {cZ vJ r}(h:a6h cZ vJ=some r):Dw 65 [BK cZ,DV vJ] [] (.eG [.aQ 0,AX r.2]) [(FV r.1)]:=ER func65 rfl<|AP 1<|.Y (CY 38 29)<|AZ<|AP 1<|.Z (BJ BH cZ)<|Ai<|Dk (λq=>⟨BA 73 [(0,BK cZ),(3,.ptr 0 0),(10,BK cZ),(11,AX (cZ.length:Int)),(12,AX q)],[.box (BI (BH vJ))],0⟩) _ _ _ (Ae [AQ 0]) h<|λq j u I h=>AY<|AZ<|Bl h (λh=>AZ<|Ai<|AO h λq j h=>BO<|.Z (BF BH j)<|AY<|BG h (λh=>BO<|.Y (CY 38 29)<|KH) λh=>DI<|u _ _ (Ae [AQ 0]) h) λh=>Cj<|AO h λq j h=>AP 3<|.X (aQV j)<|AZ<|AP 2<|AO h λj u h=>.mg 28 4 (Af j) (.bi u (λh=>.a 1<|.Z (BJ BH cZ)<|Ce))<|.aU<|BG h (λh=>BO<|.Y (CY 38 29)<|JL) λh=>AO h λj u h=>AP 1<|.Y (x:=.aQ 1) (J9 [BK cZ] (amw u))<|AZ<|AY<|BG h (λh=>D9 (λs=>∃(J:(AA Aa)),CO s ⟨BA 73 [(9,.aQ 0)],[(FV J)],0⟩/\aGW J=some r) aJz<|λu=>AO h λI z h=>AP 1<|.ca (wU z)<|.a 1<|AO h λI z h=>.mg 40 6 (Af I) (Cc z (λe i=>by subst e;have h:=i;exact Bo h λq j u I h=>.a 2<|.p (BF BH j)<|.a 1<|.X (wU I)<|Ce))<|.aU<|BG h (λh=>AO h λI z h=>CS<|.a 3<|.p (Hw (e':=38) (kd:=.i64) BH z (k:=1) A8 MV Gx)<|.f (Zn (e:=38) (size:=29) (v:=(DV vJ)) (k:=1) (i:=(q).toNat) (off:=0) (a':=vJ) BH A8 (GZ z).2 A8 (Gx).size A8 (Dl A8) A8 (λ_=>rfl))<|.nil<|u _ ⟨(j.set (q).toNat vJ),Ae [AQ 1],h⟩) λh=>u _ ⟨j,Ae [AQ 1],h⟩) λh=>AY<|AZ<|Ai<|Dk (λq=>⟨BA 73 [(0,BK cZ),(3,.ptr 0 0),(8,AX q),(9,.aQ 1)],[.box (BI (BH vJ)),(FV j)],0⟩) _ _ _ (Ae [AQ 0,AQ 1]) h<|λq u I z h=>AZ<|D9 (λs=>∃(L:AV),CO s ⟨BA 73 [(0,BK cZ),(3,.ptr 0 0),(8,AX z),(9,.aQ 1),(65,Af L)],[.box (BI (BH vJ)),(FV j)],0⟩/\aHI u z j vJ L=some r) (by rintro s ⟨L,hs,h⟩;exact DJ hs<|Bl h (λh=>Ai<|aDk) λh=>Cj<|AO h λq u h=>AP 3<|.f (GY J7 Nz [BH vJ])<|.Y (x:=.aQ 3) (EL [.ent 1,.ent 2] [.aQ 1,AX z,.aQ 2] (aZY j z [vJ] q u) (hE:=(MZ A8<|MZ A8<|trivial)))<|jH)<|λq=>EI h (λj h=>AO h λu I h=>DU A8 A8 A8 (.a 2<|.p (BJ BH cZ)<|.a 1<|.c (Au some j)<|.a 2<|.p (BF BH I)<|.a 6<|.nil _)<|q _ ⟨(decide (u.Id<vJ.Id)),Ae [AQ 0,AQ 1],h⟩) λj h=>DU A8 A8 A8 (.a 2<|.p (BJ BH cZ)<|.a 1<|.c (Au some j)<|.a 9<|.nil _)<|q _ ⟨false,Ae [AQ 0,AQ 1],h⟩
def dz (v2:AU)(j:(Int×AV)):AB AU:=(DC 8 v2 [j.1]).bind λq=>some q
def qX (v2:AU):AB AU:=(Oc v2).bind λj=>some j
def WS (j:(AA (Int×AV))):AB AU:=(Ir 8 0 0 (j.length:Int)).bind λq=>(List.foldlM dz q j).bind qX
def aUQ {Ti r}(h:WS Ti=some r):Dw 184 [.mp 0] [.map (List.map (CQ D6 Dt) Ti)] (.aQ 1) [.dead,(Cb r)]:=by
 refine ER func184 rfl ?_;unfold WS at h;refine BO<|.f (CY 3 1)<|.aU ?_;obtain⟨x1,I,h⟩:=Dn h;refine AP 1<|.p (x:=(AX (Ti.length:Int))) (aSG (k:=0) (es0:=List.map (CQ D6 Dt) Ti) (Di ..) Pq A8)<|.Y (YO Ad 0 I Df zero3 A8 A8 A8 Bd)<|AZ<|AP 1<|.f (x:=.ptr 3 0) (aMS (k:=0) (m:=List.map (CQ D6 Dt) Ti) Pq A8)<|.aU<|Ai<|Bh.azB (λj v2=>⟨BA 21 [(3,.aQ 1),(9,.ptr 2 0)],[.dead,(Cb v2),.iter (List.map (CQ D6 Dt) Ti) j],1⟩) Ti dz qX r x1 (Ae [(0,false),AQ 2,AQ 3]) ?_ ?_
 ·intro vis L M;exact aLy (c:=λ_=>true) (aT3 _ vis L M) (λx y O=>by unfold qX;rw[aR4 O]) h
 clear h;intro J j v2 u q;refine BO<|?_;refine Dj.next (ty:=false) (ek:=D6) (ev:=Dt) 2 Ti j A8 rfl A8 A8 ?_ ?_
 ·intro hc;have h:=u hc;unfold qX at h;refine .aW<|AZ<|MF A8<|Cj ?_;obtain⟨x6,U,h⟩:=Dn h;refine AP 1<|.f (x:=.eG []) (EL [.ent 1] [.aQ 1] (zJ v2 x6 U))<|.aU<|BO<|.aM 2 ?_;rw[←CP h];exact .ret (Ei [(0,false),AQ 1])
 intro Z z hp hi;obtain⟨r,h,hJ⟩:=q Z z hp hi;unfold dz at h;refine .aW<|AZ<|Nc A8<|Ew<|Ai<|BO<|.p (x:=.eG [AX z.1,Af z.2]) (aPs (n:=2) (i:=Z) (ek:=D6) (ev:=Dt) (m:=Ti) (vis:=j) hp A8)<|.aM 2 ?_;obtain⟨x7,Y,h⟩:=Dn h;refine CS<|.a 2<|.p (Dx Df zero3 [Ad z.1])<|.f (DZ (k:=1) Ad Y Df A8 (λ_=>rfl) Bd)<|.a 1<|.nil ?_;obtain rfl:=CP h;exact hJ _ (Ae [(0,false),AQ 3,AQ 2])
def a1V (j:Ag)(J:(Int->(AA (Int×AV))->AB AU)):Int->(AA (Int×AV))->AB AU:=λq I=>(bif q<(j.length:Int) then(Aj j q).bind λu=>J (Az (q+1)) (KP I u.Id)else(WS I).bind λz=>some z)
def a1i (j:Ag):Int->(AA (Int×AV))->AB AU:=aP (a1V j) Am
def a4L (j:AU)(q:Ag)(k3:(Int->(AA (Int×AV))->AB AU)):Int->(AA (Int×AV))->AB AU:=λu v2=>(cond (u<(j.length:Int)) ((Aj j u).bind λz=>k3 (Az (u+1)) (Dy v2 z true)) (a1i q 0 v2))
def aOI (j:AU)(q:Ag):Int->(AA (Int×AV))->AB AU:=aP (a4L j q) Am
def aT (q:Ag)(j:AU):AB AU:=aOI j q 0 []
def a0w :=G8 func109 rfl aT BK Bf Cb λq j r h=>BO<|.f (CY 3 1)<|.aU<|AP 1<|.p (BJ Ad j)<|.Y (x:=.mp 1) (aRr (kd:=.i64) (n:=(j.length:Int)) Pq)<|AZ<|AP 1<|.Z (BJ Ad j)<|Ai<|DW (λz u=>⟨BA 34 [(0,BK q),(5,.mp 0),(13,Bf j),(14,AX (j.length:Int)),(15,AX z)],[.map (List.map (CQ D6 Dt) u)],0⟩) _ _ _ _ (Ae [AQ 1]) h<|λz u I L J h=>AY<|AZ<|Bl h (λh=>AZ<|Ai<|AO h λz u h=>BO<|.Z (BF Ad u)<|CS<|.a 2<|.f (WT (k:=0) (key:=z) (val:=true) (m:=J) Dt Pq Gq A8)<|.nil<|Sl) λh=>Cj<|AZ<|AP 1<|.Z (BJ BH q)<|Ai<|DW (λz u=>⟨BA 34 [(5,.mp 0),(22,BK q),(23,AX (q.length:Int)),(24,AX z)],[.map (List.map (CQ D6 Dt) u)],0⟩) _ _ _ _ (Ae [AQ 0]) h<|λz u I L J h=>AY<|AZ<|Bl h (λh=>AZ<|Ai<|AO h λz u h=>BO<|.Z (BF BH u)<|CS<|.a 3<|.f (ady (k:=0) (key:=z.Id) (m:=J) Dt Pq Gq A8)<|.nil<|Sl) λh=>Cj<|AO h λz u h=>AP 1<|.Y (x:=.aQ 1) (EL [.ent 0] [.mp 0] (aUQ u))<|JL
def pK (j:Ag)(q:Aa):AB AV:=(aT j q.bG).bind λu=>(cond ((u.length:Int)==0) ((aT j q.bJ).bind λz=>some ((z.length:Int)==0)) (some false)).bind λI=>some I
def aEz :=DR func66 rfl pK BK DV Af λu z r h=>AY<|AO h λj q h=>AP 3<|.ca (a0w q).view<|.p (BJ Ad j)<|.a 1<|AO h λj q h=>.mg 11 7 (Af j) (.bi q (λh=>AO h λj q h=>.a 3<|.ca (a0w q).view<|.Z (BJ Ad j)<|Ce))<|.aW<|CW
def aR3 (j:Ag)(k3:(Int->(AA (Int×Int))->AB (AA (Int×Int)))):Int->(AA (Int×Int))->AB (AA (Int×Int)):=λq v2=>(cond (q>=0) ((Aj j q).bind λu=>k3 (Az (q-1)) (Dy v2 u.Id q)) (some v2))
def aTF (j:Ag):Int->(AA (Int×Int))->AB (AA (Int×Int)):=aP (aR3 j) Am
def Zm (j:Ag):AB (AA (Int×Int)):=aTF j (Az ((j.length:Int)-1)) []
def yu {cZ r}(h:Zm cZ=some r):Dw 169 [BK cZ] [] (.mp 0) [.map (List.map (CQ D6 Ad) r)]:=ER func169 rfl<|AY<|AP 1<|.p (BJ BH cZ)<|.Y (x:=.mp 0) (aRr (kd:=.i64) (n:=(cZ.length:Int)) OV)<|AZ<|AP 1<|.Z (BJ BH cZ)<|Ai<|DW (λj q=>⟨BA 23 [(0,BK cZ),(3,.mp 0),(4,AX j)],[.map (List.map (CQ D6 Ad) q)],0⟩) _ _ _ _ (Ae [AQ 0]) h<|λj q u z I h=>AZ<|AY<|Bl h (λh=>AZ<|Ai<|AO h λj q h=>CS<|.a 3<|.p (BF BH q)<|.a 3<|.f (WT (k:=0) (key:=j.Id) (val:=z) (m:=I) Ad OV Gq A8)<|.nil<|xX) λh=>IW
def aJA (j:AU)(q:(AA (Int×Int)))(k2:(Int->AB AV)):Int->AB AV:=λu=>(cond (u<(j.length:Int)) ((Aj j u).bind λz=>(cond (!((DF q z).isSome)) (some false) (k2 (Az (u+1))))) (some true))
def aUx (j:AU)(q:(AA (Int×Int))):Int->AB AV:=bf (aJA j q) Am
def a0L (j:AU)(q:(AA (Int×Int))):AB AV:=aUx j q 0
def aMg {agk ahT r}(h:a0L agk ahT=some r):Dw 255 [Bf agk,.ptr 0 0] [.box [.mp 1],.map (List.map (CQ D6 Ad) ahT)] (Af r) [.box [.mp 1],.map (List.map (CQ D6 Ad) ahT)]:=ER func255 rfl<|AY<|AZ<|AP 1<|.Z (BJ Ad agk)<|Ai<|Dk (λj=>⟨BA 23 [(1,.ptr 0 0),(8,Bf agk),(9,AX (agk.length:Int)),(10,AX j)],[.box [.mp 1],.map (List.map (CQ D6 Ad) ahT)],2⟩) _ _ _ (Ae [AQ 0,AQ 1]) h<|λj q u z h=>AY<|AZ<|Bl h (λh=>AZ<|Ai<|AO h λj q h=>BO<|.Z (BF Ad q)<|AP 2<|.Z (x:=.eG [AX ((DF ahT j).getD 0),Af ((DF ahT j).isSome)]) (mM (k:=1) (key:=j) (m:=ahT) Ad 0 OV Gq zero3 A8 A8 A8)<|AY<|BG h (λh=>AY<|aGS) λh=>DI<|u _ _ (Ae [AQ 0,AQ 1]) h) λh=>Cj<|AY<|aGS
def aIg (j:Ag)(I:(Int->(AA (Int×Int))->AB AV)):Int->(AA (Int×Int))->AB AV:=λv2 q=>(cond (v2<(j.length:Int)) ((Aj j v2).bind λJ=>(a0L J.bG q).bind λL=>(cond (!L) (some true) ((Aj j v2).bind λu=>(a0L u.bJ q).bind λz=>some (!z))).bind λM=>(cond M (some false) (I (Az (v2+1)) q))) (some true))
def aMW (j:Ag):Int->(AA (Int×Int))->AB AV:=aP (aIg j) Am
def aA3 (j:Ag):AB AV:=(Zm j).bind λq=>aMW j 0 q
def aii :=Dc func168 rfl aA3 BK Af λj r h=>AY<|AO h λu q h=>AP 1<|.Y (x:=.mp 0) (EL [] [BK j] (yu q))<|BO<|.Z (x:=.fn (.func 255) [] [.ptr 1 0]) (Q5 (fi:=[]) (ca:=[.ptr 1 0]) rfl rfl)<|AZ<|AP 1<|.Z (BJ BH j)<|Ai<|DW (λu q=>⟨BA 33 [(0,BK j),(4,.fn (.func 255) [] [.ptr 0 0]),(10,AX (j.length:Int)),(11,AX u)],[.box [.mp 1],.map (List.map (CQ D6 Ad) q)],0⟩) _ _ _ _ (Ae [AQ 1,AQ 0]) h<|λu q I z L h=>AY<|AZ<|Bl h (λh=>AZ<|Ai<|AY<|Bo h λu q z J h=>AP 3<|.p (BF BH q)<|.a 2<|.f (x:=(Af z)) (dR [.ent 0,.ent 1] [] [.ptr 0 0] [Bf u.bG] (aMg J) (hE:=(MZ A8<|MZ A8<|trivial)))<|.a 1<|AO h λu q h=>.mg 22 9 (Af u) (.bi q (k2:=λh=>Bo h λu q I z h=>.a 3<|.p (BF BH q)<|.a 2<|.Y (x:=(Af I)) (dR [.ent 0,.ent 1] [] [.ptr 0 0] [Bf u.bJ] (aMg z) (hE:=(MZ A8<|MZ A8<|trivial)))<|Ce))<|.aU<|BG h Bv λh=>aJ0) λh=>EX
def aGD (j:Aa)(I:Ag)(q:(AA (Int×Int)))(J:(Int->Int->AB (AV×(AA (Int×Int))))):Int->Int->AB (AV×(AA (Int×Int))):=λu z=>(bif z<(j.bG.length:Int) then(Aj j.bG z).bind λL=>(Aj I ((DF q L).getD 0)).bind λM=>J (XT u M.Depth) (Az (z+1))else(cond (j.Depth>u) (some ((Az (j.Depth-u))==1)) (some false)).bind λO=>some (O,q))
def aXG (q:Aa)(u:Ag)(j:(AA (Int×Int))):Int->Int->AB (AV×(AA (Int×Int))):=aP (aGD q u j) Am
def aGZ (j:Aa)(u:Ag)(q:(AA (Int×Int)))(k2:(Int->AB (AV×(AA (Int×Int))))):Int->AB (AV×(AA (Int×Int))):=λz=>(cond (z<(j.bJ.length:Int)) ((Aj j.bJ z).bind λI=>(Aj u ((DF q I).getD 0)).bind λJ=>(cond (J.Depth>=j.Depth) (some (false,q)) (k2 (Az (z+1))))) (cond ((j.bG.length:Int)==0) (some ((j.Depth==1),q)) ((Aj j.bG 0).bind λL=>(Aj u ((DF q L).getD 0)).bind λM=>aXG j u q M.Depth 0)))
def aTW (q:Aa)(u:Ag)(j:(AA (Int×Int))):Int->AB (AV×(AA (Int×Int))):=bf (aGZ q u j) Am
def a0t (q:Ag)(j:(AA (Int×Int)))(u:Aa):AB (AV×(AA (Int×Int))):=aTW u q j 0
def akH {cZ Xf jA r}(h:a0t cZ Xf jA=some r):Dw 170 [BK cZ,.mp 0,DV jA] [.map (List.map (CQ D6 Ad) Xf)] (Af r.1) [.map (List.map (CQ D6 Ad) r.2)]:=ER func170 rfl<|AY<|AZ<|AP 2<|.Z (BJ Ad jA.bJ)<|Ai<|Dk (λj=>⟨BA 75 [(0,BK cZ),(1,.mp 0),(5,.ptr 1 0),(13,Bf jA.bJ),(14,AX (jA.bJ.length:Int)),(15,AX j)],[.map (List.map (CQ D6 Ad) Xf),.box (BI (BH jA))],1⟩) _ _ _ (Ae [AQ 0,AQ 1]) h<|λj q z u h=>AY<|AZ<|Bl h (λh=>AZ<|Ai<|AO h λj q h=>BO<|.Z (BF Ad q)<|AO h λq u h=>El A8 A8 A8 (.a 3<|.p (x:=(AX ((DF Xf j).getD 0))) (gU (k:=0) (key:=j) (m:=Xf) Ad 0 OV Gq zero3 A8 A8 A8)<|.p (BF BH u)<|.a 5<|.nil _)<|BG h qB λh=>DI<|z _ _ (Ae [AQ 0,AQ 1]) h) λh=>Cj<|AZ<|AP 2<|.Z (BJ Ad jA.bG)<|BG h qB λh=>Bo h λj q z u h=>AP 4<|.p (BF Ad q)<|.a 1<|.p (x:=(AX ((DF Xf j).getD 0))) (gU (k:=0) (key:=j) (m:=Xf) Ad 0 OV Gq zero3 A8 A8 A8)<|.Z (BF BH u)<|AZ<|AP 2<|.Z (BJ Ad jA.bG)<|Ai<|DW (λj q=>⟨BA 75 [(0,BK cZ),(1,.mp 0),(5,.ptr 1 0),(9,AX j),(48,Bf jA.bG),(49,AX (jA.bG.length:Int)),(50,AX q)],[.map (List.map (CQ D6 Ad) Xf),.box (BI (BH jA))],1⟩) _ _ _ _ (Ae [AQ 0,AQ 1]) h<|λj q z u I h=>AY<|AZ<|Bl h (λh=>AZ<|Ai<|AO h λj q h=>BO<|.Z (BF Ad q)<|AO h λq I h=>CS<|.a 4<|.p (x:=(AX ((DF Xf j).getD 0))) (gU (k:=0) (key:=j) (m:=Xf) Ad 0 OV Gq zero3 A8 A8 A8)<|.p (BF BH I)<|.a 2<|.p (x:=(AX (XT u q.Depth))) aYA<|.aN<|aDn) λh=>Cj<|AP 4<|AO h λj q h=>.mg 68 6 (Af j) (.bi q)<|.aW<|Ua
def aF8 (j:Ag)(z:(Int->(AA (Int×Int))->AB Int)):Int->(AA (Int×Int))->AB Int:=λq I=>(cond (q<(j.length:Int)) ((Aj j q).bind λJ=>(a0t j I J).bind λu=>(cond (!u.1) (some 15) (z (Az (q+1)) u.2))) (some 0))
def aM3 (j:Ag):Int->(AA (Int×Int))->AB Int:=aP (aF8 j) Am
def iG (j:Ag):AB Int:=(aA3 j).bind λq=>(cond (!q) (some 14) ((Zm j).bind λu=>aM3 j 0 u))
def aDd :=Dc func91 rfl iG BK AX λj r h=>AY<|AZ<|AO h λu q h=>AP 1<|.X (aii q)<|BG h Bv λh=>AO h λu q h=>AP 1<|.Y (x:=.mp 0) (EL [] [BK j] (yu q))<|AZ<|AP 1<|.Z (BJ BH j)<|Ai<|DW (λu q=>⟨BA 24 [(0,BK j),(3,.mp 0),(11,AX (j.length:Int)),(12,AX u)],[.map (List.map (CQ D6 Ad) q)],0⟩) _ _ _ _ (Ae [AQ 0]) h<|λu q I z L h=>AY<|AZ<|Bl h (λh=>AZ<|Ai<|AY<|Bo h λu q z J h=>AP 4<|.p (BF BH q)<|.a 1<|.Y (x:=(Af z.1)) (EL [.ent 0] [BK j,.mp 0,DV u] (akH J))<|BG h Bv λh=>Sl) λh=>EX
def a2U (j:Ag)(u:(Int->AB Int)):Int->AB Int:=λq=>(cond (q<(j.length:Int)) ((Aj j q).bind λz=>(Aj j (Az (q-1))).bind λI=>(cond (z.Id<=I.Id) (some 8) (u (Az (q+1))))) (some 0))
def aBo (j:Ag):Int->AB Int:=bf (a2U j) Am
def Yl (j:Ag)(I:(Int->AB Int)):Int->AB Int:=λq=>(cond (q<(j.length:Int)) ((Aj j q).bind λu=>(Aj j 0).bind λz=>(cond (!(u.Room.toList==z.Room.toList)) (some 13) (I (Az (q+1))))) (aBo j 1))
def rV (j:Ag):Int->AB Int:=bf (Yl j) Am
def uZ (j:Ag)(k3:(Int->AB Int)):Int->AB Int:=λv2=>(cond (v2<(j.length:Int)) ((Aj j v2).bind λu=>(yD u).bind λq=>(cond (q != 0) (some q) (k3 (Az (v2+1))))) (rV j 0))
def aGQ (j:Ag):Int->AB Int:=bf (uZ j) Am
def PY (j:Ag):AB Int:=(cond ((j.length:Int)>2000) (some 7) (aGQ j 0))
def aMk :=Dc func167 rfl PY BK AX λj r h=>AY<|AZ<|AP 1<|.Z (BJ BH j)<|BG h Bv λh=>AZ<|AP 1<|.Z (BJ BH j)<|Ai<|Dk (λq=>⟨BA 56 [(0,BK j),(12,BK j),(13,AX (j.length:Int)),(14,AX q)],[],0⟩) _ _ _ (Ae []) h<|λq u z I h=>AY<|AZ<|Bl h (λh=>AZ<|Ai<|AO h λq u h=>BO<|.Z (BF BH u)<|AO h λu I h=>AP 1<|.ca (aRO I)<|aE7) λh=>Cj<|AZ<|AP 1<|.Z (BJ BH j)<|Ai<|Dk (λq=>⟨BA 56 [(0,BK j),(24,BK j),(25,AX (j.length:Int)),(26,AX q)],[],0⟩) _ _ _ (Ae []) h<|λq u z I h=>AY<|AZ<|Bl h (λh=>AZ<|Ai<|AO h λq u h=>BO<|.Z (BF BH u)<|AO h λq u h=>El A8 A8 A8 (.a 3<|.p (BF BH u)<|.a 3<|.nil _)<|BG h Bv λh=>VZ) λh=>Cj<|AZ<|AY<|Ai<|Dk (λq=>⟨BA 56 [(0,BK j),(8,AX q)],[],0⟩) _ _ _ (Ae []) h<|λq u z I h=>AZ<|AP 2<|.Z (BJ BH j)<|Bl h (λh=>AZ<|Ai<|Bo h λq u I J h=>El A8 A8 A8 (.a 2<|.p (BF BH u)<|.a 5<|.p (BF BH J)<|.a 3<|.nil _)<|BG h Bv λh=>VZ) λh=>EX
abbrev PD:=AA SX
def yB (j:(PD->Int->AB AU))(q:Int)(u:PD):AB AU:=j u (Az (q+1))
def uH (M:(PD->Int->AB AU))(O:Int)(I:(Int->PD->AB AU)):Int->PD->AB AU:=λj q=>(cond (j>0) ((Aj q (Az (j-1))).bind λz=>(Aj q j).bind λu=>(cond (z.pJ<u.pJ) (some true) ((cond (z.pJ==u.pJ) (some (decide (z.nN<=u.nN))) (some false)).bind λJ=>some J)).bind λL=>(cond L (yB M O q) ((Aj q (Az (j-1))).bind λU=>(Aj (q.set (Az (j-1)).toNat u) j).bind λY=>I (Az (j-1)) ((q.set (Az (j-1)).toNat u).set (j).toNat z)))) (yB M O q))
def aWs (j:(PD->Int->AB AU))(q:Int):Int->PD->AB AU:=aP (uH j q) Am
def aJ5 (v2:PD)(z:(Int->AU->PD->AB AU)):Int->AU->PD->AB AU:=λj q u=>(cond (j<(v2.length:Int)) ((Aj u j).bind λI=>(Aj q j).bind λJ=>z (Az (j+1)) (q.set (j).toNat I.nN) u) (some q))
def aMM (v2:PD):Int->AU->PD->AB AU:=iK (aJ5 v2) Am
def aHm (j:Ag)(I:(PD->Int->AB AU)):PD->Int->AB AU:=λv2 u=>(cond (u<(j.length:Int)) ((Aj j u).bind λJ=>(Aj j u).bind λL=>(DC 16 v2 [(⟨J.Depth,L.Id⟩:SX)]).bind λq=>aWs I u (Az ((q.length:Int)-1)) q) ((Ir 8 0 (v2.length:Int) (v2.length:Int)).bind λz=>aMM v2 0 z v2))
def aPL (j:Ag):PD->Int->AB AU:=aP (aHm j) Am
def aAb (j:Ag):AB AU:=(Ir 16 a7g 0 (j.length:Int)).bind λq=>aPL j q 0
def aYm :=Jv func179 rfl aAb BK Cb λj r h=>BO<|.f (CY 3 1)<|.aU<|AO h λz q h=>AP 1<|.p (BJ BH j)<|.Y (YO Jh a7g q aHr a3g A8 A8 A8 Bd)<|AZ<|AP 1<|.Z (BJ BH j)<|Ai<|DW (λz v3=>⟨BA 95 [(0,BK j),(3,.aQ 0),(15,AX (j.length:Int)),(16,AX v3)],[(XL z)],0⟩) _ _ _ _ (Ae [AQ 1]) h<|λz q J M v3 h=>AY<|AZ<|Bl h (λh=>D9 (λs=>∃(v6:(AA SX)),CO s ⟨BA 95 [(0,BK j),(3,.aQ 0),(15,AX (j.length:Int)),(16,AX v3)],[(XL v6)],0⟩/\yB q v3 v6=some r) (by rintro s ⟨v6,hs,h⟩;exact DJ hs<|kn)<|λz=>Ai<|AY<|Gt h λq J M x5 x6 x7 h=>El A8 A8 A8 (.a 3<|.p (BF BH J)<|.a 4<|.p (BF BH x5)<|.a 3<|.p (Dx aHr a3g [Jh (⟨q.Depth,M.Id⟩:SX)])<|.f (DZ (k:=0) Jh x7 aHr A8 (λ_=>rfl) Bd)<|.a 1<|.nil _)<|AP 1<|.Z (Jq (k:=1) (e':=251) (s:=2) Jh x6 A8 X4)<|Ai<|DW (λI u=>⟨BA 95 [(0,BK j),(3,.aQ 0),(5,AX I),(15,AX (j.length:Int)),(16,AX v3)],[(XL u)],0⟩) _ _ _ _ (Ae [AQ 1]) h<|λq J M I u h=>AZ<|AY<|Bl h (λh=>AZ<|Ai<|Bo h λO q U J h=>Fn2 [zC 3 (Go.Op.indexAddr 249 (Go.Operand.tmp 40) (Go.Operand.tmp 42)) 0 (XL u) (λo es L Z=>Hw (e':=251) (kd:=.i64) Jh q (k:=0) Ye X4 UQ Z),zC (x:=.d (Jh O)) 4 (Go.Op.load 251 (Go.Operand.tmp 43)) 0 (XL u) (λo es L Z=>JZ (e:=251) (size:=2) (k:=0) (i:=(Az (I-1)).toNat) (off:=0) Jh Ye Ye (GZ q).2 UQ (Dl Ye) Vm Z),zC 7 (Go.Op.indexAddr 249 (Go.Operand.tmp 45) (Go.Operand.tmp 46)) 0 (XL u) (λo es L Z=>Hw (e':=251) (kd:=.i64) Jh J (k:=0) Ye X4 UQ Z),zC (x:=.d (Jh U)) 8 (Go.Op.load 251 (Go.Operand.tmp 47)) 0 (XL u) (λo es L Z=>JZ (e:=251) (size:=2) (k:=0) (i:=(I).toNat) (off:=0) Jh Ye Ye (GZ J).2 UQ (Dl Ye) Vm Z)] [252,253] ⟨BA 95 [(0,BK j),(3,.aQ 0),(5,AX I),(6,.ptr 1 0),(7,.ptr 2 0),(15,AX (j.length:Int)),(16,AX v3)],[(XL u),.box (BI (Jh O)),.box (BI (Jh U))],0⟩ ⟨NC (Ae [AQ 0,AQ 1,AQ 2]),NC (Ae [AQ 0,AQ 2,AQ 1]),trivial⟩<|AZ<|AP 5<|AO h λx17 aKS h=>.mg 54 13 (Af x17) (.bi aKS (k2:=λh=>.a 5<|AO h λz q h=>.mg 60 6 (Af z) (.bi q)<|.aW<|Ce))<|.aU<|BG h (λh=>Cj<|z _ ⟨u,Ae [AQ 0],h⟩) λh=>Bo h λz q J x5 h=>Bh.aFx [3,4,6] (.a 7<|.p (Hw (e':=251) (kd:=.i64) Jh q (k:=0) A8 X4 UQ)<|.f (Zn (e:=251) (size:=2) (v:=.d (Jh U)) (k:=0) (i:=(Az (I-1)).toNat) (off:=0) (a':=U) Jh A8 (GZ q).2 A8 (UQ).size A8 (Dl A8) A8 (λ_=>rfl))<|.p (Hw (e':=251) (kd:=.i64) Jh x5 (k:=0) A8 X4 UQ)<|.f (Zn (e:=251) (size:=2) (v:=.d (Jh O)) (k:=0) (i:=(I).toNat) (off:=0) (a':=O) Jh A8 (GZ x5).2 A8 (UQ).size A8 (Dl A8) A8 (λ_=>rfl))<|.nil _)<|DI<|M _ _ _ (Ae [AQ 0]) h) λh=>Cj<|z _ ⟨u,Ae [AQ 0],h⟩) λh=>Cj<|AO h λz q h=>AP 1<|.p (Jq (k:=0) (e':=251) (s:=2) Jh M A8 X4)<|.Y (YO Ad 0 q Df zero3 A8 A8 A8 Bd)<|AZ<|AP 1<|.Z (Jq (k:=0) (e':=251) (s:=2) Jh M A8 X4)<|Ai<|Pv (λz q J=>⟨BA 95 [(8,.aQ 0),(81,.aQ 1),(82,AX (M.length:Int)),(83,AX z)],[(Cb q),(XL J)],0⟩) _ _ _ _ _ (Ae [AQ 1,AQ 0]) h<|λz q J M x5 x6 h=>AY<|AZ<|Bl h (λh=>AZ<|Ai<|AO h λz q h=>AP 1<|.p (Hw (e':=251) (kd:=.i64) Jh q (k:=1) A8 X4 UQ)<|.Z (x:=.d (Jh z)) (JZ (e:=251) (size:=2) (k:=1) (i:=(M).toNat) (off:=0) Jh A8 A8 (GZ q).2 UQ (Dl A8) Vm rfl)<|AO h λx32 Y h=>CS<|.a 4<|.p (Hw (e':=3) (kd:=.i64) Ad Y (k:=0) A8 Ij Em)<|.f (Zn (e:=3) (size:=1) (v:=(AX z.nN)) (k:=0) (i:=(M).toNat) (off:=0) (a':=z.nN) Ad A8 (GZ Y).2 A8 (Em).size A8 (Dl A8) A8 (λ_=>rfl))<|.nil<|DI<|J _ _ _ _ (Ae [AQ 0,AQ 1]) h) λh=>IW
abbrev Ba:=AA BM
def qR (j:Ba):AB Ba:=some j
def aMp :=Dc func229 rfl qR DY (λr=>.d (.fn (.func 288) [] [(.ref ((BQ BR) r).cells 0)])) λj r h=>AY<|BO<|.conv _ (Qv (cs:=BI ((BQ BR) j)) 0 A8 A8)<|.Z (x:=.d (.fn (.func 288) [] [(.ref ((BQ BR) j).cells 0)])) (Oq [(.ref ((BQ BR) j).cells 0)] rfl)<|CW
def aBw (q:Ba)(j:(BM->AB AV))(u:(BM->AB AV))(k2:(Int->AB (Int×AV))):Int->AB (Int×AV):=λz=>(cond (z<(q.length:Int)) ((Aj q z).bind λL=>(j L).bind λM=>some M) (some false)).bind λO=>(cond O (k2 (Az (z+1))) ((cond (z<(q.length:Int)) ((Aj q z).bind λI=>(u I).bind λJ=>some J) (some false)).bind λU=>some (z,U)))
def aRy (u:Ba)(j:(BM->AB AV))(q:(BM->AB AV)):Int->AB (Int×AV):=bf (aBw u j q) Am
def aEh (u:Ba)(j:(BM->AB AV))(q:(BM->AB AV)):AB (Int×AV):=aRy u j q 0
def aci (I:(AA BM))(u:(BM->AB AV))(j:D)(J:S9 Ak BR Dt j u)(z:(BM->AB AV))(q:D)(L:S9 Ak BR Dt q z)(r:(Int×AV))(h:aEh I u z=some r):Dw 403 [DY I,.d j,.d q] [] (.eG [AX r.1,Af r.2]) []:=ER func403 rfl<|AY<|AY<|AZ<|Ai<|Dk (λM=>⟨BA 36 [(0,DY I),(1,.d j),(2,.d q),(8,AX M)],[],0⟩) _ _ _ (Ae []) h<|λM O Y U h=>AZ<|AP 2<|.p (BJ BR I)<|.a 1<|AO h λM O h=>.mg 13 7 (Af M) (.bi O (λh=>Bo h λM O Y U h=>.a 3<|.p (BF BR O)<|.a 1<|.Z (rU (d:=j) (J:S9 Ak BR Dt j u) U)<|Ce))<|.aU<|Bl h (λh=>Ai<|DI<|Y _ _ (Ae []) h) λh=>Cj<|AP 3<|.p (BJ BR I)<|.a 1<|AO h λM O h=>.mg 28 7 (Af M) (.bi O (λh=>Bo h λM O Y U h=>.a 3<|.p (BF BR O)<|.a 1<|.Z (rU (d:=q) (L:S9 Ak BR Dt q z) U)<|Ce))<|.aW<|CW
def qp (j:BM)(q:BM):AB AV:=(cond (j.Kind<q.Kind) (some true) ((cond (j.Kind==q.Kind) (some (Op.bytesLess (j.Key.toList) (q.Key.toList))) (some false)).bind λu=>some u)).bind λz=>some z
def aMK :=DR func405 rfl qp X3 X3 Af λu z r h=>AY<|AP 5<|AO h λj q h=>.mg 10 13 (Af j) (.bi q (k2:=λh=>.a 5<|AO h λj q h=>.mg 16 6 (Af j) (.bi q)<|.aW<|Ce))<|.aW<|CW
def zX (j:BM)(q:BM):AB AV:=(qp j q).bind λu=>some u
def acn :=DR func404 rfl zX X3 (λj=>.d (.ref (BR j).cells 0)) Af λq j r h=>AY<|AO h λz u h=>AP 2<|.X (aMK u)<|CW
def vU (j:BM)(q:BM):AB AV:=(qp q j).bind λu=>some (!u)
def aiV :=DR func406 rfl vU X3 (λj=>.d (.ref (BR j).cells 0)) Af λq j r h=>AY<|AO h λz u h=>AP 2<|.X (aMK u)<|CW
def a0l (u:Ba)(q:Int)(j:BL):AB (Int×AV):=(aEh u (λa0=>zX a0 (⟨q,j,0⟩:BM)) (λa0=>vU a0 (⟨q,j,0⟩:BM))).bind λz=>some (z.1,z.2)
def aUU :=MR func327 rfl a0l DY AX D5 (λr=>.eG [AX r.1,Af r.2]) λz q j r h=>AY<|AY<|AO h λu I h=>AP 1<|.conv _ (Qv (cs:=BI (BR (⟨q,j,0⟩:BM))) 0 A8 A8)<|.p (x:=.d (.fn (.func 404) [] [(.ref (BR (⟨q,j,0⟩:BM)).cells 0)])) (Oq [(.ref (BR (⟨q,j,0⟩:BM)).cells 0)] rfl)<|.p (x:=.d (.fn (.func 406) [] [(.ref (BR (⟨q,j,0⟩:BM)).cells 0)])) (Oq [(.ref (BR (⟨q,j,0⟩:BM)).cells 0)] rfl)<|.X (aci z (λu=>zX u (⟨q,j,0⟩:BM)) (.fn (.func 404) [] [(.ref (BR (⟨q,j,0⟩:BM)).cells 0)]) ⟨404,[(.ref (BR (⟨q,j,0⟩:BM)).cells 0)],rfl,akR,λu I J=>acn J⟩ (λu=>vU u (⟨q,j,0⟩:BM)) (.fn (.func 406) [] [(.ref (BR (⟨q,j,0⟩:BM)).cells 0)]) ⟨406,[(.ref (BR (⟨q,j,0⟩:BM)).cells 0)],rfl,ahv,λu I J=>aiV J⟩ u I)<|CW
def nZ (q:Ba)(u:Int)(j:BL):AB (Int×AV):=(a0l q u j).bind λz=>(cond z.2 ((Aj q z.1).bind λI=>some (I.Id,true)) (some (0,false)))
def aKI :=MR func323 rfl nZ DY AX D5 (λr=>.eG [AX r.1,Af r.2]) λu z j r h=>AY<|AZ<|AO h λI q h=>AP 3<|.X (aUU q)<|AY<|BG h (λh=>AO h λI q h=>AP 2<|.Z (BF BR q)<|CW) λh=>AY<|CW
abbrev Fb:=AA (AA BM)
def aGy (q:Fb)(j:BM)(k2:(Int->AB AV)):Int->AB AV:=λu=>(cond (u<(q.length:Int)) ((Aj q u).bind λI=>(nZ I j.Kind j.Key).bind λz=>(cond (!z.2) (some true) (some (z.1 != j.Id))).bind λJ=>(cond J (some false) (k2 (Az (u+1))))) (some true))
def aVm (j:Fb)(q:BM):Int->AB AV:=bf (aGy j q) Am
def aAx (j:Fb)(q:BM):AB AV:=aVm j q 0
def ahc :=DR func393 rfl aAx Ie X3 Af λj q r h=>AY<|AZ<|AP 1<|.Z (BJ (BQ BR) j)<|Ai<|Dk (λu=>⟨BA 33 [(3,.ptr 0 0),(9,Ie j),(10,AX (j.length:Int)),(11,AX u)],[.box (BI (BR q))],0⟩) _ _ _ (Ae [AQ 0]) h<|λu z J I h=>AY<|AZ<|Bl h (λh=>AZ<|Ai<|AO h λu z h=>BO<|.Z (BF (BQ BR) z)<|AO h λz I h=>AP 5<|.X (aKI I)<|AP 2<|AO h λu z h=>.mg 26 5 (Af u) (.bi z)<|aLG) λh=>EX
noncomputable def aS3:Bg Tmp×Code×Code:=a1B Tryz.f319.body [1,1,1,0,1,0,0,1,1,0,0,1,1,0]
def YA (j:(AA (AA BM)))(u:Int)(q:(AA BM))(z:(AA (AA BM)))(I:(AA BM))(J:(AA BM))(L:(AA Int))(v2:(AA Int)):BP:=⟨BA 38 [(1,.ptr 0 0),(4,.ptr 1 0),(5,.ptr 3 0),(6,.ptr 5 0),(9,Ie j),(10,AX (j.length:Int)),(11,AX u),(17,.d (.fn (.func 288) [] [(.ref ((BQ BR) q).cells 0)]))],[.box (BI ((BQ (BQ BR)) z)),.box (setAt (BI ((BQ BR) I)) 0 [.aQ 2]),(KF J),.box (setAt (BI ((BQ Ad) L)) 0 [.aQ 4]),(Cb v2),.box (BI (Ad u))],0⟩
noncomputable def afY (j:(AA BM))(q:Bg BD)(u:(AA (AA BM)))(Y:Int)(Z:(AA (AA BM)))(v5:(AA BM))(v1:(AA BM))(v6:(AA Int))(v2:(AA Int))(z:(AA BM))(I:(AA Int))(J:Int)(L:(AA (AA BM)))(M:(AA BM))(O:(AA Int))(U:Int):BP:=⟨BA 16 [(0,.mp 6),(5,DY j),(6,AX (j.length:Int)),(7,AX J)],[.box (BI ((BQ (BQ BR)) L)),.box (setAt (BI ((BQ BR) M)) 0 [.aQ 7]),.dead,.box (setAt (BI ((BQ Ad) O)) 0 [.aQ 8]),.dead,.box (BI (Ad U)),.loop q (YA u Y j Z v5 v1 v6 v2).slots aS3 .ready none,(KF z),(Cb I)],7⟩
def aKd (U:Ba)(k7:(Ba->AU->Int->Fb->Ba->AU->AB (Ba×AU)))(v3:Int)(M:(Ba->AU->Int->Fb->Ba->AU->Int->AB (Ba×AU))):Ba->AU->Int->Fb->Ba->AU->Int->AB (Ba×AU):=λu z j q I J L=>(cond (j<(U.length:Int)) ((Aj U j).bind λO=>(aAx q O).bind λY=>(cond (!Y) ((DC 8 z [O.Id]).bind λZ=>M u Z (Az (j+1)) q I J L) (cond (L==0) ((DC 32 u [O]).bind λTB=>M TB z (Az (j+1)) q I J L) (M u z (Az (j+1)) q I J L)))) (k7 u z (Az (v3+1)) q I J))
def aRC (j:Ba)(q:(Ba->AU->Int->Fb->Ba->AU->AB (Ba×AU)))(u:Int):Ba->AU->Int->Fb->Ba->AU->Int->AB (Ba×AU):=adv (aKd j q u) Am
def aCq (j:Fb)(J:(Ba->AU->Int->Fb->Ba->AU->AB (Ba×AU))):Ba->AU->Int->Fb->Ba->AU->AB (Ba×AU):=λI v2 q L M O=>(cond (q<(j.length:Int)) ((Aj j q).bind λU=>(qR U).bind λu=>aRC u J q I v2 0 L M O q) ((Uc v2).bind λz=>some (I,z)))
def aVK (j:Fb):Ba->AU->Int->Fb->Ba->AU->AB (Ba×AU):=GR (aCq j) Am
def wO (j:Fb):AB (Ba×AU):=aVK j [] [] 0 j [] []
def aUT {cZ r}(h:wO cZ=some r):Dw 319 [Ie cZ] [] (.eG [.aQ 0,.aQ 1]) [(KF r.1),(Cb r.2)]:=ER func319 rfl<|AP 1<|.f (CY 82 3)<|.f (CY 3 1)<|.aU<|BO<|.f (a4k 82 3 Tq)<|.aU<|BO<|.f (a4k 3 1 nG)<|.aU<|AZ<|AP 1<|.Z (BJ (BQ BR) cZ)<|Ai<|Bh.GR (λu q U I z J=>⟨BA 38 [(1,.ptr 0 0),(4,.ptr 1 0),(5,.ptr 3 0),(9,Ie cZ),(10,AX (cZ.length:Int)),(11,AX U)],[.box (BI ((BQ (BQ BR)) I)),.box (setAt (BI ((BQ BR) z)) 0 [.aQ 2]),(KF u),.box (setAt (BI ((BQ Ad) J)) 0 [.aQ 4]),(Cb q)],0⟩) _ _ _ _ _ _ _ _ (Ae [AQ 0,AQ 4,AQ 3,AQ 6,AQ 5]) h<|λu q U I z J L M O h=>AY<|AZ<|Bl h (λh=>AZ<|Ai<|AO h λu q h=>AP 1<|.Z (BF (BQ BR) q)<|AO h λq j h=>AP 1<|.f (x:=.d (.fn (.func 288) [] [(.ref ((BQ BR) q).cells 0)])) (EL [] [DY u] (aMp j))<|.aU<|Ai<|DJ (S:=YA cZ J q L M I O z) (Ae [AQ 0,AQ 1,AQ 2,AQ 3,AQ 4,AQ 5])<|Bh.ape [(.ref ((BQ BR) q).cells 0)] A8 func288 aP6 rfl rfl λu=>AP 1<|.Z (BJ BR q)<|Ai<|Bh.adv (afY q u cZ J L M I O z) _ _ _ _ _ _ _ _ _ (Ae [AQ 0,AQ 1,(2,false),AQ 3,(4,false),AQ 5,AQ 6,AQ 2,AQ 4]) h<|λj Z Y x13 x14 x15 x16 x17 x18 x19 h=>AY<|AZ<|Bl h (λh=>AZ<|Ai<|AO h λU j h=>BO<|.Z (BF BR j)<|AP 2<|Dj.yield (tm:=u) (slots:=(YA cZ J q L M I O z).slots) (rc:=aS3) 6 [X3 U] rfl A8 A8 A8 A8 A8 A8<|DI<|⟨rfl,(YA cZ J q L M I O z).slots,A8,(Ai<|AO h λu j h=>AP 2<|.X (ahc j)<|DX h (λh=>AO h λu j h=>CS<|.a 3<|.p (Dx Df zero3 [Ad U.Id])<|.f (DZ (k:=8) Ad j Df A8 (λ_=>rfl) Bd)<|.aN<|⟨(YA cZ J q L M I O z).slots,(.ready,none),A8,rfl,(.aW<|MF A8<|Ew<|DI<|Y _ _ _ _ _ _ _ _ (Ae [AQ 0,AQ 1,(2,false),AQ 3,(4,false),AQ 5,AQ 6,AQ 7,AQ 11]) h)⟩) λh=>AY<|BG h (λh=>AO h λu j h=>CS<|.a 2<|.p (Dx LZ QM [BR U])<|.f (DZ (k:=7) BR j LZ A8 (λ_=>rfl) Bd)<|.aN<|⟨(YA cZ J q L M I O z).slots,(.ready,none),A8,rfl,(.aW<|MF A8<|Ew<|DI<|Y _ _ _ _ _ _ _ _ (Ae [AQ 0,AQ 1,(2,false),AQ 3,(4,false),AQ 5,AQ 6,AQ 11,AQ 8]) h)⟩) λh=>⟨(YA cZ J q L M I O z).slots,(.ready,none),A8,rfl,(.aW<|MF A8<|Ew<|DI<|Y _ _ _ _ _ _ _ _ (Ae [AQ 0,AQ 1,(2,false),AQ 3,(4,false),AQ 5,AQ 6,AQ 7,AQ 8]) h)⟩)⟩) λh=>Cj<|⟨.inl rfl,(YA cZ J q L M I O z).slots,(.ready,none),.normal,A8,rfl,(DI<|U _ _ _ _ _ _ _ (Ae [AQ 0,AQ 1,AQ 7,AQ 3,AQ 8]) h)⟩) λh=>Cj<|AO h λu q h=>a4O [0] (.a 2<|.f (JB (dY:=[.aQ 4]) (fE:=[.d (.sl (List.map Ad z))]) (Zd q) (λx u=>aDZ) aAE ⟨⟨3,1,List.map Ad z,A8,rfl⟩,trivial⟩ rfl)<|.a 2<|.nil _)<|by cases h;exact .ret (Ei [AQ 2,AQ 5])
def Za (j:Aa):AB AU:=some j.bJ
def ajd :=Dc func435 rfl Za DV Bf λj r h=>Ze
def a3f (j:(AU->AU->Int->(AA (Int×Int))->(AA (Int×AV))->(AA (Int×AV))->AB AU))(q:Int)(u:AU)(z:AU)(I:(AA (Int×Int)))(J:(AA (Int×AV)))(L:(AA (Int×AV))):AB AU:=j u z (Az (q+1)) I J L
def aLa (v3:AU)(M:Ag)(q:(Aa->AB AU))(k7:(AU->AU->(AA (Int×Int))->(AA (Int×AV))->(AA (Int×AV))->AB AU))(O:(AU->AU->Int->(AA (Int×Int))->(AA (Int×AV))->(AA (Int×AV))->AB AU)):AU->AU->Int->(AA (Int×Int))->(AA (Int×AV))->(AA (Int×AV))->AB AU:=λU L z u I J=>(cond (z<(v3.length:Int)) ((Aj v3 z).bind λj=>(cond (!((DF u j).isSome)) (some true) (some ((DF I j).getD false))).bind λY=>(cond Y (some true) (some ((DF J j).getD false))).bind λZ=>(cond Z (a3f O z U L u I J) ((DC 8 U [j]).bind λx29=>(Aj M ((DF u j).getD 0)).bind λx30=>(q x30).bind λx31=>(DC 8 L x31).bind λx32=>a3f O z x29 x32 u (Dy I j true) (Dy J j true)))) (k7 U L u I J))
def aRX (u:AU)(q:Ag)(j:(Aa->AB AU))(z:(AU->AU->(AA (Int×Int))->(AA (Int×AV))->(AA (Int×AV))->AB AU)):AU->AU->Int->(AA (Int×Int))->(AA (Int×AV))->(AA (Int×AV))->AB AU:=GR (aLa u q j z) Am
def aQp (q:Ag)(j:(Aa->AB AU))(I:(AU->AU->(AA (Int×Int))->(AA (Int×AV))->(AA (Int×AV))->AB AU)):AU->AU->(AA (Int×Int))->(AA (Int×AV))->(AA (Int×AV))->AB AU:=λv2 z J L M=>(cond ((z.length:Int)>0) (aRX z q j I v2 [] 0 J L []) ((Uc v2).bind λu=>some u))
def aQ6 (q:Ag)(j:(Aa->AB AU)):AU->AU->(AA (Int×Int))->(AA (Int×AV))->(AA (Int×AV))->AB AU:=DK (aQp q j) Am
def zO (u:Ag)(j:AU)(q:(Aa->AB AU)):AB AU:=(Zm u).bind λz=>aQ6 u q [] j z [] []
def amB (z:(AA Aa))(I:(AA Int))(q:(Aa->AB (AA Int)))(j:D)(L:S9 Ak BH (BQ Ad) j q)(r:(AA Int))(h:zO z I q=some r):Dw 434 [BK z,Bf I,.d j] [] (.aQ 0) [(Cb r)]:=ER func434 rfl<|BO<|.f (CY 3 1)<|.aU<|AO h λY u h=>AP 1<|.Y (x:=.mp 1) (EL [] [BK z] (yu u))<|BO<|.Y (x:=.mp 2) pW<|BO<|.Y (x:=.mp 3) pW<|BO<|.f (CY 3 1)<|.aU<|AY<|AZ<|Ai<|aAB (λY u M J Z=>⟨BA 70 [(0,BK z),(2,.d j),(7,.mp 0),(8,.mp 1),(9,.mp 2),(10,.aQ 3),(11,Bf u)],[.map (List.map (CQ D6 Ad) M),.map (List.map (CQ D6 Dt) J),.map (List.map (CQ D6 Dt) Z),(Cb Y)],0⟩) _ _ _ _ _ _ _ (Ae [AQ 1,AQ 2,AQ 3,AQ 4]) h<|λY u M J Z x6 x7 x8 h=>AZ<|AP 1<|.Z (BJ Ad Z)<|Bl h (λh=>Ai<|AP 1<|.f (ain (k:=2) (es0:=List.map (CQ D6 Dt) x8) Pq A8)<|.aU<|BO<|.f (CY 3 1)<|.aU<|AZ<|AP 1<|.Z (BJ Ad Z)<|Ai<|Bh.GR (λY u M J x6 x7=>⟨BA 70 [(0,BK z),(2,.d j),(7,.mp 0),(8,.mp 1),(9,.mp 2),(10,.aQ 3),(12,.aQ 4),(26,Bf Z),(27,AX (Z.length:Int)),(28,AX M)],[.map (List.map (CQ D6 Ad) J),.map (List.map (CQ D6 Dt) x6),.map (List.map (CQ D6 Dt) x7),(Cb Y),(Cb u)],0⟩) _ _ _ _ _ _ _ _ (Ae [AQ 0,AQ 1,AQ 2,AQ 3,AQ 4]) h<|λY u J x6 x7 x8 x9 O U h=>AY<|AZ<|Bl h (λh=>D9 (λs=>∃(v17:(AA Int)) (v18:(AA Int)) (v19:(AA (Int×Int))) (v20:(AA (Int×AV))) (v21:(AA (Int×AV))),CO s ⟨BA 70 [(0,BK z),(2,.d j),(7,.mp 0),(8,.mp 1),(9,.mp 2),(10,.aQ 3),(12,.aQ 4),(26,Bf Z),(27,AX (Z.length:Int)),(28,AX x8)],[.map (List.map (CQ D6 Ad) v19),.map (List.map (CQ D6 Dt) v20),.map (List.map (CQ D6 Dt) v21),(Cb v17),(Cb v18)],0⟩/\a3f u x8 v17 v18 v19 v20 v21=some r) (by rintro s ⟨v17,v18,v19,v20,v21,hs,h⟩;exact DJ hs<|DI<|J _ _ _ _ _ _ _ (Ae [AQ 0,AQ 1,AQ 2,AQ 3,AQ 4]) h)<|λY=>Ai<|AO h λu M h=>BO<|.Z (BF Ad M)<|AP 2<|.Z (x:=.eG [AX ((DF x9 u).getD 0),Af ((DF x9 u).isSome)]) (mM (k:=0) (key:=u) (m:=x9) Ad 0 OV Gq zero3 A8 A8 A8)<|AZ<|AP 2<|AO h λM J h=>.mg 40 4 (Af M) (.bi J (k2:=λh=>.a 2<|.Z (x:=(Af ((DF O u).getD false))) (gU (k:=1) (key:=u) (m:=O) Dt false Pq Gq tV A8 A8 A8)<|Ce))<|.a 1<|AO h λM J h=>.mg 46 3 (Af M) (Cc J (k2:=λe i=>by subst e;have h:=i;exact .a 2<|.Z (x:=(Af ((DF U u).getD false))) (gU (k:=2) (key:=u) (m:=U) Dt false Pq Gq tV A8 A8 A8)<|Ce))<|.aU<|BG h (λh=>Cj<|Y _ ⟨x6,x7,x9,O,U,Ae [AQ 0,AQ 1,AQ 2,AQ 3,AQ 4],h⟩) λh=>AP 2<|.f (WT (k:=2) (key:=u) (val:=true) (m:=U) Dt Pq Gq A8)<|.aU<|AP 2<|.f (WT (k:=1) (key:=u) (val:=true) (m:=O) Dt Pq Gq A8)<|.aU<|AO h λM J h=>AP 2<|.p (Dx Df zero3 [Ad u])<|.Y (DZ (k:=3) Ad J Df A8 (λ_=>rfl) Bd)<|Gt h λJ Z x6 x7 x8 x12 h=>CS<|.a 4<|.p (BF BH Z)<|.a 1<|.p (rU (d:=j) (L:S9 Ak BH (BQ Ad) j q) x7)<|.f (DZ (k:=4) Ad x12 Df A8 (λ_=>rfl) Bd)<|.aN<|Y _ ⟨M,x8,x9,(Dy O u true),(Dy U u true),Ae [AQ 0,AQ 1,AQ 2,AQ 5,AQ 6],h⟩) λh=>Cj<|DI<|M _ x6 x7 x9 O U (acJ _ ((IQ (e:=3) (s:=1) 4 (xs:=List.map Ad x7) A8)) (Ae [AQ 0,AQ 1,AQ 2,AQ 3])) h) λh=>Cj<|AO h λY u h=>AP 1<|.Y (JB (dY:=[.aQ 3]) (fE:=[.d (.sl (List.map Ad J))]) (Zd u) (λx Y=>by obtain⟨a,_,rfl⟩:=Hl.1 Y;rfl) aAE ⟨⟨3,1,List.map Ad J,A8,rfl⟩,trivial⟩ rfl)<|aAY
def a2j (j:(AU->Int->AB AU))(q:Int)(u:AU):AB AU:=j u (Az (q+1))
def aGu (j:AU)(L:(AA (Int×Int)))(q:Ag)(M:(AU->Int->AB AU)):AU->Int->AB AU:=λv2 u=>(bif u<(j.length:Int) then(Aj j u).bind λO=>(cond ((DF L O).isSome) ((Aj q ((DF L O).getD 0)).bind λz=>(DC 8 v2 z.bJ).bind λI=>a2j M u I) (a2j M u v2))else(zO q v2 (λa0=>Za a0)).bind λJ=>some J)
def aMh (j:AU)(u:(AA (Int×Int)))(q:Ag):AU->Int->AB AU:=aP (aGu j u q) Am
def YF (q:Ag)(j:AU):AB AU:=(Zm q).bind λu=>aMh j u q [] 0
def aHE :=G8 func396 rfl YF BK Bf Cb λq j r h=>BO<|.f (CY 3 1)<|.aU<|AO h λu I h=>AP 1<|.Y (x:=.mp 1) (EL [] [BK q] (yu I))<|BO<|.f (CY 3 1)<|.aU<|AZ<|AP 1<|.Z (BJ Ad j)<|Ai<|DW (λI z=>⟨BA 37 [(0,BK q),(5,.mp 0),(6,.aQ 1),(13,Bf j),(14,AX (j.length:Int)),(15,AX z)],[.map (List.map (CQ D6 Ad) u),(Cb I)],0⟩) _ _ _ _ (Ae [AQ 1,AQ 2]) h<|λI z L J O h=>AY<|AZ<|Bl h (λh=>D9 (λs=>∃(M:(AA Int)),CO s ⟨BA 37 [(0,BK q),(5,.mp 0),(6,.aQ 1),(13,Bf j),(14,AX (j.length:Int)),(15,AX O)],[.map (List.map (CQ D6 Ad) u),(Cb M)],0⟩/\a2j z O M=some r) (by rintro s ⟨M,hs,h⟩;exact DJ hs<|DI<|L _ _ _ (Ae [AQ 0,AQ 1]) h)<|λI=>Ai<|AO h λz L h=>BO<|.Z (BF Ad L)<|AP 2<|.Z (x:=.eG [AX ((DF u z).getD 0),Af ((DF u z).isSome)]) (mM (k:=0) (key:=z) (m:=u) Ad 0 OV Gq zero3 A8 A8 A8)<|AY<|BG h (λh=>Bo h λu z L J h=>CS<|.a 3<|.p (BF BH z)<|.a 2<|.f (DZ (k:=1) Ad J Df A8 (λ_=>rfl) Bd)<|.aN<|I _ ⟨L,Ae [AQ 0,AQ 2],h⟩) λh=>I _ ⟨J,Ae [AQ 0,AQ 1],h⟩) λh=>Cj<|AO h λu I h=>AP 2<|.Y (JB (dY:=[BK q,.aQ 1,.d (.fn (.func 435) [] [])]) (fE:=[BK q,.d (.sl (List.map Ad J)),.d (.fn (.func 435) [] [])]) (amB q J (λu=>Za u) (.fn (.func 435) [] []) ⟨435,[],rfl,ad9,λu I z=>ajd z⟩ u I) (λx u=>aDZ) ahU ⟨rfl,⟨3,1,List.map Ad J,A8,rfl⟩,rfl,trivial⟩ rfl)<|KH
def aKB (j:Ba)(q:Ag)(J:(AU->Int->AB AU)):AU->Int->AB AU:=λv2 u=>(bif u<(j.length:Int) then(Aj j u).bind λL=>(DC 8 v2 [L.Id]).bind λM=>J M (Az (u+1))else(YF q v2).bind λO=>(DC 8 v2 O).bind λU=>(Oc U).bind λz=>(XZ z).bind λI=>some I)
def aPf (j:Ba)(q:Ag):AU->Int->AB AU:=aP (aKB j q) Am
def a1b (q:Ag)(j:Ba):AB AU:=(Ir 8 0 0 (j.length:Int)).bind λu=>aPf j q u 0
def aZw :=G8 func433 rfl a1b BK DY Cb λu j r h=>BO<|.f (CY 3 1)<|.aU<|AO h λz q h=>AP 1<|.p (BJ BR j)<|.Y (YO Ad 0 q Df zero3 A8 A8 A8 Bd)<|AZ<|AP 1<|.Z (BJ BR j)<|Ai<|DW (λz q=>⟨BA 38 [(0,BK u),(5,.aQ 0),(12,DY j),(13,AX (j.length:Int)),(14,AX q)],[(Cb z)],0⟩) _ _ _ _ (Ae [AQ 1]) h<|λz q J I L h=>AY<|AZ<|Bl h (λh=>AZ<|Ai<|AO h λz q h=>BO<|.Z (BF BR q)<|AO h λq I h=>CS<|.a 3<|.p (Dx Df zero3 [Ad z.Id])<|.f (DZ (k:=0) Ad I Df A8 (λ_=>rfl) Bd)<|.aN<|DI<|J _ _ _ (Ae [AQ 2]) h) λh=>Cj<|Bo h λz q J L h=>El A8 A8 A8 (.a 2<|.p (Jq (k:=0) (e':=3) (s:=1) Ad I A8 Ij)<|.a 1<|.p (Jq (k:=0) (e':=3) (s:=1) Ad I A8 Ij)<|.p (aSJ (e':=3) (s:=1) (k:=0) (xs:=List.map Ad I) (h:=(I.length:Int)) (by rw[Di]) A8 Ij Em rfl)<|.a 2<|.p (aA8 (dY:=[BK u,.aQ 0]) (fE:=[BK u,.d (.sl (List.map Ad I))]) (aHE q) (λx z=>by obtain⟨a,_,rfl⟩:=Hl.1 z;rfl) aPm ⟨rfl,⟨3,1,List.map Ad I,A8,rfl⟩,trivial⟩ rfl)<|.f (aW4 (k:=0) Ad L Df A8 (λ_=>rfl) Bd)<|.a 1<|.nil _)<|AO h λz q h=>AP 1<|.f (x:=.eG []) (EL [.ent 1] [.aQ 1] (zJ J z q))<|.aU<|AO h λq J h=>AP 1<|.Y (x:=.aQ 2) (EL [.ent 1] [.aQ 1] (aDq z q J))<|KH
def a1x (z:AU)(k3:(Int->(AA (Int×Int))->AB AU))(I:Int)(J:(Int->(AA (Int×Int))->AB AU)):Int->(AA (Int×Int))->AB AU:=λq u=>(cond (q<(z.length:Int)) ((Aj z q).bind λj=>J (Az (q+1)) (Dy u j (Az (((DF u j).getD 0)+1)))) (k3 (Az (I+1)) u))
def aSr (j:AU)(k3:(Int->(AA (Int×Int))->AB AU))(q:Int):Int->(AA (Int×Int))->AB AU:=aP (a1x j k3 q) Am
def WR (j:Fb)(q:AU)(u:(Int×Int)):AB AU:=(cond (u.2<(j.length:Int)) ((DC 8 q [u.1]).bind λz=>some z) (some q))
def pq (j:AU):AB AU:=(Oc j).bind λq=>some q
def a6K (j:Fb)(q:Ag)(k3:(Int->(AA (Int×Int))->AB AU)):Int->(AA (Int×Int))->AB AU:=λu v2=>(cond (u<(j.length:Int)) ((Aj j u).bind λI=>(a1b q I).bind λJ=>aSr J k3 u 0 v2) ((Ir 8 0 0 (v2.length:Int)).bind λz=>(List.foldlM (WR j) z v2).bind pq))
def aS2 (j:Fb)(q:Ag):Int->(AA (Int×Int))->AB AU:=aP (a6K j q) Am
def a0p (q:Ag)(j:Fb):AB AU:=aS2 j q 0 []
def aeg {cZ wS r}(h:a0p cZ wS=some r):Dw 394 [BK cZ,Ie wS] [] (.aQ 0) [(Cb r)]:=by
 refine ER func394 rfl ?_;unfold a0p at h;refine BO<|.f (CY 3 1)<|.aU<|BO<|.Y (x:=.mp 1) pW<|AZ<|AP 1<|.Z (BJ (BQ BR) wS)<|Ai ?_;refine DW (λv1 v2=>⟨BA 55 [(0,BK cZ),(1,Ie wS),(5,.mp 0),(14,Ie wS),(15,AX (wS.length:Int)),(16,AX v1)],[.map (List.map (CQ D6 Ad) v2)],0⟩) _ _ _ _ (Ae [AQ 1]) h ?_;clear h;intro J22 k3 hk3 v1 v2 h;unfold a6K at h;refine AY<|AZ<|DX h (λh=>?_) λh=>?_
 ·refine Ew<|AZ<|Ai ?_;obtain⟨x5,hx5,h⟩:=Dn h;refine BO<|.p (BF (BQ BR) hx5)<|.aM 2 ?_;obtain⟨x6,hx6,h⟩:=Dn h;refine AP 2<|.ca (aZw hx6).view<|.Z (BJ Ad x6)<|Ai ?_;refine DW (λv7 L=>⟨BA 55 [(0,BK cZ),(1,Ie wS),(5,.mp 0),(14,Ie wS),(15,AX (wS.length:Int)),(16,AX v1),(22,Bf x6),(23,AX (x6.length:Int)),(24,AX v7)],[.map (List.map (CQ D6 Ad) L)],0⟩) _ _ _ _ (Ae [AQ 0]) h ?_;clear h;intro J12 k9 hk9 v7 L h;unfold a1x at h;refine AY<|AZ<|DX h (λh=>?_) λh=>?_
  ·refine Ew<|AZ<|Ai ?_;obtain⟨q,M,h⟩:=Dn h;refine BO<|.Z (BF Ad M)<|CS<|.a 2<|.p (x:=(AX ((DF L q).getD 0))) (gU (k:=0) (key:=q) (m:=L) Ad 0 OV Gq zero3 A8 A8 A8)<|.a 1<|.f (WT (k:=0) (key:=q) (val:=(Az (((DF L q).getD 0)+1))) (m:=L) Ad OV Gq A8)<|.nil<|CS<|.a 2<|.nil ?_;exact hk9 _ _ _ (Ae [AQ 0]) h
  refine Cj<|CS<|.a 2<|.nil ?_;exact hk3 _ _ _ (Ae [AQ 0]) h
 refine Cj ?_;obtain⟨x13,O,h⟩:=Dn h;refine AP 1<|.p (x:=(AX (v2.length:Int))) (aSG (k:=0) (es0:=List.map (CQ D6 Ad) v2) (Di ..) OV A8)<|.Y (YO Ad 0 O Df zero3 A8 A8 A8 Bd)<|AZ<|AP 1<|.f (x:=.ptr 2 0) (aMS (k:=0) (m:=List.map (CQ D6 Ad) v2) OV A8)<|.aU<|Ai<|Bh.azB (λj z=>⟨BA 55 [(1,Ie wS),(10,.aQ 0),(38,.ptr 1 0)],[(Cb z),.iter (List.map (CQ D6 Ad) v2) j],0⟩) v2 (WR wS) pq r x13 (Ae [AQ 1,AQ 2]) ?_ ?_
 ·intro vis hnd hin;exact aLy (aT3 _ vis hnd hin) (λx y hxy=>by unfold pq;rw[aR4 hxy]) h
 clear h;intro J j z U I;refine BO<|?_;refine Dj.next (ty:=false) (ek:=D6) (ev:=Ad) 1 v2 j A8 rfl A8 A8 ?_ ?_
 ·intro hc;have h:=U hc;unfold pq at h;refine .aW<|AZ<|MF A8<|Cj ?_;obtain⟨x18,Y,h⟩:=Dn h;refine AP 1<|.f (x:=.eG []) (EL [.ent 0] [.aQ 0] (zJ z x18 Y))<|.aU<|BO<|.aM 2 ?_;rw[←CP h];exact .ret (Ei [AQ 0])
 intro Z u hp hi;obtain⟨r,h,hJ⟩:=I Z u hp hi;unfold WR at h;refine .aW<|AZ<|Nc A8<|Ew<|Ai<|BO<|.Z (x:=.eG [AX u.1,AX u.2]) (aPs (n:=1) (i:=Z) (ek:=D6) (ev:=Ad) (m:=v2) (vis:=j) hp A8)<|AP 2<|.Z (BJ (BQ BR) wS)<|DX h (λh=>?_) λh=>?_
 ·obtain⟨x20,av6,h⟩:=Dn h;refine CS<|.a 2<|.p (Dx Df zero3 [Ad u.1])<|.f (DZ (k:=0) Ad av6 Df A8 (λ_=>rfl) Bd)<|.a 1<|.nil ?_;obtain rfl:=CP h;exact hJ _ (Ae [AQ 2,AQ 1])
 refine Ew ?_;obtain rfl:=CP h;exact hJ _ (Ae [AQ 0,AQ 1])
def a6A (q:Ag)(j:Fb):AB AU:=(wO j).bind λu=>(a0p q j).bind λz=>(DC 8 u.2 z).bind λI=>(Oc I).bind λJ=>(XZ J).bind λL=>some L
def adX :=G8 func320 rfl a6A BK Ie Cb λI j r h=>BO<|.f (CY 3 1)<|.aU<|AO h λq u h=>AP 1<|.f (x:=.eG [.aQ 1,.aQ 2]) (EL [] [Ie j] (aUT u))<|.a 2<|.conv _ (IQ (e:=82) (s:=3) 1 (xs:=List.map BR q.1) A8)<|.aW<|Bo h λu z J L h=>El A8 A8 A8 (.a 2<|.p (Jq (k:=2) (e':=3) (s:=1) Ad q.2 A8 Ij)<|.a 1<|.p (Jq (k:=2) (e':=3) (s:=1) Ad q.2 A8 Ij)<|.p (aSJ (e':=3) (s:=1) (k:=2) (xs:=List.map Ad q.2) (h:=(q.2.length:Int)) (by rw[Di]) A8 Ij Em rfl)<|.a 2<|.ca (aeg z).view<|.f (aW4 (k:=2) Ad L Df A8 (λ_=>rfl) Bd)<|.a 1<|.nil _)<|AO h λq u h=>AP 1<|.f (x:=.eG []) (EL [.ent 3] [.aQ 3] (zJ J q u))<|.aU<|AO h λu z h=>AP 1<|.Y (x:=.aQ 4) (EL [.ent 3] [.aQ 3] (aDq q u z))<|aAY
def a4F (j:Aa)(q:AV):AB AV:=(cond q (some true) (cond (j.Kind==2) ((cond (j.Content.N==0) (some true) (some (j.Content.N==4))).bind λu=>(cond u (some (!(j.Key.toList==j.bQ.toList))) (some false)).bind λz=>some z) (some false)))
def a2J (j:Aa):AB AV:=(cond (j.Kind==3) (a4F j (j.Kind==3)) (a4F j (j.Kind==4)))
def ajQ :=Dc func395 rfl a2J DV Af λj r h=>AY<|AZ<|AY<|Ai<|D9 (λs=>∃(u:AV),CO s ⟨BA 27 [(1,.ptr 0 0),(4,AX j.Kind),(5,Af u)],[.box (BI (BH j))],0⟩/\a4F j u=some r) (by rintro s ⟨u,hs,h⟩;exact DJ hs<|DX h Bv λh=>AY<|BG h (λh=>AP 4<|AO h λq z h=>.mg 14 5 (Af q) (.bi z)<|.a 1<|AO h λq z h=>.mg 21 5 (Af q) (Cc z)<|.aW<|CW) λh=>AY<|CW)<|λq=>AY<|Bl h (λh=>q _ ⟨(j.Kind==3),Ae [AQ 0],h⟩) λh=>DI<|q _ ⟨(j.Kind==4),Ae [AQ 0],h⟩
def aD6 (j:AU)(q:Int)(k2:(Int->AB Int)):Int->AB Int:=λu=>(cond (u<(j.length:Int)) ((Aj j u).bind λz=>(cond (q==z) (some u) (k2 (Az (u+1))))) (some (-1)))
def aOY (j:AU)(q:Int):Int->AB Int:=bf (aD6 j q) Am
def yN (j:AU)(q:Int):AB Int:=aOY j q 0
def aO9 :=DR func452 rfl yN Bf AX AX λj q r h=>AY<|AZ<|AP 1<|.Z (BJ Ad j)<|Ai<|Dk (λu=>⟨BA 19 [(0,Bf j),(1,AX q),(7,AX (j.length:Int)),(8,AX u)],[],0⟩) _ _ _ (Ae []) h<|λu z I J h=>AY<|AZ<|Bl h (λh=>AZ<|Ai<|AY<|AO h λu z h=>AP 3<|.p (BF Ad z)<|vO) λh=>EX
def oq (j:AU)(q:Int):AB AV:=(yN j q).bind λu=>some (decide (u>=0))
def aH9 :=DR func436 rfl oq Bf AX Af λj q r h=>AY<|AO h λz u h=>AP 2<|.X (aO9 u)<|CW
def qC (j:AU)(q:Int):AB AV:=(oq j q).bind λu=>some u
def aNp :=DR func397 rfl qC Bf AX Af λj q r h=>AY<|AO h λz u h=>AP 2<|.X (aH9 u)<|CW
def a6s (k3:(AU->Int->AB AU))(v2:Int)(j:AU):AB AU:=k3 j (Az (v2+1))
def a6J (j:(AU->Int->AB AU))(q:Int)(u:AU):AB AU:=j u (Az (q+1))
def aJK (j:AU)(J:AU)(z:(AU->Int->AB AU)):AU->Int->AB AU:=λu q=>(bif q<(j.length:Int) then(Aj j q).bind λI=>(qC J I).bind λL=>(cond L ((DC 8 u [I]).bind λM=>a6J z q M) (a6J z q u))else(Uc u).bind λO=>some O)
def aFd (j:AU)(q:AU):AU->Int->AB AU:=aP (aJK j q) Am
def aLl (j:AU)(q:Ag)(k3:(AU->Int->AB AU)):AU->Int->AB AU:=λu v2=>(bif v2<(j.length:Int) then(Aj j v2).bind λL=>(L6 q L).bind λM=>(cond M.2 ((a2J M.1).bind λz=>some z) (some false)).bind λO=>(cond O ((DC 8 u [L]).bind λI=>a6s k3 v2 I) (a6s k3 v2 u))else(YF q u).bind λJ=>aFd j J u 0)
def aTI (j:AU)(q:Ag):AU->Int->AB AU:=aP (aLl j q) Am
def a1E (q:Ag)(j:AU):AB AU:=aTI j q [] 0
def aj6 :=G8 func321 rfl a1E BK Bf Cb λu j r h=>BO<|.f (CY 3 1)<|.aU<|BO<|.f (CY 3 1)<|.aU<|AZ<|AP 1<|.Z (BJ Ad j)<|Ai<|DW (λz q=>⟨BA 54 [(0,BK u),(1,Bf j),(5,.aQ 0),(13,Bf j),(14,AX (j.length:Int)),(15,AX q)],[(Cb z)],0⟩) _ _ _ _ (Ae [AQ 1]) h<|λz q I J L h=>AY<|AZ<|Bl h (λh=>D9 (λs=>∃(U:(AA Int)),CO s ⟨BA 54 [(0,BK u),(1,Bf j),(5,.aQ 0),(13,Bf j),(14,AX (j.length:Int)),(15,AX L)],[(Cb U)],0⟩/\a6s q L U=some r) (by rintro s ⟨U,hs,h⟩;exact DJ hs<|Sl)<|λz=>Ai<|AO h λq I h=>BO<|.Z (BF Ad I)<|AO h λI L h=>AP 2<|.X (ND L)<|AP 1<|AO h λL O h=>.mg 26 3 (Af L) (.bi O (λh=>AO h λz q h=>.a 1<|.X (ajQ q)<|Ce))<|.aU<|BG h (λh=>AO h λI J h=>CS<|.a 2<|.p (Dx Df zero3 [Ad q])<|.f (DZ (k:=0) Ad J Df A8 (λ_=>rfl) Bd)<|.aN<|z _ ⟨I,Ae [AQ 2],h⟩) λh=>z _ ⟨J,Ae [AQ 0],h⟩) λh=>Cj<|AO h λz q h=>AP 2<|.Z (aA8 (dY:=[BK u,.aQ 0]) (fE:=[BK u,.d (.sl (List.map Ad J))]) (aHE q) (λz q=>Na) aPm ⟨rfl,⟨3,1,List.map Ad J,A8,rfl⟩,trivial⟩ rfl)<|AZ<|AP 1<|.Z (BJ Ad j)<|Ai<|DW (λq I=>⟨BA 54 [(5,.aQ 0),(10,Bf z),(38,Bf j),(39,AX (j.length:Int)),(40,AX I)],[(Cb q)],0⟩) _ _ _ _ (Ae [AQ 0]) h<|λq I J L O h=>AY<|AZ<|Bl h (λh=>D9 (λs=>∃(M:(AA Int)),CO s ⟨BA 54 [(5,.aQ 0),(10,Bf z),(38,Bf j),(39,AX (j.length:Int)),(40,AX O)],[(Cb M)],0⟩/\a6J I O M=some r) (by rintro s ⟨M,hs,h⟩;exact DJ hs<|kn)<|λq=>Ai<|AO h λI J h=>BO<|.Z (BF Ad J)<|AO h λJ O h=>AP 2<|.ca (aNp O)<|.aU<|BG h (λh=>AO h λz J h=>CS<|.a 2<|.p (Dx Df zero3 [Ad I])<|.f (DZ (k:=0) Ad J Df A8 (λ_=>rfl) Bd)<|.aN<|q _ ⟨z,Ae [AQ 1],h⟩) λh=>q _ ⟨L,Ae [AQ 0],h⟩) λh=>Cj<|AO h λz q h=>AP 1<|.Y (JB (dY:=[.aQ 0]) (fE:=[.d (.sl (List.map Ad L))]) (Zd q) (λz q=>Na) aAE ⟨⟨3,1,List.map Ad L,A8,rfl⟩,trivial⟩ rfl)<|JL
def a4D (j:Ba):AB Ba:=(DC 32 [] j).bind λq=>some q
def aZy {ng r}(h:a4D ng=some r):Dw 437 [DY ng] [] (.aQ 0) [(KF r)]:=by
 refine ER func437 rfl ?_;unfold a4D at h;refine BO<|.f (CY 82 3)<|.aU<|AZ<|jL (x:=.tmp 3) (t':=41) (d:=4) (es:=List.map BR ng) 1 rfl (.a 1<|.nil _) A8 A8 A8 oV A8 ?_;intro b j;cases b
 ·clear j;refine MF A8<|Ew ?_;obtain⟨u,q,h⟩:=Dn h;refine BO<|.f (GY LZ QM [])<|.a 1<|.f (DZ (k:=1) BR q LZ A8 (λ_=>rfl) Bd)<|.aM 1 ?_;rw[←CP h];exact .ret (Ei [AQ 2])
 replace j:=lR j;replace h:some []=some r:=jc
 refine Nc A8<|BO<|.f (CY 82 3)<|.aU ?_;rw[←CP h];exact .ret (Ei [AQ 1])
def a3N (j:(Ag->Int->AB Ag))(q:Int)(u:Ag):AB Ag:=j u (Az (q+1))
def aFs (j:AU)(q:Ag)(I:(Ag->Int->AB Ag)):Ag->Int->AB Ag:=λv2 u=>(cond (u<(j.length:Int)) ((Aj j u).bind λL=>(L6 q L).bind λJ=>(cond J.2 ((DC 376 v2 [J.1]).bind λz=>a3N I u z) (a3N I u v2))) (some v2))
def aVn (j:AU)(q:Ag):Ag->Int->AB Ag:=aP (aFs j q) Am
def a0u (q:Ag)(j:AU):AB Ag:=(Ir 376 FU 0 (j.length:Int)).bind λu=>aVn j q u 0
def alN :=G8 func457 rfl a0u BK Bf FV λq j r h=>BO<|.f (CY 38 29)<|.aU<|AO h λz u h=>AP 1<|.p (BJ Ad j)<|.Y (YO BH FU u J7 Nz A8 A8 A8 Bd)<|AZ<|AP 1<|.Z (BJ Ad j)<|Ai<|DW (λz u=>⟨BA 32 [(0,BK q),(5,.aQ 0),(13,Bf j),(14,AX (j.length:Int)),(15,AX u)],[(FV z)],0⟩) _ _ _ _ (Ae [AQ 1]) h<|λz u I L J h=>AY<|AZ<|Bl h (λh=>D9 (λs=>∃(M:(AA Aa)),CO s ⟨BA 32 [(0,BK q),(5,.aQ 0),(13,Bf j),(14,AX (j.length:Int)),(15,AX J)],[(FV M)],0⟩/\a3N u J M=some r) aM0<|λz=>Ai<|AO h λu I h=>BO<|.Z (BF Ad I)<|AO h λI J h=>AP 2<|.X (ND J)<|AY<|BG h (λh=>AO h λu L h=>CS<|.a 2<|.p (Dx J7 Nz [BH I.1])<|.f (DZ (k:=0) BH L J7 A8 (λ_=>rfl) Bd)<|aLD) λh=>z _ ⟨L,Ae [AQ 0],h⟩) λh=>IW
def aAR (j:Ba)(q:Ba)(u:Int):AB Ba:=(Hq j u ((j).length)).bind λz=>(DC 32 q z).bind λI=>some I
def Ro (j:Ba)(u:Int)(q:BL)(z:Int):AB Ba:=(a0l j u q).bind λI=>(Hq j 0 I.1).bind λL=>(DC 32 [] L).bind λM=>(DC 32 M [(⟨u,q,z⟩:BM)]).bind λJ=>(cond I.2 (aAR j J (Az (I.1+1))) (aAR j J I.1))
def ZH {ng QW BZ Xj r}(h:Ro ng QW BZ Xj=some r):Dw 261 [DY ng,AX QW,D5 BZ,AX Xj] [] (.aQ 0) [(KF r)]:=ER func261 rfl<|BO<|.f (CY 82 3)<|.aU<|AO h λu j h=>AP 3<|.X (aUU j)<|Bo h λj q J L h=>BO<|.f (GY LZ QM [])<|.a 2<|.p (Qq BR q (λ_=>rfl) Rf oV QV (λ_=>rfl) rfl)<|.Y (DZ (k:=1) BR L LZ A8 (λ_=>rfl) Bd)<|AO h λj q h=>AP 5<|.p (Dx LZ QM [BR (⟨QW,BZ,Xj⟩:BM)])<|.Y (DZ (k:=2) BR q LZ A8 (λ_=>rfl) Bd)<|D9 (λs=>∃(I:Int),CO s ⟨BA 39 [(0,DY ng),(9,AX I),(11,.aQ 0)],[(KF j)],0⟩/\aAR ng j I=some r) (by rintro s ⟨I,hs,h⟩;exact DJ hs<|Bo h λu j q J h=>AP 3<|.p (Qq BR j Rf (λ_=>rfl) oV QV (λ_=>rfl) rfl)<|.Y (DZ (k:=0) BR J LZ A8 (λ_=>rfl) Bd)<|JL)<|λj=>AY<|BG h (λh=>DI<|j _ ⟨(Az (u.1+1)),Ae [AQ 3],h⟩) λh=>j _ ⟨u.1,Ae [AQ 3],h⟩
def l9 (j:Ba):AB Ba:=some j
def vM (j:Aa):AB Ba:=(cond (j.Kind==1) (some []) ((Ro [] 1 Ci 0).bind λJ=>(Ro J 3 Ci 0).bind λL=>(Ro L 2 j.bQ 0).bind λz=>(cond (j.Kind==2) ((Ro z 2 j.Key 0).bind λI=>(cond (j.Content.N==3) (some true) (some (j.Content.N==1))).bind λM=>(cond M (some true) (some (j.Content.N==2))).bind λq=>(cond q ((Ro I 4 Ci 0).bind λu=>l9 u) (l9 I))) (l9 z))))
def aPD :=Jv func441 rfl vM DV KF λu r h=>AP 1<|.f (CY 82 3)<|.aU<|AZ<|AY<|BG h (λh=>BO<|.f (CY 82 3)<|.aU<|KH) λh=>BO<|.f (CY 82 3)<|.aU<|AO h λq j h=>AP 1<|.Y (JB (dY:=[.aQ 2,AX 1,D5 Ci,AX 0]) (fE:=[.d (.sl (List.map BR [])),AX 1,D5 Ci,AX 0]) (ZH j) (λq j=>YX) uK ⟨⟨82,3,List.map BR [],A8,rfl⟩,rfl,rfl,rfl,trivial⟩ rfl)<|AO h λj z h=>AP 1<|.Y (JB (dY:=[.aQ 3,AX 3,D5 Ci,AX 0]) (fE:=[.d (.sl (List.map BR q)),AX 3,D5 Ci,AX 0]) (ZH z) (λq j=>YX) uK ⟨⟨82,3,List.map BR q,A8,rfl⟩,rfl,rfl,rfl,trivial⟩ rfl)<|AO h λq z h=>AP 3<|.Y (JB (dY:=[.aQ 4,AX 2,D5 u.bQ,AX 0]) (fE:=[.d (.sl (List.map BR j)),AX 2,D5 u.bQ,AX 0]) (ZH z) (λq j=>YX) uK ⟨⟨82,3,List.map BR j,A8,rfl⟩,rfl,rfl,rfl,trivial⟩ rfl)<|D9 (λs=>∃(J:(AA BM)),CO s ⟨BA 39 [(3,.aQ 0)],[(KF J)],0⟩/\l9 J=some r) aJz<|λj=>AY<|BG h (λh=>AO h λz I h=>AP 3<|.Y (JB (dY:=[.aQ 5,AX 2,D5 u.Key,AX 0]) (fE:=[.d (.sl (List.map BR q)),AX 2,D5 u.Key,AX 0]) (ZH I) (λq j=>YX) uK ⟨⟨82,3,List.map BR q,A8,rfl⟩,rfl,rfl,rfl,trivial⟩ rfl)<|AY<|AP 2<|AO h λq I h=>.mg 28 3 (Af q) (.bi I)<|.a 1<|AO h λq I h=>.mg 33 2 (Af q) (Cc I)<|.aU<|BG h (λh=>AO h λq I h=>CS<|.a 1<|.f (JB (dY:=[.aQ 6,AX 4,D5 Ci,AX 0]) (fE:=[.d (.sl (List.map BR z)),AX 4,D5 Ci,AX 0]) (ZH I) (λq j=>YX) uK ⟨⟨82,3,List.map BR z,A8,rfl⟩,rfl,rfl,rfl,trivial⟩ rfl)<|.aN<|j _ ⟨q,Ae [AQ 7],h⟩) λh=>j _ ⟨z,Ae [AQ 6],h⟩) λh=>j _ ⟨q,Ae [AQ 5],h⟩
def a0J (j:Aa)(q:BM):AB AV:=(cond (j.Kind==q.Kind) (some (j.Key.toList==q.Key.toList)) (some false)).bind λu=>some u
def amJ :=DR func459 rfl a0J DV (λj=>.d (.ref (BR j).cells 0)) Af λq j r h=>AY<|AP 5<|AO h λu z h=>.mg 9 6 (Af u) (.bi z)<|.aW<|CW
def a6g (q:Ag)(j:BM):AB (Aa×AV):=(Uy q (λa0=>a0J a0 j)).bind λu=>(cond (u<0) (some (FU,false)) ((Aj q u).bind λz=>some (z,true)))
def aeI :=DR func458 rfl a6g BK X3 (λr=>.eG [DV r.1,Af r.2]) λu j r h=>AY<|AO h λq z h=>AP 1<|.conv _ (Qv (cs:=BI (BR j)) 0 A8 A8)<|.p (x:=.d (.fn (.func 459) [] [(.ref (BR j).cells 0)])) (Oq [(.ref (BR j).cells 0)] rfl)<|.X (Agr u (λq=>a0J q j) (.fn (.func 459) [] [(.ref (BR j).cells 0)]) ⟨459,[(.ref (BR j).cells 0)],rfl,abO,λq z J=>amJ J⟩ q z)<|AZ<|AY<|BG h (λh=>AY<|Ep<|by rw[←CP h];exact⟨[DV FU,Af false],[],⟨⟨1,BI (BH FU),true,29,A8,A8,A8,Gx,Dl A8,Lc,A8⟩,G7 A8,trivial⟩,A8,A8,A8⟩) λh=>AO h λq z h=>AP 2<|.Z (BF BH z)<|Ep<|by rw[←CP h];exact⟨[DV q,Af true],[],⟨⟨1,BI (BH q),true,29,A8,A8,A8,Gx,Dl A8,Lc,A8⟩,G7 A8,trivial⟩,A8,A8,A8⟩
def aB9 (j:(Ag->Int->AB Ag))(q:Int)(u:Ag):AB Ag:=j u (Az (q+1))
def aBn (I:(Ag->Int->AB Ag))(J:Int)(q:AV)(j:Ag)(u:Aa):AB Ag:=(cond q ((DC 376 j [u]).bind λz=>aB9 I J z) (aB9 I J j))
def aDM (O:Ba)(Y:Ag)(q:Ba)(u:Ag)(U:(Ag->Int->AB Ag)):Ag->Int->AB Ag:=λM L=>(cond (L<(O.length:Int)) ((Aj O L).bind λj=>(a6g Y j).bind λz=>(nZ q j.Kind j.Key).bind λI=>(cond I.2 ((L6 u I.1).bind λJ=>aBn U L J.2 M J.1) (aBn U L z.2 M z.1))) (some M))
def aRx (u:Ba)(z:Ag)(j:Ba)(q:Ag):Ag->Int->AB Ag:=aP (aDM u z j q) Am
def aAF (j:Ag)(u:Ba)(q:Aa):AB Ag:=(a0u j q.bJ).bind λz=>(Ir 376 FU 0 5).bind λI=>(vM q).bind λJ=>aRx J z u j I 0
def ac4 {cZ rW jA r}(h:aAF cZ rW jA=some r):Dw 456 [BK cZ,DY rW,DV jA] [] (.aQ 0) [(FV r)]:=ER func456 rfl<|AP 1<|.f (CY 38 29)<|.aU<|AO h λI q h=>AP 3<|.X (alN q).view<|AO h λq j h=>BO<|.Y (YO BH FU j J7 Nz A8 A8 A8 Bd)<|AZ<|AO h λq j h=>AP 1<|.ca (aPD j).view<|.Z (BJ BR q)<|Ai<|DW (λj L=>⟨BA 56 [(0,BK cZ),(1,DY rW),(7,BK I),(8,.aQ 0),(21,DY q),(22,AX (q.length:Int)),(23,AX L)],[(FV j)],0⟩) _ _ _ _ (Ae [AQ 2]) h<|λj L Y Z M h=>AY<|AZ<|Bl h (λh=>D9 (λs=>∃(U:(AA Aa)),CO s ⟨BA 56 [(0,BK cZ),(1,DY rW),(7,BK I),(8,.aQ 0),(21,DY q),(22,AX (q.length:Int)),(23,AX M)],[(FV U)],0⟩/\aB9 L M U=some r) (by rintro s ⟨U,hs,h⟩;exact DJ hs<|aKC)<|λj=>Ai<|AO h λY O h=>BO<|.Z (BF BR O)<|AO h λO x9 h=>AP 2<|.X (aeI x9)<|D9 (λs=>∃(J:AV) (u:(AA Aa)) (z:Aa),CO s ⟨BA 56 [(0,BK cZ),(1,DY rW),(7,BK I),(8,.aQ 0),(11,.ptr 1 0),(12,Af J),(21,DY q),(22,AX (q.length:Int)),(23,AX M)],[(FV u),.box (BI (BH z))],0⟩/\aBn L M J u z=some r) (by rintro s ⟨J,u,z,hs,h⟩;exact DJ hs<|AY<|BG h (λh=>AO h λI q h=>CS<|.a 2<|.p (Dx J7 Nz [BH z])<|.f (DZ (k:=0) BH q J7 A8 (λ_=>rfl) Bd)<|.aN<|j _ ⟨I,Ae [AQ 2],h⟩) λh=>j _ ⟨u,Ae [AQ 0],h⟩)<|λI=>AO h λq j h=>AP 5<|.X (aKI j)<|AY<|BG h (λh=>AO h λj L h=>CS<|.a 2<|.ca (ND L)<|.aN<|I _ ⟨j.2,Z,j.1,Ae [AQ 0,AQ 2],h⟩) λh=>I _ ⟨O.2,Z,O.1,Ae [AQ 0,AQ 2],h⟩) λh=>IW
def aLQ (j:Ag)(k3:(Int->Aa->AB (Aa×AV))):Int->Aa->AB (Aa×AV):=λq v2=>(cond (q<(j.length:Int)) ((Aj j q).bind λu=>(cond (u.Kind==1) (some (u,true)) (k3 (Az (q+1)) v2))) (some (FU,false)))
def aRG (j:Ag):Int->Aa->AB (Aa×AV):=aP (aLQ j) Am
def a09 (j:Ag):AB (Aa×AV):=aRG j 0 FU
def aSP :=Dc func223 rfl a09 BK (λr=>.eG [DV r.1,Af r.2]) λj r h=>AY<|AZ<|AP 1<|.Z (BJ BH j)<|Ai<|DW (λq u=>⟨BA 18 [(2,.ptr 0 0),(6,BK j),(7,AX (j.length:Int)),(8,AX q)],[.box (BI (BH u))],0⟩) _ _ _ _ (Ae [AQ 0]) h<|λq u I J L h=>AY<|AZ<|Bl h (λh=>AZ<|Ai<|AO h λq u h=>BO<|.Z (BF BH u)<|AY<|BG h (λh=>AY<|Ep<|a19) λh=>Sl) λh=>Cj<|AY<|Ep<|aAy
def eI (j:Int):AB (Except BD Unit):=some (.error (.iface 263 (.agg #[.int .i64 ((⟨j⟩:iR).apo)])))
def Vr {av8 r}(h:eI av8=some r):QH Ak 225 [AX av8] r (λr=>.eG []):=QH.dO func225 rfl<|CS<|.a 2<|.p (x:=.d (.lit (.iface 263 (.agg #[.int .i64 ((⟨av8⟩:iR).apo)])))) (aP0 [.int .i64 ((⟨av8⟩:iR).apo)] af6)<|Dj.panic (t:=263) (u:=(.agg #[.int .i64 ((⟨av8⟩:iR).apo)])) rfl A8 A8<|Or.inr ⟨_,(CP h).symm,rfl,A8⟩
def Qx (j:AV)(q:Int):AB (Except BD Unit):=(cond (!j) ((eI q).bind λu=>Le u λz=>some (.ok ())) (some (.ok ())))
def KQ {aFS aIB r}(h:Qx aFS aIB=some r):QH Ak 224 [Af aFS,AX aIB] r (λr=>.eG []):=QH.dO func224 rfl<|AY<|BG h (λh=>AO h λq j h=>by cases q with |error u=>exact(have h:=Oi h;CS<|.a 1<|OM ((Vr j).2 u rfl) a0d<|Or.inr ⟨_,(CP h).symm,rfl,A8⟩)|ok z=>exact(have h:=Og h;CS<|.a 1<|.ca ((Vr j).1 z rfl)<|aAl)) λh=>Or.inl ⟨(),(CP h).symm,(⟨[],[],trivial,A8,A8,A8⟩)⟩
def aFB (j:Ag)(q:Aa)(I:(Int->AB AV)):Int->AB AV:=λu=>(cond (u<(j.length:Int)) ((Aj j u).bind λz=>(cond (z.Kind==2) (some (z.Key.toList==q.Key.toList)) (some false)).bind λJ=>(cond J (some false) (I (Az (u+1))))) (some true))
def aJ3 (j:Ag)(q:Aa):Int->AB AV:=bf (aFB j q) Am
def ZP (j:Ag)(q:Aa)(v2:AV):AB AV:=(cond v2 (some false) (aJ3 j q 0))
def a2k (j:Aa)(q:Ag):AB AV:=(a09 q).bind λu=>(cond (!u.2) (ZP q j true) (cond ((j.bG.length:Int) != 1) (ZP q j true) ((Aj j.bG 0).bind λz=>(cond (z != u.1.Id) (ZP q j true) (cond (!(j.bQ.toList==u.1.bQ.toList)) (ZP q j true) (cond (!(j.Key.toList==u.1.bQ.toList)) (ZP q j true) (ZP q j (j.Content.N != 3))))))))
def aaL :=DR func280 rfl a2k DV BK Af λj q r h=>AY<|AO h λz u h=>AP 1<|.X (aSP u)<|AZ<|D9 (λs=>∃(v2:AV),CO s ⟨BA 68 [(1,BK q),(2,.ptr 0 0),(50,Af v2)],[.box (BI (BH j))],0⟩/\ZP q j v2=some r) (by rintro s ⟨v2,hs,h⟩;exact DJ hs<|BG h Bv λh=>AZ<|AP 1<|.Z (BJ BH q)<|Ai<|Dk (λz=>⟨BA 68 [(2,.ptr 0 0),(51,BK q),(52,AX (q.length:Int)),(53,AX z)],[.box (BI (BH j))],0⟩) _ _ _ (Ae [AQ 0]) h<|λz u I J h=>AY<|AZ<|Bl h (λh=>AZ<|Ai<|AO h λz u h=>BO<|.Z (BF BH u)<|AP 3<|AO h λz u h=>.mg 60 6 (Af z) (.bi u)<|aFa) λh=>EX)<|λz=>EI h (λu h=>DU A8 A8 A8 (.a 2<|.c (Au some u)<|.a 34<|.nil _)<|z _ ⟨true,Ae [AQ 0],h⟩) λu h=>EI h (λI h=>DU A8 A8 A8 (.a 2<|.c (Au some u)<|.a 2<|.p (BJ Ad j.bG)<|.a 2<|.c (Au some I)<|.a 28<|.nil _)<|z _ ⟨true,Ae [AQ 0],h⟩) λI h=>AO h λJ L h=>EI h (λJ h=>DU A8 A8 A8 (.a 2<|.c (Au some u)<|.a 2<|.p (BJ Ad j.bG)<|.a 2<|.c (Au some I)<|.a 2<|.p (BF Ad L)<|.a 5<|.c (Au some J)<|.a 19<|.nil _)<|z _ ⟨true,Ae [AQ 0],h⟩) λJ h=>EI h (λM h=>DU A8 A8 A8 (.a 2<|.c (Au some u)<|.a 2<|.p (BJ Ad j.bG)<|.a 2<|.c (Au some I)<|.a 2<|.p (BF Ad L)<|.a 5<|.c (Au some J)<|.a 6<|.c (Au some M)<|.a 12<|.nil _)<|z _ ⟨true,Ae [AQ 0],h⟩) λM h=>EI h (λO h=>DU A8 A8 A8 (.a 2<|.c (Au some u)<|.a 2<|.p (BJ Ad j.bG)<|.a 2<|.c (Au some I)<|.a 2<|.p (BF Ad L)<|.a 5<|.c (Au some J)<|.a 6<|.c (Au some M)<|.a 6<|.c (Au some O)<|.a 5<|.nil _)<|z _ ⟨true,Ae [AQ 0],h⟩) λO h=>DU A8 A8 A8 (.a 2<|.c (Au some u)<|.a 2<|.p (BJ Ad j.bG)<|.a 2<|.c (Au some I)<|.a 2<|.p (BF Ad L)<|.a 5<|.c (Au some J)<|.a 6<|.c (Au some M)<|.a 6<|.c (Au some O)<|.a 5<|.nil _)<|z _ ⟨(j.Content.N != 3),Ae [AQ 0],h⟩
def aHS (j:Ag)(q:BL)(k2:(Int->AB Int)):Int->AB Int:=λu=>(cond (u<(j.length:Int)) ((Aj j u).bind λz=>(cond (z.Kind==2) ((Aj j u).bind λI=>some (I.Key.toList==q.toList)) (some false)).bind λJ=>(cond J ((Aj j u).bind λL=>some L.Content.N) (k2 (Az (u+1))))) (some 0))
def aMQ (q:Ag)(j:BL):Int->AB Int:=bf (aHS q j) Am
def jY (q:Ag)(j:BL):AB Int:=aMQ q j 0
def Fn1 :=DR func227 rfl jY BK D5 AX λj q r h=>AY<|AZ<|AP 1<|.Z (BJ BH j)<|Ai<|Dk (λz=>⟨BA 33 [(0,BK j),(1,D5 q),(7,AX (j.length:Int)),(8,AX z)],[],0⟩) _ _ _ (Ae []) h<|λz u I J h=>AY<|AZ<|Bl h (λh=>AZ<|Ai<|AY<|AO h λz u h=>AP 2<|.p (BF BH u)<|.a 3<|AO h λz u h=>.mg 17 8 (Af z) (.bi u (λh=>AO h λz u h=>.a 2<|.Z (BF BH u)<|Ce))<|.aU<|BG h (λh=>AO h λz u h=>AP 2<|.Z (BF BH u)<|CW) λh=>RY) λh=>EX
end
end Go.Proofs.YtfmoknlmaldmlaaGreat
