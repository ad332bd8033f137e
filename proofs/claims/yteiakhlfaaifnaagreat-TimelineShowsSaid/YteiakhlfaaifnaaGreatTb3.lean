/- Part 3 of the laws' proofs (short forms by wip/shrink2.py). -/
import Derived.Test.YteiakhlfaaifnaaGreatTb2
set_option linter.defProp false
set_option linter.unnecessarySimpa false
set_option linter.unusedSectionVars false
set_option linter.unusedVariables false
set_option linter.unusedSimpArgs false
namespace Go.Proofs.YteiakhlfaaifnaaGreat
open Go.RowKit Go.Proofs.Tryz
variable {E E':AA Bc}{P:Ch}{ats:Bh Bq}{f:FuncId}{fF:AA Am}{j res':Am}{o:Oper}{ops:Bh Bz}{x:Bz}
section
variable {es:AA Bc}
def JR (eY:AA Am)(q:EU P f fF [] j E')(I:o.op=.call { callee:=.value (.func f),args:=ops,argTypes:=ats }:=by exact rfl)(J:IC P f=true:=by kernel_rfl)(L:E'.all Bc.closed=true:=by kernel_rfl)(ha:OG [] eY fF:=by repeat (first|exact trivial|refine⟨.inl rfl,?_⟩|refine⟨.inr (.inr ⟨rfl,rfl⟩),?_⟩))(hl:ops.toList.length=eY.length:=by kernel_rfl)(M:j.up [] es.length=res':=by kernel_rfl):CG P o (GR ops.toList eY) es res' (es++E'):=aFp q J L ha hl M I
def aGX (eY:AA Am)(q:EU P f fF [] j [])(I:o.op=.call { callee:=.value (.func f),args:=ops,argTypes:=ats }:=by exact rfl)(J:IC P f=true:=by kernel_rfl)(ha:OG [] eY fF:=by repeat (first|exact trivial|refine⟨.inl rfl,?_⟩|refine⟨.inr (.inr ⟨rfl,rfl⟩),?_⟩))(hl:ops.toList.length=eY.length:=by kernel_rfl)(L:j.up [] es.length=res':=by kernel_rfl):CG P o (GR ops.toList eY) es res' es:=aXb q J ha hl L I
def E5 (srcs:AA Ec)(eY:AA Am)(q:EU P f fF E j E')(I:o.op=.call { callee:=.value (.func f),args:=ops,argTypes:=ats }:=by exact rfl)(J:IC P f=true:=by kernel_rfl)(L:U7 srcs es E E'=true:=by kernel_rfl)(hE:Sv srcs es srcs E:=by first|exact trivial|exact Nj A8 trivial)(ha:OG srcs eY fF:=by repeat (first|exact trivial|refine⟨.inl rfl,?_⟩|refine⟨⟨0,rfl,rfl⟩,?_⟩|refine⟨⟨1,rfl,rfl⟩,?_⟩|refine⟨⟨2,rfl,rfl⟩,?_⟩|refine⟨.inr (.inr ⟨rfl,rfl⟩),?_⟩))(hl:ops.toList.length=eY.length:=by kernel_rfl)(M:res'=j.up srcs es.length:=by kernel_rfl):CG P o (GR ops.toList eY) es res' (Nh srcs es E'):=aNv srcs q J L hE ha hl M I
def iH (srcs:AA Ec)(fi ca eY:AA Am)(q:EU P f fF E j E')(I:o.op=.call { callee:=.value x,args:=ops,argTypes:=ats }:=by exact rfl)(J:IC P f=true:=by kernel_rfl)(L:U7 srcs es E E'=true:=by kernel_rfl)(hE:Sv srcs es srcs E:=by first|exact trivial|exact Nj A8 trivial)(ha:OG srcs (fi++eY++ca) fF:=by repeat (first|exact trivial|refine⟨.inl rfl,?_⟩|refine⟨⟨0,rfl,rfl⟩,?_⟩|refine⟨⟨1,rfl,rfl⟩,?_⟩|refine⟨⟨2,rfl,rfl⟩,?_⟩|refine⟨.inr (.inr ⟨rfl,rfl⟩),?_⟩))(hl:ops.toList.length=eY.length:=by kernel_rfl)(M:res'=j.up srcs es.length:=by kernel_rfl):CG P o ((x,.fn (.func f) fi ca)::GR ops.toList eY) es res' (Nh srcs es E'):=aat srcs fi ca q J L hE ha hl M I
def aQH (srcs:AA Ec)(fi ca:AA D)(eY:AA Am)(q:EU P f fF E j E')(I:o.op=.call { callee:=.value x,args:=ops,argTypes:=ats }:=by exact rfl)(J:IC P f=true:=by kernel_rfl)(L:U7 srcs es E E'=true:=by kernel_rfl)(hE:Sv srcs es srcs E:=by first|exact trivial|exact Nj A8 trivial)(ha:OG srcs (fi.map .d++eY++ca.map .d) fF:=by repeat (first|exact trivial|refine⟨.inl rfl,?_⟩|refine⟨⟨0,rfl,rfl⟩,?_⟩|refine⟨⟨1,rfl,rfl⟩,?_⟩|refine⟨⟨2,rfl,rfl⟩,?_⟩|refine⟨.inr (.inr ⟨rfl,rfl⟩),?_⟩))(hl:ops.toList.length=eY.length:=by kernel_rfl)(M:res'=j.up srcs es.length:=by kernel_rfl):CG P o ((x,.d (.fn (.func f) fi ca))::GR ops.toList eY) es res' (Nh srcs es E'):=akU srcs fi ca q J L hE ha hl M I
end
variable {K:Exit->BP->Prop}{eY:AA Am}{l rest:AA Oper}{ops:Bh Oper}{σ:BP}
def Dp.ca (q:EU P f eY [] j [])(k:Dp P ops rest (σ.vY o.dst (j.up [] σ.ents.length)) K)(I:IC P f=true:=by kernel_rfl)(J:Wi σ o=some (f,eY):=by kernel_rfl)(hd:eY.all Am.Dn=true:=by kernel_rfl)(L:LH ops σ o.guard=some true:=by kernel_rfl):Dp P ops (o::rest) σ K:=.call q I k J hd L
def Fr.ca {σ':BP}{rs:AA Am}{ess:AA (AA Bc)}{bs:AA Ac}(q:EU P f eY [] j [])(k:Fr P ops rest (σ.vY o.dst (j.up [] σ.ents.length)) rs ess bs σ')(I:IC P f=true:=by kernel_rfl)(J:Wi σ o=some (f,eY):=by kernel_rfl)(hd:eY.all Am.Dn=true:=by kernel_rfl)(L:LH ops σ o.guard=some true:=by kernel_rfl):Fr P ops (o::rest) σ (j.up [] σ.ents.length::rs) (σ.ents::ess) (false::bs) σ':=.call q I k J hd L
variable {A:Type}{M:BP->Prop}{b:Ac}{ns:AA (Bz×Am)}{x:Am}{u v z:A}
def Dp.aW [T:Kn P](k:M (OA (Gq T ops l.length l σ)))(h:(Gq T ops l.length l σ).isSome=true:=by kernel_rfl):Dp P ops l σ (Jd M K):=.aM l.length k rfl h
def Dp.Z [T:Kn P](h:CG P o ns σ.ents x σ.ents)(k:M (OA (Gq T ops rest.length rest (σ.vY o.dst x))))(j:(ns.map λn=>σ.get n.1)=ns.map (·.2):=by kernel_rfl)(q:LH ops σ o.guard=some true:=by kernel_rfl)(I:(Ox ns).all (tmpsOf o).contains=true:=by kernel_rfl)(hh:(Gq T ops rest.length rest (σ.vY o.dst x)).isSome=true:=by kernel_rfl):Dp P ops (o::rest) σ (Jd M K):=Dp.p h (Dp.aW k hh) j q I
def Dp.Y [T:Kn P]{es':AA Bc}(h:CG P o ns σ.ents x es')(k:M (OA (Gq T ops rest.length rest (σ.put o.dst x es'))))(j:(ns.map λn=>σ.get n.1)=ns.map (·.2):=by kernel_rfl)(q:LH ops σ o.guard=some true:=by kernel_rfl)(I:(Ox ns).all (tmpsOf o).contains=true:=by kernel_rfl)(hh:(Gq T ops rest.length rest (σ.put o.dst x es')).isSome=true:=by kernel_rfl):Dp P ops (o::rest) σ (Jd M K):=Dp.f h (Dp.aW k hh) j q I
def Dp.X [T:Kn P](q:EU P f eY [] j [])(k:M (OA (Gq T ops rest.length rest (σ.vY o.dst (j.up [] σ.ents.length)))))(I:IC P f=true:=by kernel_rfl)(J:Wi σ o=some (f,eY):=by kernel_rfl)(hd:eY.all Am.Dn=true:=by kernel_rfl)(L:LH ops σ o.guard=some true:=by kernel_rfl)(hh:(Gq T ops rest.length rest (σ.vY o.dst (j.up [] σ.ents.length))).isSome=true:=by kernel_rfl):Dp P ops (o::rest) σ (Jd M K):=Dp.ca q (Dp.aW k hh) I J hd L
def Dp.bi [T:Kn P](h:(cond b u v)=z)(j:u=z->Dp P ops rest (σ.vY o.dst (.d (.lit (.bool true)))) K:=by exact λh=>.aW<|CU)(k2:v=z->Dp P ops rest (σ.vY o.dst (.d (.lit (.bool false)))) K:=by exact λh=>.aW<|CU)(hs:(Zh T ops σ o).map (λr=>(r.x,r.E,r.bar))=some (.d (.lit (.bool b)),σ.ents,false):=by kernel_rfl):Dp P ops (o::rest) σ K:=Ed h (λe h=>.c (BM some e) (j h) hs) λe h=>.c (BM some e) (k2 h) hs
def Cb {G:Prop}(h:(cond b u v)=z)(j:b=true->u=z->G:=by exact λe i=>aRS)(k2:b=false->v=z->G:=by exact λe i=>aRS):G:=Ed h j k2
def AZ [T:Kn P]{id:Nat}{y:Code}{Q:Exit->BP->Prop}(k:Bl P y (OA (Gq T ops ops.toList.length ops.toList σ)) Q)(h:(Gq T ops ops.toList.length ops.toList σ).isSome=true:=by kernel_rfl):Bl P (.seq (.region id ops false) y) σ Q:=BL (.aW k h)
def Dp.mg (a c:Nat)(x:Am)(h1:Dp P ops (l.take (c+1)) σ (Jd (λs=>s.wipe (List.range' a c)=(σ.wipe (List.range' a c)).vY (some (a+c)) x) K))(h2:Dp P ops (l.drop (c+1)) ((σ.wipe (List.range' a c)).vY (some (a+c)) x) K):Dp P ops l σ K:=.merge (c+1) (List.range' a c) (a+c) x h1 h2
variable {α β:Type}{g:α->AB (Except BJ β)}{r:Except BJ β}
def PD {y:α}(h:NM (.ok y) g=some r):g y=some r:=h
def PV {u:BJ}(h:NM (.error u) g=some r):some (.error u)=some r:=h
def CS :BH:=⟨#[]⟩
def ql (k:IntKind)(n:Int):D:=.lit (.int k n)
def Jc :BH:=⟨#[84,101,120,116]⟩
def KH :BH:=⟨#[78]⟩
def Nk :BH:=⟨#[86,105,97]⟩
def NY :BH:=⟨#[76,101,118,101,108,115]⟩
def Lr :BH:=⟨#[65,108,108,111,119]⟩
def Nr :BH:=⟨#[68,101,110,121]⟩
def KF :BH:=⟨#[84,97,114,103,101,116]⟩
def Nq :BH:=⟨#[84,104,114,101,97,100]⟩
def zo :BH:=⟨#[58]⟩
def a5j :BH:=⟨#[33]⟩
def a5u :BH:=⟨#[64]⟩
def a2O :BH:=⟨#[64,33]⟩
def aHr :BH:=⟨#[33,114,58,97]⟩
def sD :BH:=⟨#[64,97,110,110,58,97]⟩
def DF :BJ:=.int .i64 0
def Dl :BJ:=.string CS
def F7 :BJ:=.slice none 0 0
def a6z :BJ:=.agg #[Dl,F7,F7,F7,F7,F7,DF,F7,F7]
def a9t :BJ:=.agg #[F7,F7,DF,DF,DF,DF,DF,DF,DF]
def a7f :BJ:=.agg #[Dl,DF,DF,.bool false,Dl,F7,F7,F7,F7,DF,DF,DF,DF,DF,DF,DF]
def a9X :BJ:=.agg #[Dl,DF]
def a5I :BJ:=.agg #[DF,Dl,Dl,DF,.bool false,Dl,DF,DF,F7,F7,Dl,DF,DF,.bool false,Dl,F7,F7,F7,F7,DF,DF,DF,DF,DF,DF,DF,DF,Dl,DF]
def a3O :BJ:=.agg #[DF,DF,DF,.bool false]
def a4z :BJ:=.agg #[Dl,DF]
def aBi :BJ:=.agg #[DF,DF,DF]
def a4d :BJ:=.agg #[DF,F7,F7,DF]
def a8s :BJ:=.agg #[DF,Dl,DF]
def a5B :BJ:=.agg #[DF,Dl,Dl,DF,.bool false,Dl,DF,DF,F7,F7,Dl,DF,DF,.bool false,Dl,F7,F7,F7,F7,DF,DF,DF,DF,DF,DF,DF,DF,Dl,DF,DF,Dl,Dl,DF,.bool false,Dl,DF,DF,F7,F7,Dl,DF,DF,.bool false,Dl,F7,F7,F7,F7,DF,DF,DF,DF,DF,DF,DF,DF,Dl,DF,DF,Dl,Dl,DF,.bool false,Dl,DF,DF,F7,F7,Dl,DF,DF,.bool false,Dl,F7,F7,F7,F7,DF,DF,DF,DF,DF,DF,DF,DF,Dl,DF,DF,Dl,Dl,DF,.bool false,Dl,DF,DF,F7,F7,Dl,DF,DF,.bool false,Dl,F7,F7,F7,F7,DF,DF,DF,DF,DF,DF,DF,DF,Dl,DF]
def a9G :BJ:=.agg #[DF,DF]
def aMh :BJ:=.agg #[DF,DF]
def a3s :BJ:=.agg #[.map none,.map none,.map none]
def aS6 :BJ:=.agg #[F7,F7,F7,F7,F7]
def a4u :BJ:=.agg #[DF,DF,DF,DF,DF,DF,DF]
def a5w :BJ:=.agg #[DF,.nilFunc]
def a9s :BJ:=.agg #[DF]
def a7q :BJ:=.agg #[DF,Dl]
def aSK :BJ:=.agg #[F7,F7,F7]
def a4t :BJ:=.agg #[DF,DF,DF,DF,DF]
def a7n :BJ:=.agg #[F7,F7]
def a6S :BJ:=.agg #[F7,F7]
def a7w :BJ:=.agg #[F7]
def a4c :BJ:=.agg #[]
def a9N :BJ:=.agg #[F7]
def aAN :BJ:=.agg #[]
def aBw :BJ:=.agg #[DF,DF,DF,F7]
def a9A :BJ:=.agg #[DF,DF,DF]
structure Ih where
 User:ByteArray
 N:Int
def F5 (x:Ih):D:=.agg [DV x.User,Ah x.N]
def alJ :Ih:=⟨CS,0⟩
instance : Inhabited Ih:=⟨alJ⟩
structure Kw where
 Kind:Int
 N:Int
def F8 (x:Kw):D:=.agg [Ah x.Kind,Ah x.N]
def aZr :Kw:=⟨0,0⟩
instance : Inhabited Kw:=⟨aZr⟩
structure Ci where
 Users:(List Ih)
 Kinds:(List Kw)
 User:Int
 Message:Int
 State:Int
 iJ:Int
 kT:Int
 oq:Int
 gy:Int
def FW (x:Ci):D:=.agg [(BR F5) x.Users,(BR F8) x.Kinds,Ah x.User,Ah x.Message,Ah x.State,Ah x.iJ,Ah x.kT,Ah x.oq,Ah x.gy]
def LD :Ci:=⟨[],[],0,0,0,0,0,0,0⟩
instance : Inhabited Ci:=⟨LD⟩
structure Cx where
 Text:ByteArray
 N:Int
 Target:Int
 Thread:Bool
 Via:ByteArray
 Allow:(List ByteArray)
 iK:(List ByteArray)
 Levels:Ci
def Fz (x:Cx):D:=.agg [DV x.Text,Ah x.N,Ah x.Target,EH x.Thread,DV x.Via,(BR DV) x.Allow,(BR DV) x.iK,(BR F5) x.Levels.Users,(BR F8) x.Levels.Kinds,Ah x.Levels.User,Ah x.Levels.Message,Ah x.Levels.State,Ah x.Levels.iJ,Ah x.Levels.kT,Ah x.Levels.oq,Ah x.Levels.gy]
def El :Cx:=⟨CS,0,0,false,CS,[],[],LD⟩
instance : Inhabited Cx:=⟨El⟩
structure QX where
 Server:ByteArray
 Sum:Int
def abt (x:QX):D:=.agg [DV x.Server,Ah x.Sum]
def jE :QX:=⟨CS,0⟩
instance : Inhabited QX:=⟨jE⟩
structure Ad where
 Id:Int
 Room:ByteArray
 bG:ByteArray
 Kind:Int
 State:Bool
 Key:ByteArray
 Time:Int
 Depth:Int
 bP:(List Int)
 bQ:(List Int)
 Content:Cx
 Hash:Int
 rM:QX
def Au (x:Ad):D:=.agg [Ah x.Id,DV x.Room,DV x.bG,Ah x.Kind,EH x.State,DV x.Key,Ah x.Time,Ah x.Depth,(BR Ah) x.bP,(BR Ah) x.bQ,DV x.Content.Text,Ah x.Content.N,Ah x.Content.Target,EH x.Content.Thread,DV x.Content.Via,(BR DV) x.Content.Allow,(BR DV) x.Content.iK,(BR F5) x.Content.Levels.Users,(BR F8) x.Content.Levels.Kinds,Ah x.Content.Levels.User,Ah x.Content.Levels.Message,Ah x.Content.Levels.State,Ah x.Content.Levels.iJ,Ah x.Content.Levels.kT,Ah x.Content.Levels.oq,Ah x.Content.Levels.gy,Ah x.Hash,DV x.rM.Server,Ah x.rM.Sum]
def EI :Ad:=⟨0,CS,CS,0,false,CS,0,0,[],[],El,0,jE⟩
instance : Inhabited Ad:=⟨EI⟩
structure DN where
 Pos:Int
 Id:Int
 Status:Int
 Gone:Bool
def D5 (x:DN):D:=.agg [Ah x.Pos,Ah x.Id,Ah x.Status,EH x.Gone]
def LK :DN:=⟨0,0,0,false⟩
instance : Inhabited DN:=⟨LK⟩
structure BN where
 Kind:Int
 Key:ByteArray
 Id:Int
def BQ (x:BN):D:=.agg [Ah x.Kind,DV x.Key,Ah x.Id]
def ajT :BN:=⟨0,CS,0⟩
instance : Inhabited BN:=⟨ajT⟩
structure a3w where
 User:ByteArray
 Thread:Int
 Id:Int
 Time:Int
def aC1 (x:a3w):D:=.agg [DV x.User,Ah x.Thread,Ah x.Id,Ah x.Time]
def ac4 :a3w:=⟨CS,0,0,0⟩
instance : Inhabited a3w:=⟨ac4⟩
structure a4Y where
 User:ByteArray
 Until:Int
def aKc (x:a4Y):D:=.agg [DV x.User,Ah x.Until]
def aiS :a4Y:=⟨CS,0⟩
instance : Inhabited a4Y:=⟨aiS⟩
structure Bv where
 Id:ByteArray
 Events:(List Ad)
 Rows:(List DN)
 Waiting:(List Ad)
 QT:(List Int)
 State:(List BN)
 Next:Int
 acQ:(List a3w)
 amF:(List a4Y)
def EG (x:Bv):D:=.agg [DV x.Id,(BR Au) x.Events,(BR D5) x.Rows,(BR Au) x.Waiting,(BR Ah) x.QT,(BR BQ) x.State,Ah x.Next,(BR aC1) x.acQ,(BR aKc) x.amF]
def OH :Bv:=⟨CS,[],[],[],[],[],0,[],[]⟩
instance : Inhabited Bv:=⟨OH⟩
structure Io where
 Id:Int
 Before:(List BN)
 After:(List BN)
 Err:Int
def Lj (x:Io):D:=.agg [Ah x.Id,(BR BQ) x.Before,(BR BQ) x.After,Ah x.Err]
def Wh :Io:=⟨0,[],[],0⟩
instance : Inhabited Io:=⟨Wh⟩
structure Q5 where
 Same:(List BN)
 Power:(List Int)
 First:(List BN)
 Others:(List Int)
 Last:(List BN)
def dP (x:Q5):D:=.agg [(BR BQ) x.Same,(BR Ah) x.Power,(BR BQ) x.First,(BR Ah) x.Others,(BR BQ) x.Last]
def YF :Q5:=⟨[],[],[],[],[]⟩
instance : Inhabited Q5:=⟨YF⟩
structure PI where
 aIy:Int
 aGL:Nat
def Vx (x:PI):D:=.agg [Ah x.aIy,aVc x.aGL]
def ad9 :PI:=⟨0,0⟩
instance : Inhabited PI:=⟨ad9⟩
structure kn where
 as3:Int
def af8 :kn:=⟨0⟩
instance : Inhabited kn:=⟨af8⟩
structure G6 where
 b_:(List Int)
def NP (x:G6):D:=.agg [(BR Dt) x.b_]
def aCg :G6:=⟨[]⟩
instance : Inhabited G6:=⟨aCg⟩
structure Tt where
 oN:Int
 ny:Int
def Kz (x:Tt):D:=.agg [Ah x.oN,Ah x.ny]
def a3K :Tt:=⟨0,0⟩
instance : Inhabited Tt:=⟨a3K⟩
structure Z9 where
def a0e (x:Z9):D:=.agg []
def ajD :Z9:=⟨⟩
instance : Inhabited Z9:=⟨ajD⟩
structure Po where
 Jf:(List BN)
 apb:(List Int)
 azB:(List Int)
def eA (x:Po):D:=.agg [(BR BQ) x.Jf,(BR Ah) x.apb,(BR Ah) x.azB]
def a6B :Po:=⟨[],[],[]⟩
instance : Inhabited Po:=⟨a6B⟩
structure Rx where
 ny:Int
 Um:Int
 Df:Int
 aGM:(List Int)
def MQ (x:Rx):D:=.agg [Ah x.ny,Ah x.Um,Ah x.Df,(BR Ah) x.aGM]
def amR :Rx:=⟨0,0,0,[]⟩
instance : Inhabited Rx:=⟨amR⟩
structure RN where
 abB:Int
 abC:ByteArray
def MK (x:RN):D:=.agg [Ah x.abB,DV x.abC]
def afg :RN:=⟨0,CS⟩
instance : Inhabited RN:=⟨afg⟩
structure ZG where
 aEO:(List Int)
def yV (x:ZG):D:=.agg [(BR Ah) x.aEO]
def aar :ZG:=⟨[]⟩
instance : Inhabited ZG:=⟨aar⟩
structure MF where
 ny:Int
 Ae:Int
 Df:Int
def Pz (x:MF):D:=.agg [Ah x.ny,Ah x.Ae,Ah x.Df]
def aZW :MF:=⟨0,0,0⟩
instance : Inhabited MF:=⟨aZW⟩
structure Yn where
 Depth:Int
 Id:Int
 Target:Int
def Z8 (x:Yn):D:=.agg [Ah x.Depth,Ah x.Id,Ah x.Target]
def agU :Yn:=⟨0,0,0⟩
instance : Inhabited Yn:=⟨agU⟩
structure NK where
 User:ByteArray
 Pos:Int
 Limit:Int
def OT (x:NK):D:=.agg [DV x.User,Ah x.Pos,Ah x.Limit]
def abG :NK:=⟨CS,0,0⟩
instance : Inhabited NK:=⟨abG⟩
def aoc :EF Ap 56 10 10:=EK A8
def V9 :Ep Ap 52 true 16:=GZ A8
def aRZ :(Ap.info? 52).bind (·.zero)=some (a7f):=A8
def apw :EF Ap 56 8 8:=EK A8
def aJt :Ep Ap 24 false 1:=GZ A8
def JW :Ap.underlying 24=some (.slice 3):=A8
def ap7 :EF Ap 56 9 9:=EK A8
def aea :EF Ap 52 5 5:=EK A8
def abl :Ep Ap 46 false 1:=GZ A8
def agz :Ap.underlying 46=some (.slice 9):=A8
def aga :EF Ap 52 6 6:=EK A8
def aYi :EF Ap 52 7 7:=EK A8
def anh :EF Ap 50 0 0:=EK A8
def aOw :Ep Ap 47 false 1:=GZ A8
def aSp :Ap.underlying 47=some (.slice 83):=A8
def afh :EF Ap 50 1 1:=EK A8
def aR7 :Ep Ap 48 false 1:=GZ A8
def aVn :Ap.underlying 48=some (.slice 165):=A8
def aok :EF Ap 56 1 1:=EK A8
def Zv :Ep Ap 9 false 1:=GZ A8
def IJ :Ap.underlying 9=some (.string):=A8
def aod :EF Ap 56 2 2:=EK A8
def aeb :EF Ap 56 5 5:=EK A8
def aYY :EF Ap 52 0 0:=EK A8
def abH :EF Ap 52 4 4:=EK A8
def ap6 :EF Ap 56 12 27:=EK A8
def akK :EF Ap 54 0 0:=EK A8
def ao4 :Ep Ap 83 true 2:=GZ A8
def abV :EF Ap 83 0 0:=EK A8
def Kv :Ap.underlying 22=some (.slice 56):=A8
def Fg :Ep Ap 56 true 29:=GZ A8
def Fl :Ep Ap 3 false 1:=GZ A8
def aoy :EF Ap 56 3 3:=EK A8
def iU :Ep Ap 45 false 1:=GZ A8
def ahg :EF Ap 56 4 4:=EK A8
def ai5 :Ep Ap 4 false 1:=GZ A8
def aeJ :Ap.underlying 4=some (.bool):=A8
def anP :EF Ap 56 6 6:=EK A8
def aqR :EF Ap 56 7 7:=EK A8
def O4 :GX Ap 46 9 1 16:=KT A8
def zero9 :(Ap.info? 9).bind (·.zero)=some (.string CS):=A8
def adX :EF Ap 83 1 1:=EK A8
def aZ7 :Ep Ap 165 true 2:=GZ A8
def aYw :EF Ap 165 0 0:=EK A8
def aaF :EF Ap 165 1 1:=EK A8
def ao0 :EF Ap 50 2 2:=EK A8
def aqC :EF Ap 50 3 3:=EK A8
def aZb :EF Ap 50 4 4:=EK A8
def aa4 :EF Ap 50 5 5:=EK A8
def aZL :EF Ap 50 6 6:=EK A8
def alo :EF Ap 50 7 7:=EK A8
def aeQ :EF Ap 50 8 8:=EK A8
def jP :Ep Ap 50 true 9:=GZ A8
def aQQ :(Ap.info? 50).bind (·.zero)=some (a9t):=A8
def acf :JZ Ap 50 [(0,1),(1,1),(2,1),(3,1),(4,1),(5,1),(6,1),(7,1),(8,1)] (a9t):=MI A8 aQQ A8
def alM :EF Ap 52 1 1:=EK A8
def ajH :EF Ap 52 2 2:=EK A8
def amr :EF Ap 52 3 3:=EK A8
def aeu :JZ Ap 52 [(0,1),(1,1),(2,1),(3,1),(4,1),(5,1),(6,1),(7,9)] (a7f):=MI A8 aRZ A8
def Zm :Ap.underlying 3=some (.int .i64):=A8
def ahs :Ap.underlying 185=some (.int .u64):=A8
def a4q :Ap.underlying 5=some (.int .u8):=A8
def Jw :GX Ap 210 5 1 1:=KT A8
def Sl :(Ap.info? 5).bind (·.zero)=some (.int .u8 0):=A8
def Zk :BA 264=true:=A8
def aAm :Ap.underlying 210=some (.slice 5):=A8
def aGc :BA 263=true:=A8
def DL :GX Ap 24 3 1 8:=KT A8
def zero3 :(Ap.info? 3).bind (·.zero)=some (.int .i64 0):=A8
def ab5 :BA 265=true:=A8
def aMY :BA 266=true:=A8
def amO :Ep Ap 5 false 1:=GZ A8
def aao :EF Ap 56 11 26:=EK A8
def Jv :(Ap.info? 56).bind (·.zero)=some (a5I):=A8
def adA :EF Ap 56 0 0:=EK A8
def aky :EF Ap 54 1 1:=EK A8
def aN0 :(Ap.info? 54).bind (·.zero)=some (a9X):=A8
def abI :JZ Ap 54 [(0,1),(1,1)] (a9X):=MI A8 aN0 A8
def acC :Ep Ap 54 true 2:=GZ A8
def aoJ :EF Ap 30 0 0:=EK A8
def amA :JZ Ap 56 [(0,1),(1,1),(2,1),(3,1),(4,1),(5,1),(6,1),(7,1),(8,1),(9,1),(10,16),(26,1),(27,2)] (a5I):=MI A8 Jv A8
def aQy :BA 75=true:=A8
def Gl :GX Ap 22 56 29 376:=KT A8
def aiv :BA 24=true:=A8
def aK6 :(Ap.info? 141).bind (·.zero)=some (a4d):=A8
def a2Q :Ap.underlying 113=some (.slice 141):=A8
def Zq :Ep Ap 141 true 4:=GZ A8
def afa :EF Ap 141 0 0:=EK A8
def apT :JZ Ap 141 [(0,1),(1,1),(2,1),(3,1)] (a4d):=MI A8 aK6 A8
def ru :Ap.underlying 26=some (.slice 147):=A8
def Qk :Ep Ap 147 true 3:=GZ A8
def an7 :EF Ap 147 0 0:=EK A8
def ab7 :EF Ap 147 1 1:=EK A8
def anj :EF Ap 147 2 2:=EK A8
def aEv :Ap.underlying 196=some (.slice 26):=A8
def ao1 :Ep Ap 26 false 1:=GZ A8
def aGZ :BA 74=true:=A8
def Mc :GX Ap 26 147 3 32:=KT A8
def Qy :(Ap.info? 147).bind (·.zero)=some (a8s):=A8
def apv :BA 397=true:=A8
def aRT :BA 354=true:=A8
def aeE :BA 358=true:=A8
def aHJ :GX Ap 356 24 1 24:=KT A8
def zero24 :(Ap.info? 24).bind (·.zero)=some (.slice none 0 0):=A8
def aBt :Ap.underlying 356=some (.slice 24):=A8
def UH :Ap.underlying 25=some (.slice 147):=A8
def gX :GX Ap 25 147 3 32:=KT A8
def adz :JZ Ap 147 [(0,1),(1,1),(2,1)] (a8s):=MI A8 Qy A8
def a1P :(Ap.info? 83).bind (·.zero)=some (a4z):=A8
def aZv :JZ Ap 83 [(0,1),(1,1)] (a4z):=MI A8 a1P A8
def yc :GX Ap 47 83 2 24:=KT A8
def alu :BA 415=true:=A8
def abX :(Ap.info? 234).bind (·.zero)=some (aS6):=A8
def aeF :EF Ap 234 0 0:=EK A8
def abO :EF Ap 234 1 1:=EK A8
def amD :EF Ap 234 2 2:=EK A8
def ahA :EF Ap 234 3 3:=EK A8
def amN :EF Ap 234 4 4:=EK A8
def aWY :Ep Ap 234 true 5:=GZ A8
def anT :iV Ap 234 4 4 false 1=true:=A8
def aLN :BA 327=true:=A8
def afT :EF Ap 141 3 3:=EK A8
def afE :Ep Ap 42 false 1:=GZ A8
def ahe :EF Ap 141 2 2:=EK A8
def Zl :GX Ap 196 26 1 24:=KT A8
def zero26 :(Ap.info? 26).bind (·.zero)=some (.slice none 0 0):=A8
def ahY :EF Ap 141 1 1:=EK A8
def aY2 :GX Ap 113 141 4 64:=KT A8
def ZH :(Ap.info? 66).bind (·.zero)=some (a3O):=A8
def aeD :EF Ap 30 2 2:=EK A8
def acs :Ep Ap 23 false 1:=GZ A8
def QJ :Ap.underlying 23=some (.slice 66):=A8
def Oe :Ep Ap 66 true 4:=GZ A8
def aZY :EF Ap 66 1 1:=EK A8
def afl :JZ Ap 66 [(0,1),(1,1),(2,1),(3,1)] (a3O):=MI A8 ZH A8
def OW :Ep Ap 30 true 9:=GZ A8
def alI :BA 42=true:=A8
def acr :EF Ap 66 0 0:=EK A8
def agL :EF Ap 30 1 1:=EK A8
def ain :Ep Ap 22 false 1:=GZ A8
def agQ :EF Ap 30 6 6:=EK A8
def akc :EF Ap 66 2 2:=EK A8
def aho :Ep Ap 64 false 1:=GZ A8
def aa3 :EF Ap 30 3 3:=EK A8
def akD :EF Ap 30 4 4:=EK A8
def afS :EF Ap 30 5 5:=EK A8
def ad1 :EF Ap 30 7 7:=EK A8
def ab3 :Ep Ap 27 false 1:=GZ A8
def aex :Ap.underlying 27=some (.slice 403):=A8
def aic :EF Ap 30 8 8:=EK A8
def aht :Ep Ap 28 false 1:=GZ A8
def amK :Ap.underlying 28=some (.slice 405):=A8
def apN :BA 380=true:=A8
def ao2 :BA 381=true:=A8
def aN6 :(Ap.info? 165).bind (·.zero)=some (aMh):=A8
def aVU :(Ap.info? 266).bind (·.zero)=some (a4u):=A8
def aaq :ZQ Ap 266 1 (a4u):=uT A8 aVU A8
def a8S :Ap.underlying 266=some (.array 7 3):=A8
def aJL :(Ap.info? 282).bind (·.zero)=some (a5w):=A8
def aeI :JZ Ap 282 [(0,1),(1,1)] (a5w):=MI A8 aJL A8
def am8 :GX Ap 283 282 2 16:=KT A8
def afC :Ap.underlying 283=some (.slice 282):=A8
def al8 :Ep Ap 282 true 2:=GZ A8
def ach :EF Ap 282 0 0:=EK A8
def acg :EF Ap 282 1 1:=EK A8
def aii :Ep Ap 237 false 1:=GZ A8
def aZS :BA 291=true:=A8
def akY :BA 292=true:=A8
def aZw :BA 293=true:=A8
def alx :BA 294=true:=A8
def adP :BA 295=true:=A8
def akL :BA 296=true:=A8
def aXA :(Ap.info? 287).bind (·.zero)=some (a9s):=A8
def abh :JZ Ap 287 [(0,1)] (a9s):=MI A8 aXA A8
def ahy :(match Ap.underlying 287 with |some (.interface _)=>false|some _=>true|none=>false)=true:=A8
def vC :BA 227=true:=A8
def UO :BA 225=true:=A8
def aVC :(Ap.info? 327).bind (·.zero)=some (a4t):=A8
def aqE :ZQ Ap 327 1 (a4t):=uT A8 aVC A8
def abS :Ep Ap 327 true 5:=GZ A8
def aSB :Ap.underlying 327=some (.array 5 3):=A8
def amU :BA 271=true:=A8
def aHq :GX Ap 48 165 2 16:=KT A8
def ael :BA 301=true:=A8
def aYS :Ep Ap 266 true 7:=GZ A8
def aSm :BA 373=true:=A8
def aCH :BA 372=true:=A8
def aRw :(Ap.info? 332).bind (·.zero)=some (a7n):=A8
def aq8 :ZQ Ap 332 1 (a7n):=uT A8 aRw A8
def ahp :Ap.underlying 332=some (.array 2 48):=A8
def aR8 :(Ap.info? 333).bind (·.zero)=some (a6S):=A8
def amw :ZQ Ap 333 1 (a6S):=uT A8 aR8 A8
def al6 :Ap.underlying 333=some (.array 2 47):=A8
def aZg :BA 223=true:=A8
def aTZ :(Ap.info? 339).bind (·.zero)=some (a7w):=A8
def am2 :JZ Ap 339 [(0,1)] (a7w):=MI A8 aTZ A8
def aj1 :EF Ap 339 0 0:=EK A8
def aiN :Ep Ap 210 false 1:=GZ A8
def acB :GX Ap 367 4 1 1:=KT A8
def y8 :(Ap.info? 4).bind (·.zero)=some (.bool false):=A8
def aap :Ap.underlying 367=some (.slice 4):=A8
def a7k (x y:Ih):Ac:=(x.User.toList==y.User.toList&&(x.N==y.N&&true))
def aji (x y:Ih):oZ Ap 2 83 [.string x.User,.int .i64 x.N] [.string y.User,.int .i64 y.N] (a7k x y):=⟨λd w=>a5p A8 A8 A8 (l:=[(9,0),(3,1)]) A8 (Y8 (Nz Zv A8 w) (Nz Zv A8 w) (run_equalIn_string w _ _ _ _ IJ)<|Y8 (Nz Fl A8 w) (Nz Fl A8 w) (iP w _ _ .i64 _ _ _ Zm)<|a9E _ _ _ _)⟩
def anU :Program.eqGuardType Ap (Program.depth Ap) 83=false:=A8
def aT1 :Ap.underlying 45=some (.int .i64):=A8
def a4B (x y:Kw):Ac:=(x.Kind==y.Kind&&(x.N==y.N&&true))
def anA (x y:Kw):oZ Ap 2 165 [.int .i64 x.Kind,.int .i64 x.N] [.int .i64 y.Kind,.int .i64 y.N] (a4B x y):=⟨λd w=>a5p A8 A8 A8 (l:=[(45,0),(3,1)]) A8 (Y8 (Nz iU A8 w) (Nz iU A8 w) (iP w _ _ .i64 _ _ _ aT1)<|Y8 (Nz Fl A8 w) (Nz Fl A8 w) (iP w _ _ .i64 _ _ _ Zm)<|a9E _ _ _ _)⟩
def anZ :Program.eqGuardType Ap (Program.depth Ap) 165=false:=A8
def a4w (x y:QX):Ac:=(x.Server.toList==y.Server.toList&&(x.Sum==y.Sum&&true))
def abD (x y:QX):oZ Ap 2 54 [.string x.Server,.int .i64 x.Sum] [.string y.Server,.int .i64 y.Sum] (a4w x y):=⟨λd w=>a5p A8 A8 A8 (l:=[(9,0),(3,1)]) A8 (Y8 (Nz Zv A8 w) (Nz Zv A8 w) (run_equalIn_string w _ _ _ _ IJ)<|Y8 (Nz Fl A8 w) (Nz Fl A8 w) (iP w _ _ .i64 _ _ _ Zm)<|a9E _ _ _ _)⟩
def abo :Program.eqGuardType Ap (Program.depth Ap) 54=false:=A8
def Rq :Ap.underlying 251=some (.map 3 3):=A8
def IY :KeyTy Ap 3 D8:=apE Zm
def aaA :(Ap.info? 251).bind (·.zero)=some (.map none):=A8
def afo :Ep Ap 251 false 1:=GZ A8
def aKL :GX Ap 155 157 2 16:=KT A8
def a3b :(Ap.info? 157).bind (·.zero)=some (a9G):=A8
def af9 :JZ Ap 157 [(0,1),(1,1)] (a9G):=MI A8 a3b A8
def YM :Ap.underlying 155=some (.slice 157):=A8
def VN :Ep Ap 157 true 2:=GZ A8
def aiM :EF Ap 157 0 0:=EK A8
def ahf :EF Ap 157 1 1:=EK A8
def afB :BA 90=true:=A8
def aqZ :BA 207=true:=A8
def aja :BA 209=true:=A8
def alA :Ep Ap 196 false 1:=GZ A8
def aMR :BA 272=true:=A8
def wR :BA 274=true:=A8
def Tn :Ap.underlying 249=some (.map 3 4):=A8
def anL :BA 210=true:=A8
def afN :BA 452=true:=A8
def aT6 :BA 431=true:=A8
def aR6 :BA 54=true:=A8
def aax :BA 26=true:=A8
def uI :BA 270=true:=A8
def amZ :BA 464=true:=A8
def aUI :(Ap.info? 385).bind (·.zero)=some (aAN):=A8
def aa7 :JZ Ap 385 [] (aAN):=MI A8 aUI A8
def apY :(match Ap.underlying 385 with |some (.interface _)=>false|some _=>true|none=>false)=true:=A8
def aRK :BA 455=true:=A8
def apd :Ap.underlying 122=some (.int .u64):=A8
def adQ :(Ap.info? 306).bind (·.zero)=some (aSK):=A8
def aQd :(Ap.info? 349).bind (·.zero)=some (a4c):=A8
def acN :JZ Ap 349 [] (a4c):=MI A8 aQd A8
def ad3 :(match Ap.underlying 349 with |some (.interface _)=>false|some _=>true|none=>false)=true:=A8
def aC3 :(Ap.info? 299).bind (·.zero)=some (a7q):=A8
def ais :JZ Ap 299 [(0,1),(1,1)] (a7q):=MI A8 aC3 A8
def aEN :GX Ap 300 299 2 24:=KT A8
def aIB :Ap.underlying 300=some (.slice 299):=A8
def aKz :Ep Ap 299 true 2:=GZ A8
def ah9 :EF Ap 299 0 0:=EK A8
def anQ :EF Ap 299 1 1:=EK A8
def aMA :BA 406=true:=A8
def aEH :(Ap.info? 410).bind (·.zero)=some (aBw):=A8
def afR :JZ Ap 410 [(0,1),(1,1),(2,1),(3,1)] (aBw):=MI A8 aEH A8
def aIJ :GX Ap 407 410 4 48:=KT A8
def aCt :Ap.underlying 407=some (.slice 410):=A8
def aCh :Ep Ap 410 true 4:=GZ A8
def aZB :EF Ap 410 3 3:=EK A8
def aoC :EF Ap 410 0 0:=EK A8
def adr :EF Ap 410 1 1:=EK A8
def aq0 :EF Ap 410 2 2:=EK A8
def ak6 :BA 484=true:=A8
def akB :BA 481=true:=A8
def aqI :a1C Ap 349 "fedchat/resolve.sort" 481=true:=A8
def ae6 :EF Ap 306 1 1:=EK A8
def aW3 :(Ap.info? 351).bind (·.zero)=some (a9N):=A8
def ams :JZ Ap 351 [(0,1)] (a9N):=MI A8 aW3 A8
def aay :(match Ap.underlying 351 with |some (.interface _)=>false|some _=>true|none=>false)=true:=A8
def ajM :EF Ap 351 0 0:=EK A8
def aHI :(Ap.info? 414).bind (·.zero)=some (a9A):=A8
def adf :JZ Ap 414 [(0,1),(1,1),(2,1)] (a9A):=MI A8 aHI A8
def aTo :GX Ap 412 414 3 24:=KT A8
def wz :Ap.underlying 412=some (.slice 414):=A8
def wB :Ep Ap 414 true 3:=GZ A8
def xJ (x y:MF):Ac:=(x.ny==y.ny&&(x.Ae==y.Ae&&(x.Df==y.Df&&true)))
def ad4 (x y:MF):oZ Ap 2 414 [.int .i64 x.ny,.int .i64 x.Ae,.int .i64 x.Df] [.int .i64 y.ny,.int .i64 y.Ae,.int .i64 y.Df] (xJ x y):=⟨λd w=>a5p A8 A8 A8 (l:=[(3,0),(3,1),(3,2)]) A8 (Y8 (Nz Fl A8 w) (Nz Fl A8 w) (iP w _ _ .i64 _ _ _ Zm)<|Y8 (Nz Fl A8 w) (Nz Fl A8 w) (iP w _ _ .i64 _ _ _ Zm)<|Y8 (Nz Fl A8 w) (Nz Fl A8 w) (iP w _ _ .i64 _ _ _ Zm)<|a9E _ _ _ _)⟩
def ajB :Program.eqGuardType Ap (Program.depth Ap) 414=false:=A8
def agX :EF Ap 414 0 0:=EK A8
def ajz :BA 486=true:=A8
def aqc :a1C Ap 351 "fedchat/resolve.sort" 486=true:=A8
def akl :EF Ap 306 0 0:=EK A8
def aqK :EF Ap 306 2 2:=EK A8
def aY5 :Ep Ap 306 true 3:=GZ A8
def agn :iV Ap 306 0 0 false 1=true:=A8
def zero22 :(Ap.info? 22).bind (·.zero)=some (.slice none 0 0):=A8
def apQ :EF Ap 190 2 2:=EK A8
def aaY :Ep Ap 188 false 1:=GZ A8
def a1A :Ap.underlying 188=some (.map 3 42):=A8
def nC :(Ap.info? 42).bind (·.zero)=some (.int .i64 0):=A8
def aor :EF Ap 190 1 1:=EK A8
def aZO :Ep Ap 187 false 1:=GZ A8
def ig :Ap.underlying 187=some (.map 3 26):=A8
def af4 :EF Ap 190 0 0:=EK A8
def aVq :(Ap.info? 190).bind (·.zero)=some (a3s):=A8
def aVI :JZ Ap 190 [(0,1),(1,1),(2,1)] (a3s):=MI A8 aVq A8
def aas :Ep Ap 168 false 1:=GZ A8
def abR :Ap.underlying 183=some (.int .u32):=A8
def aeh :BA 311=true:=A8
def aMF :(Ap.info? 152).bind (·.zero)=some (a5B):=A8
def abK :ZQ Ap 152 29 (a5B):=uT A8 aMF A8
def ai7 :Ep Ap 152 true 116:=GZ A8
def amk :Ap.underlying 152=some (.array 4 56):=A8
def zero30 :(Ap.info? 30).bind (·.zero)=some (a6z):=A8
def aaB :JZ Ap 30 [(0,1),(1,1),(2,1),(3,1),(4,1),(5,1),(6,1),(7,1),(8,1)] (a6z):=MI A8 zero30 A8
def aom :BA 148=true:=A8
def aQv :GX Ap 254 64 1 8:=KT A8
def zero64 :(Ap.info? 64).bind (·.zero)=some (.int .i64 0):=A8
def adu :Ap.underlying 254=some (.slice 64):=A8
def UL :GX Ap 23 66 4 32:=KT A8
def akI :BA 173=true:=A8
def aYX :Ap.underlying 256=some (.slice 22):=A8
def ace :GX Ap 256 22 1 24:=KT A8
def akg :BA 27=true:=A8
def agA :BA 211=true:=A8
def ahq :EF Ap 66 3 3:=EK A8
def aGu :(Ap.info? 89).bind (·.zero)=some (aBi):=A8
def aeC :JZ Ap 89 [(0,1),(1,1),(2,1)] (aBi):=MI A8 aGu A8
def aUl :GX Ap 86 89 3 24:=KT A8
def ano :Ap.underlying 86=some (.slice 89):=A8
def aZF :Ep Ap 89 true 3:=GZ A8
def aoq :EF Ap 89 2 2:=EK A8
def aRv :(Ap.info? 23).bind (·.zero)=some (.slice none 0 0):=A8
def an2 :BA 70=true:=A8
def aog :BA 40=true:=A8
def ahB :iV Ap 56 0 0 false 1=true:=A8
def aaz :EF Ap 32 0 0:=EK A8
def aj7 :EF Ap 32 1 1:=EK A8
def aZq :EF Ap 32 2 2:=EK A8
instance aqn :Kn Ap where
 und:=[(9,.string),(4,.bool),(3,.int .i64),(185,.int .u64),(5,.int .u8),(45,.int .i64),(122,.int .u64),(183,.int .u32)]
 arj:=⟨IJ,aeJ,Zm,ahs,a4q,aT1,apd,abR,trivial⟩
 ty:=[(52,true,16),(24,false,1),(46,false,1),(47,false,1),(48,false,1),(9,false,1),(83,true,2),(56,true,29),(3,false,1),(45,false,1),(4,false,1),(165,true,2),(50,true,9),(5,false,1),(54,true,2),(141,true,4),(147,true,3),(26,false,1),(234,true,5),(42,false,1),(23,false,1),(66,true,4),(30,true,9),(22,false,1),(64,false,1),(27,false,1),(28,false,1),(282,true,2),(237,false,1),(327,true,5),(266,true,7),(210,false,1),(251,false,1),(157,true,2),(196,false,1),(299,true,2),(410,true,4),(414,true,3),(306,true,3),(188,false,1),(187,false,1),(168,false,1),(152,true,116),(89,true,3)]
 hty:=⟨V9,aJt,abl,aOw,aR7,Zv,ao4,Fg,Fl,iU,ai5,aZ7,jP,amO,acC,Zq,Qk,ao1,aWY,afE,acs,Oe,OW,ain,aho,ab3,aht,al8,aii,abS,aYS,aiN,afo,VN,alA,aKz,aCh,wB,aY5,aaY,aZO,aas,ai7,aZF,trivial⟩
 fld:=[((56,10),10),((56,8),8),((56,9),9),((52,5),5),((52,6),6),((52,7),7),((50,0),0),((50,1),1),((56,1),1),((56,2),2),((56,5),5),((52,0),0),((52,4),4),((56,12),27),((54,0),0),((83,0),0),((56,3),3),((56,4),4),((56,6),6),((56,7),7),((83,1),1),((165,0),0),((165,1),1),((50,2),2),((50,3),3),((50,4),4),((50,5),5),((50,6),6),((50,7),7),((50,8),8),((52,1),1),((52,2),2),((52,3),3),((56,11),26),((56,0),0),((54,1),1),((30,0),0),((141,0),0),((147,0),0),((147,1),1),((147,2),2),((234,0),0),((234,1),1),((234,2),2),((234,3),3),((234,4),4),((141,3),3),((141,2),2),((141,1),1),((30,2),2),((66,1),1),((66,0),0),((30,1),1),((30,6),6),((66,2),2),((30,3),3),((30,4),4),((30,5),5),((30,7),7),((30,8),8),((282,0),0),((282,1),1),((339,0),0),((157,0),0),((157,1),1),((299,0),0),((299,1),1),((410,3),3),((410,0),0),((410,1),1),((410,2),2),((306,1),1),((351,0),0),((414,0),0),((306,0),0),((306,2),2),((190,2),2),((190,1),1),((190,0),0),((66,3),3),((89,2),2),((32,0),0),((32,1),1),((32,2),2)]
 hfld:=⟨aoc,apw,ap7,aea,aga,aYi,anh,afh,aok,aod,aeb,aYY,abH,ap6,akK,abV,aoy,ahg,anP,aqR,adX,aYw,aaF,ao0,aqC,aZb,aa4,aZL,alo,aeQ,alM,ajH,amr,aao,adA,aky,aoJ,afa,an7,ab7,anj,aeF,abO,amD,ahA,amN,afT,ahe,ahY,aeD,aZY,acr,agL,agQ,akc,aa3,akD,afS,ad1,aic,ach,acg,aj1,aiM,ahf,ah9,anQ,aZB,aoC,adr,aq0,ae6,ajM,agX,akl,aqK,apQ,aor,af4,ahq,aoq,aaz,aj7,aZq,trivial⟩
 part:=[((234,4),4,false,1),((306,0),0,false,1),((56,0),0,false,1)]
 hpart:=⟨anT,agn,ahB,trivial⟩
 zero:=[(52,a7f),(9,.string CS),(50,a9t),(5,.int .u8 0),(3,.int .i64 0),(56,a5I),(54,a9X),(141,a4d),(147,a8s),(24,.slice none 0 0),(83,a4z),(234,aS6),(26,.slice none 0 0),(66,a3O),(165,aMh),(266,a4u),(282,a5w),(287,a9s),(327,a4t),(332,a7n),(333,a6S),(339,a7w),(4,.bool false),(251,.map none),(157,a9G),(385,aAN),(306,aSK),(349,a4c),(299,a7q),(410,aBw),(351,a9N),(414,a9A),(22,.slice none 0 0),(42,.int .i64 0),(190,a3s),(152,a5B),(30,a6z),(64,.int .i64 0),(89,aBi),(23,.slice none 0 0)]
 hzero:=⟨⟨aRZ,A8⟩,⟨zero9,A8⟩,⟨aQQ,A8⟩,⟨Sl,A8⟩,⟨zero3,A8⟩,⟨Jv,A8⟩,⟨aN0,A8⟩,⟨aK6,A8⟩,⟨Qy,A8⟩,⟨zero24,A8⟩,⟨a1P,A8⟩,⟨abX,A8⟩,⟨zero26,A8⟩,⟨ZH,A8⟩,⟨aN6,A8⟩,⟨aVU,A8⟩,⟨aJL,A8⟩,⟨aXA,A8⟩,⟨aVC,A8⟩,⟨aRw,A8⟩,⟨aR8,A8⟩,⟨aTZ,A8⟩,⟨y8,A8⟩,⟨aaA,A8⟩,⟨a3b,A8⟩,⟨aUI,A8⟩,⟨adQ,A8⟩,⟨aQd,A8⟩,⟨aC3,A8⟩,⟨aEH,A8⟩,⟨aW3,A8⟩,⟨aHI,A8⟩,⟨zero22,A8⟩,⟨nC,A8⟩,⟨aVq,A8⟩,⟨aMF,A8⟩,⟨zero30,A8⟩,⟨zero64,A8⟩,⟨aGu,A8⟩,⟨aRv,A8⟩,trivial⟩
 st:=[(50,[(0,1),(1,1),(2,1),(3,1),(4,1),(5,1),(6,1),(7,1),(8,1)],a9t),(52,[(0,1),(1,1),(2,1),(3,1),(4,1),(5,1),(6,1),(7,9)],a7f),(54,[(0,1),(1,1)],a9X),(56,[(0,1),(1,1),(2,1),(3,1),(4,1),(5,1),(6,1),(7,1),(8,1),(9,1),(10,16),(26,1),(27,2)],a5I),(141,[(0,1),(1,1),(2,1),(3,1)],a4d),(147,[(0,1),(1,1),(2,1)],a8s),(83,[(0,1),(1,1)],a4z),(66,[(0,1),(1,1),(2,1),(3,1)],a3O),(282,[(0,1),(1,1)],a5w),(287,[(0,1)],a9s),(339,[(0,1)],a7w),(157,[(0,1),(1,1)],a9G),(385,[],aAN),(349,[],a4c),(299,[(0,1),(1,1)],a7q),(410,[(0,1),(1,1),(2,1),(3,1)],aBw),(351,[(0,1)],a9N),(414,[(0,1),(1,1),(2,1)],a9A),(190,[(0,1),(1,1),(2,1)],a3s),(30,[(0,1),(1,1),(2,1),(3,1),(4,1),(5,1),(6,1),(7,1),(8,1)],a6z),(89,[(0,1),(1,1),(2,1)],aBi)]
 hst:=⟨acf,aeu,abI,amA,apT,adz,aZv,afl,aeI,abh,am2,af9,aa7,acN,ais,afR,ams,adf,aVI,aaB,aeC,trivial⟩
 arr:=[(266,1,a4u),(327,1,a4t),(332,1,a7n),(333,1,a6S),(152,29,a5B)]
 harr:=⟨aaq,aqE,aq8,amw,abK,trivial⟩
 sl:=[(24,3),(46,9),(47,83),(48,165),(22,56),(210,5),(113,141),(26,147),(196,26),(356,24),(25,147),(23,66),(27,403),(28,405),(283,282),(367,4),(155,157),(300,299),(407,410),(412,414),(254,64),(256,22),(86,89)]
 hsl:=⟨JW,agz,aSp,aVn,Kv,aAm,a2Q,ru,aEv,aBt,UH,QJ,aex,amK,afC,aap,YM,aIB,aCt,wz,adu,aYX,ano,trivial⟩
abbrev WV :=λx=>Bc.arr 9 1 (List.map DV x)
abbrev Ii :=λx=>Bc.arr 5 1 (List.map Dt x)
abbrev CO :=λx=>Bc.arr 3 1 (List.map Ah x)
abbrev YL :=λx=>Bc.arr 157 2 (List.map Kz x)
abbrev Lc :=λx=>Bc.arr 147 3 (List.map BQ x)
abbrev Et :=λx=>Bc.arr 56 29 (List.map Au x)
abbrev iR :=λx=>Bc.arr 414 3 (List.map Pz x)
abbrev ND :=λx=>Bc.arr 66 4 (List.map D5 x)
abbrev vP :=λx=>Bc.arr 24 1 (List.map (BR Ah) x)
abbrev Qs :=λx=>Bc.arr 141 4 (List.map Lj x)
abbrev AU :=λx=>Am.d (Ah x)
abbrev IX :=λx=>Am.d ((BR Dt) x)
abbrev Cm :=λx=>Am.d (Au x)
abbrev Ia :=λx=>Am.d ((BR DV) x)
abbrev Iz :=λx=>Am.d (FW x)
abbrev II :=λx=>Am.d (Fz x)
abbrev BZ :=λx=>Am.d ((BR Ah) x)
abbrev CP :=λx=>Am.d (DV x)
abbrev Ai :=λx=>Am.d (EH x)
abbrev PZ :=λx=>Am.d ((BR F5) x)
abbrev PG :=λx=>Am.d ((BR F8) x)
abbrev BI :=λx=>Am.d ((BR Au) x)
abbrev DU :=λx=>Am.d ((BR BQ) x)
abbrev VY :=λx=>Am.d (BQ x)
abbrev JL :=λx=>Am.d ((BR (BR BQ)) x)
abbrev XG :=λx=>Am.d ((BR MK) x)
abbrev X7 :=λx=>Am.d ((BR MQ) x)
abbrev FC :=λx=>Am.d (EG x)
abbrev Rw :=λx=>Am.d (D5 x)
abbrev J8 :=λx=>Am.d ((BR D5) x)
abbrev MR :=λx=>Am.d ((BR Lj) x)
abbrev YU :=λx=>Am.d (Lj x)
variable {H:AA CB}{g:FuncId}{ok:Nat->Prop}{w:BU}
section
open Go.RowKit Go.Sort
abbrev gG :Type:={ p:Ad×AA BJ//p.2.length=29/\(∀v∈p.2,v.oneCell'=true)/\p.2[0]? =some (.int .i64 p.1.Id)/\p.2[7]? =some (.int .i64 p.1.Depth) }
instance : Inhabited gG:=⟨⟨(EI,List.replicate 29 (.int .i64 0)),rfl,λv hv=>by rw[(List.mem_replicate.1 hv).2];rfl,rfl,rfl⟩⟩
def aLX {cs:AA D}{vs:AA BJ}{i:Nat}{n:Int}(h:Fq ok w H (cs.map .d) vs)(hi:cs[i]? =some (Ah n)):vs[i]? =some (.int .i64 n):=by
 have hl:i<cs.length:=(H6.1 hi).1;have j:i<vs.length:=by rw[h.1,DK];exact hl
 have q:=(h.2 i (by rw[DK];exact hl)).2;simp only[List.getD,KJ,hi,Jp,OI,EJ j]at q;rw[EJ j];cases q with |d _ _ h=>rw[ET.Ze h]
def apR {p:Ad×AA BJ}(h:Fq ok w H ((Au p.1).cells.map .d) p.2):p.2.length=29/\(∀v∈p.2,v.oneCell'=true)/\p.2[0]? =some (.int .i64 p.1.Id)/\p.2[7]? =some (.int .i64 p.1.Depth):=
 ⟨h.1,aK7 h,aLX h rfl,aLX h rfl⟩
def aTL {ok:Nat->Prop}{w:BU}{H:AA CB}:∀(z:AA (Ad×AA BJ)),(∀p∈z,Fq ok w H ((Au p.1).cells.map .d) p.2)->∃y:AA gG,y.map (·.1)=z
 | [],_=>⟨[],rfl⟩
 |p::z,h=>by
  obtain⟨y,j⟩:=aTL z λq I=>h q (JX _ I);exact⟨⟨p,apR (h p (Iu ..))⟩::y,BM (p:: ·) j⟩
def QM (x:gG):AA BJ:=x.1.2
def a3r (x:gG):(QM x).length=29:=x.2.1
def amS (x:gG):∀v∈QM x,v.oneCell'=true:=x.2.2.1
def IU (x:Ad):Int×Int:=(x.Depth,x.Id)
def Yw (p q:Int×Int):Int:=if p.1=q.1 then Kr p.2 q.2 else Kr p.1 q.1
def alq (p q:Int×Int):Yw p q<0↔p.1<q.1\/p.1=q.1/\p.2<q.2:=by
 unfold Yw;split
 ·rw[yT];omega
 rw[yT];omega
def KL (p q:Int×Int):Ac:= !decide (Yw q p<0)
def a1n (p q:Int×Int):KL p q=true↔¬(q.1<p.1\/q.1=p.1/\q.2<p.2):=by
 unfold KL;rw[RU,qR,alq]
def aVg (p q:Int×Int):KL p q=false↔(q.1<p.1\/q.1=p.1/\q.2<p.2):=by
 rw[←Xq,a1n,Decidable.not_not]
def aXx (x y z:Int×Int)(h:KL x y=true)(k:KL y z=true):KL x z=true:=by
 rw[a1n]at *;omega
def akN (x y:Int×Int)(h:KL x y=false):KL y x=true:=by
 rw[aVg]at h;rw[a1n];omega
def ah5 (x y:Int×Int)(h:KL x y=true)(k:KL y x=true):x=y:=by
 rw[a1n]at *;obtain⟨j,q⟩:=x;obtain⟨I,J⟩:=y;simp only[VF]at *;omega
def lt2_trans (x y z:Int×Int)(h:KL y x=false)(k:KL z y=false):KL z x=false:=by
 rw[aVg]at *;omega
section
variable {α:Type}
def aAA (f:α->Int×Int)(x y:α):ltOf (λx y=>Yw (f x) (f y)) x y= !KL (f y) (f x):=by simp[ltOf,KL]
def anV (f:α->Int×Int):SWO (ltOf λx y:α=>Yw (f x) (f y)):=by
 refine⟨λx=>?_,λx y z h k=>?_,λx y z h k=>?_⟩
 ·rw[aAA,(a1n (f x) (f x)).2 AL];rfl
 ·rw[aAA,RU]at *;exact lt2_trans _ _ _ h k
 rw[aAA,Bool.not_eq_false']at *;exact aXx _ _ _ k h
end
def xC :AA (Int×Int)->Ac
 | []=>true
 |x::l=> !l.contains x&&xC l
def aOM :∀(l:AA Ad),xC (l.map IU)=true->∀x∈l,∀y∈l,IU x=IU y->x=y
 | [],_,x,j,_,_,_=>absurd j H9
 |e::l,h,x,j,y,U,q=>by
  rw[JE]at h;unfold xC at h;rw[Dx,RU]at h
  have I:IU e∉l.map IU:=λhm=>by
   have :(l.map IU).contains (IU e)=true:=rV
   rw[this]at h;cases h.1
  rcases G7.1 j with J|L<;>rcases G7.1 U with M|O
  ·rw[J,M]
  ·exact absurd (GH.2 ⟨y,O,by rw[←q,J]⟩) I
  ·exact absurd (GH.2 ⟨x,L,by rw[q,M]⟩) I
  exact aOM l h.2 x L y O q
abbrev Aj:=AA Ad
def a5Z (l:AA Ad):AB Aj:=if l.length<=34359738368/\xC (l.map IU)=true then some (Oz (λx y=>KL (IU x) (IU y)) l)else none
def acz {l m:AA Ad}(hd:xC (l.map IU)=true)(hp:m.Perm l)(hs:m.Pairwise (λa b=>KL (IU a) (IU b)=true)):m=Oz (λx y=>KL (IU x) (IU y)) l:=
 (hp.trans (Xi _ l).symm).eq_of_pairwise (λa b ha j h1 h2=>aOM l hd a (hp.mem_iff.1 ha) b ((Xi _ l).mem_iff.1 j) (ah5 _ _ h1 h2)) hs (aDk (le:=λx y=>KL (IU x) (IU y)) (λx y z=>aXx (IU x) (IU y) (IU z)) (λx y=>akN (IU x) (IU y)) l)
def aTO {cs:AA BJ}{i d:Int}(h:cs.length=29)(h0:cs[0]? =some (.int .i64 i))(h7:cs[7]? =some (.int .i64 d)):∃a1 a2 a3 a4 a5 a6 a8 a9 j q I J L M O U Y Z a20 a21 a22 a23 a24 a25 a26 a27 a28:BJ,cs=[.int .i64 i,a1,a2,a3,a4,a5,a6,.int .i64 d,a8,a9,j,q,I,J,L,M,O,U,Y,Z,a20,a21,a22,a23,a24,a25,a26,a27,a28]:=by
 match cs,h,h0,h7 with
 | [a0,a1,a2,a3,a4,a5,a6,a7,a8,a9,j,q,I,J,L,M,O,U,Y,Z,a20,a21,a22,a23,a24,a25,a26,a27,a28],_,h0,h7=>
   have e0:a0=.int .i64 i:=by simpa using h0
   have e7:a7=.int .i64 d:=E9 h7;exact⟨a1,a2,a3,a4,a5,a6,a8,a9,j,q,I,J,L,M,O,U,Y,Z,a20,a21,a22,a23,a24,a25,a26,a27,a28,by rw[e0,e7]⟩
def aiD (hc:∀(r ai ad bi bd:Int) (_:r=if ad=bd then Kr ai bi else Kr ad bd) (a1 a2 a3 a4 a5 a6 a8 a9 j I J L M O U Y Z a19 a20 a21 a22 a23 a24 a25 a26 a27 a28 b1 b2 b3 b4 b5 b6 b8 b9 b10 b11 b12 b13 b14 b15 b16 b17 b18 b19 b20 b21 b22 b23 b24 b25 b26 b27 b28:BJ) (W:BU),Calls P g #[.agg #[.int .i64 ai,a1,a2,a3,a4,a5,a6,.int .i64 ad,a8,a9,j,I,J,L,M,O,U,Y,Z,a19,a20,a21,a22,a23,a24,a25,a26,a27,a28],.agg #[.int .i64 bi,b1,b2,b3,b4,b5,b6,.int .i64 bd,b8,b9,b10,b11,b12,b13,b14,b15,b16,b17,b18,b19,b20,b21,b22,b23,b24,b25,b26,b27,b28]] W λe w'=>e=.returned (.int .i64 r)/\∃q os',w'=grow (W.drewN q) os')(blk off size:Nat)(w:BU):CmpLays P g #[] QM 29 (λx y=>Yw (IU x.1.1) (IU y.1.1)) blk off size w:=λm os dk _ x y=>by
 obtain⟨⟨x1,xs⟩,x2,x3,x4,x5⟩:=x;obtain⟨⟨y1,ys⟩,y2,y3,y4,y5⟩:=y;obtain⟨a1,a2,a3,a4,a5,a6,a8,a9,j,I,J,L,M,O,U,Y,Z,a19,a20,a21,a22,a23,a24,a25,a26,a27,a28,ex⟩:=aTO (cs:=xs) (i:=x1.Id) (d:=x1.Depth) x2 x4 x5;subst ex;obtain⟨b1,b2,b3,b4,b5,b6,b8,b9,b10,b11,b12,b13,b14,b15,b16,b17,b18,b19,b20,b21,b22,b23,b24,b25,b26,b27,b28,ey⟩:=aTO (cs:=ys) (i:=y1.Id) (d:=y1.Depth) y2 y4 y5;subst ey;exact hc _ x1.Id x1.Depth y1.Id y1.Depth rfl a1 a2 a3 a4 a5 a6 a8 a9 j I J L M O U Y Z a19 a20 a21 a22 a23 a24 a25 a26 a27 a28 b1 b2 b3 b4 b5 b6 b8 b9 b10 b11 b12 b13 b14 b15 b16 b17 b18 b19 b20 b21 b22 b23 b24 b25 b26 b27 b28 _
open Go.Shelf in
set_option maxHeartbeats 2000000 in
def aBP {ρ:Ren}{T:Bq}(aNh:SlLaysF0.n6 P ρ)(hagg:∀w,(isAgg (ρ.t 24)).run P w=.ok true w)(hsize:∀w,(Go.sizeOf (ρ.t 24)).run P w=.ok 29 w)(eg:∀args w,(callFunc g args).run P w=.ok (.enter g args) w)(hcmp:∀blk off size w,CmpLays P g #[] QM 29 (λx y=>Yw (IU x.1.1) (IU y.1.1)) blk off size w)(l r:AA Ad)(h:a5Z l=some r):
 EU P (ρ.f 6) [.aQ 0,.d (.fn (.func g) [] [])] [.arr T 29 (l.map Au)] (.eu []) [.arr T 29 (r.map Au)]:=by
 unfold a5Z at h;split at h
 ·rename_i hnd;obtain⟨hn,hd⟩:=hnd;obtain rfl:=E9 h;refine EU.aIw (k:=29) (e:=Au) (λx=>rfl) λok H v w z z1 z3 how=>?_;obtain⟨y,hy⟩:=aTL z z3;have O:y.length=l.length:=by rw[←z1,←hy];simp
  have M:z.flatMap (·.2)=y.flatMap QM:=by rw[←hy,aFE];rfl
  rw[M]at how;have hlr:(Oz (λx y=>KL (IU x) (IU y)) l).length=l.length:=(Xi _ l).length_eq;rcases how.2 with⟨rfl,h0⟩|⟨b,cap,U,rfl,hbase,hg,hnc,hcm,hcs,Y⟩
  ·have hl:l=[]:=I4 h0;subst hl;refine(AnyF.slices_SortFunc_none aNh none 0 _ w).mono ?_;rintro e w' ⟨rfl,h⟩;subst h;exact⟨rfl,[],λp hp=>absurd hp H9,rfl,lF.nil _ _ _,Turns.refl _ _⟩
  have hgs:b<w.heap.size:=(Ic.1 hg).1;have J:=a6t (enc:=QM) a3r y
  have hH:HoldsK QM 29 w b 0 y.toArray:=by
   unfold HoldsK;have Z:(flatK QM 29 y.toArray).size=l.length*29:=by simp[O]
   generalize flatK QM 29 y.toArray=F at J Z;intro j hj;refine⟨?_,by simp[World.frozen?,hg]⟩;have e0:(U.toList.take (l.length*29))[j]? =(y.flatMap QM)[j]? :=by rw[Y]
   rw[Qr AL,←J]at e0;simp only[World.cell?,hg,KW];simp only[Option.isSome_none,Ru,Ky];rw[←YK,e0,YK,kH F j hj,dX hj];rfl
  have :=AnyQ.slices_SortFunc aNh 29 hagg hsize QM a3r amS (λx y=>Yw (IU x.1.1) (IU y.1.1)) (anV λx:gG=>IU x.1.1) g #[] b 0 cap y.toArray w eg (hcmp _ _ _ _) hH hgs Eh;have hys:y.toArray.size=l.length:=by simp[O]
  rw[hys]at this;refine this.mono ?_;rintro e' w' ⟨rfl,I,n,os,hp,hs,rfl⟩;obtain⟨hsz,_,L⟩:=hp;have q:I.size=l.length:=by simpa[O]using hsz
  have e1:I.extract 0 l.length=I:=by rw[←q];exact aBg
  have e2:y.toArray.extract 0 l.length=y.toArray:=by rw[←hys];exact aBg
  rw[e1,e2]at L;have hpl:I.toList.Perm y:=kS
  have hm:I.toList.map (λx=>x.1.1)=Oz (λx y=>KL (IU x) (IU y)) l:=by
   have aPG:y.map (λx=>x.1.1)=l:=by rw[←z1,←hy,Y1];rfl
   refine acz hd ((hpl.map _).trans (by rw[aPG])) ?_;rw[jR];refine Jq.2 λi j hi hj hij=>?_;have :=hs i j (F6 _) hij (by simpa[q]using hj);rw[aAA (λx:gG=>IU x.1.1),kH I i IQ,kH I j aBN]at this;simpa using this
  refine⟨rfl,I.toList.map (·.1),λp hp=>?_,by rw[Y1];exact hm,?_⟩
  ·obtain⟨x,hx,rfl⟩:=GH.1 hp;rw[←hy];exact GH.2 ⟨x,hpl.mem_iff.1 hx,rfl⟩
  have hfd:(I.toList.map (·.1)).flatMap (·.2)=I.toList.flatMap QM:=by rw[aFE];rfl
  rw[hfd,hlr];have hF:=a6t (enc:=QM) a3r I.toList;rw[jW]at hF;have Z:(flatK QM 29 I).size=l.length*29:=ku
  generalize hFF:flatK QM 29 I=F at hF Z;refine⟨⟨by rw[wo a3r];simp[q],.inr ⟨b,cap,putCells id 0 F U,rfl,F6 _,?_,AL,hcm,by simpa[putCells]using hcs,?_⟩⟩,⟨rfl,rfl,rfl,by simp[sortWorldK,putRowK],λc hc hne=>?_⟩⟩
  ·unfold sortWorldK putRowK;rw[hFF,heap_grow_old _ _ (by simpa using hgs)];simp[putRow,mapBlock,Sort.ahead,X0,hg,onCells]
  ·rw[←hF];apply dG;intro j;by_cases hj:j<l.length*29
   ·have hjc:j<U.size:=by have :=Ko 29 hnc;omega
    rw[Qr hj,YK,YK];have hjF:j<F.size:=AL
    simp[putCells,hjF,hjc]
   rw[aLY AL,Lu Eh]
  unfold sortWorldK putRowK;rw[heap_grow_old _ _ a2Z];have :b≠c:=λe=>hne pI;simp[putRow,mapBlock,Sort.ahead,X0,this]
 cases h
end
end Go.Proofs.YteiakhlfaaifnaaGreat
namespace Go.Proofs
open Go.Proofs.YteiakhlfaaifnaaGreat
open Go.Shelf
def Tryz.ali:Go.Shelf.Ren:=⟨λ|6=>307|15=>88|14=>374|28=>145|29=>146|20=>417|21=>418|22=>419|23=>420|24=>421|25=>422|26=>423|27=>424|46=>444|47=>201|48=>202|49=>445|50=>446|57=>458|n=>n,λ|22=>22|24=>56|25=>296|3=>3|39=>122|0=>0|53=>183|55=>185|4=>4|46=>176|45=>175|50=>126|5=>5|9=>9|66=>219|70=>223|76=>269|77=>270|n=>n,λ|n=>n⟩
def Tryz.aG5:SlLaysF0.n6 Ap Tryz.ali:={
 mixed:=A8
 f6:=⟨Tryz.f307.name,Ba,Tryz.func307.trans (BM some A8)⟩
 f14:=⟨Tryz.f374.name,Ba,Tryz.func374.trans (BM some A8)⟩
 f15:=Tryz.func88.trans (BM some A8)
 f20:=⟨Tryz.f417.name,Ba,Tryz.func417.trans (BM some A8)⟩
 f21:=⟨Tryz.f418.name,Ba,Tryz.func418.trans (BM some A8)⟩
 f22:=⟨Tryz.f419.name,Ba,Tryz.func419.trans (BM some A8)⟩
 f23:=⟨Tryz.f420.name,Ba,Tryz.func420.trans (BM some A8)⟩
 f24:=⟨Tryz.f421.name,Ba,Tryz.func421.trans (BM some A8)⟩
 f25:=⟨Tryz.f422.name,Ba,Tryz.func422.trans (BM some A8)⟩
 f26:=⟨Tryz.f423.name,Ba,Tryz.func423.trans (BM some A8)⟩
 f27:=⟨Tryz.f424.name,Ba,Tryz.func424.trans (BM some A8)⟩
 f28:=Tryz.func145.trans (BM some A8)
 f29:=Tryz.func146.trans (BM some A8)
 f46:=⟨Tryz.f444.name,Ba,Tryz.func444.trans (BM some A8)⟩
 f47:=Tryz.func201.trans (BM some A8)
 f48:=Tryz.func202.trans (BM some A8)
 f49:=⟨Tryz.f445.name,Ba,Tryz.func445.trans (BM some A8)⟩
 f50:=⟨Tryz.f446.name,Ba,Tryz.func446.trans (BM some A8)⟩
 f57:=⟨Tryz.f458.name,Ba,Tryz.func458.trans (BM some A8)⟩
 t0:=aBB
 a0:=Tryz.isAgg0
 z0:=Tryz.sizeOf0
 v0:=a9v
 t3:=IL
 a3:=lq
 z3:=qU
 v3:=qI
 t4:=SG
 a4:=Sub
 z4:=RdC
 v4:=zf
 t5:=uP
 a5:=Agr
 z5:=wI
 v5:=a00
 t9:=NW
 a9:=a0P
 z9:=uw
 v9:=a0g
 t22:=rE
 a22:=Tryz.isAgg22
 z22:=Tryz.sizeOf22
 v22:=Tryz.zeroValue22
 t25:=Tryz.underlying296
 a25:=Tryz.isAgg296
 z25:=Tryz.sizeOf296
 v25:=Tryz.zeroValue296
 t39:=aAU
 a39:=Tryz.isAgg122
 z39:=a6L
 v39:=aBK
 t45:=Tryz.underlying175
 a45:=Tryz.isAgg175
 z45:=Tryz.sizeOf175
 v45:=Tryz.zeroValue175
 t46:=Tryz.underlying176
 a46:=Tryz.isAgg176
 z46:=Tryz.sizeOf176
 v46:=Tryz.zeroValue176
 t50:=Tryz.underlying126
 a50:=Tryz.isAgg126
 z50:=Tryz.sizeOf126
 v50:=Tryz.zeroValue126
 t53:=a5t
 a53:=Tryz.isAgg183
 z53:=aAH
 v53:=a3n
 t55:=Tryz.underlying185
 a55:=Tryz.isAgg185
 z55:=Tryz.sizeOf185
 v55:=Tryz.zeroValue185
 t66:=Tryz.underlying219
 a66:=Tryz.isAgg219
 z66:=Tryz.sizeOf219
 v66:=Tryz.zeroValue219
 t70:=Tryz.underlying223
 a70:=Tryz.isAgg223
 z70:=Tryz.sizeOf223
 v70:=Tryz.zeroValue223
 t76:=Tryz.underlying269
 a76:=Tryz.isAgg269
 z76:=Tryz.sizeOf269
 v76:=Tryz.zeroValue269
 t77:=Tryz.underlying270
 a77:=Tryz.isAgg270
 z77:=Tryz.sizeOf270
 v77:=Tryz.zeroValue270 }
end Go.Proofs
namespace Go.Proofs.YteiakhlfaaifnaaGreat
open Go.Proofs.Tryz
section
open Go.RowKit Go.Sort
def abW (a:Int)(W:BU):Calls Ap 205 #[.int .i64 a] W λe w'=>e=.returned (.bool false)/\w'=W:=by
 go_enter func205,Tryz.ntmps205
 go_wp2
 all_goals (go_ret;exact⟨Bf,rfl⟩)
def adM (a b:Int)(W:BU):Calls Ap 310 #[.int .i64 a,.int .i64 b] W λe w'=>e=.returned (.int .i64 (Kr a b))/\w'=W:=by
 unfold Kr
 go_enter func310,Tryz.ntmps310
 go_wp2_with (go_at_call 205;refine(abW _ _).mono ?_;rintro e w' ⟨rfl,rfl⟩)
 all_goals (go_ret;exact⟨rfl,rfl⟩)
def aYj (r x y:Int)(j:r=if x=0 then y else x)(b c:Nat)(W:BU)(J:W.cell? ⟨b,0,none⟩=some (.int .i64 x))(h1:W.cell? ⟨b,1,none⟩=some (.int .i64 y)):Calls Ap 309 #[.slice (some ⟨b,0,none⟩) 2 c] W λe w'=>e=.returned (.int .i64 r)/\w'=W:=by
 have q:x≠0->x=r:=λh=>by rw[j,EC h]
 have I:x=0->y=r:=λh=>by rw[j,Dw h]
 clear j
 go_enter func309,Tryz.ntmps309
 go_wp2
 refine wp_loop_rounds 3 ?_;rw[rounds_succ]
 go_wp2
 ·rename_i h
  go_ret
  exact⟨by rw[q LZ];rfl,rfl⟩
 rename_i h;have L:=I LZ;rw[rounds_succ]
 go_wp2
 ·go_ret
  exact⟨rfl,rfl⟩
 rename_i h2;rw[rounds_succ]
 go_wp2
 go_ret
 have h3:r=0:=LC
 subst h3;exact⟨rfl,rfl⟩
set_option maxRecDepth 100000 in
set_option maxHeartbeats 1000000 in
def adq (r ai ad bi bd:Int)(hr:r=if ad=bd then Kr ai bi else Kr ad bd)(a1 a2 a3 a4 a5 a6 a8 a9 a10 a11 a12 a13 a14 a15 a16 a17 a18 a19 a20 a21 a22 a23 a24 a25 a26 a27 a28 b1 b2 b3 b4 b5 b6 b8 b9 b10 b11 b12 b13 b14 b15 b16 b17 b18 b19 b20 b21 b22 b23 b24 b25 b26 b27 b28:BJ)(W:BU):Calls Ap 308 #[.agg #[.int .i64 ai,a1,a2,a3,a4,a5,a6,.int .i64 ad,a8,a9,a10,a11,a12,a13,a14,a15,a16,a17,a18,a19,a20,a21,a22,a23,a24,a25,a26,a27,a28],.agg #[.int .i64 bi,b1,b2,b3,b4,b5,b6,.int .i64 bd,b8,b9,b10,b11,b12,b13,b14,b15,b16,b17,b18,b19,b20,b21,b22,b23,b24,b25,b26,b27,b28]] W λe w'=>e=.returned (.int .i64 r)/\∃q os',w'=grow (W.drewN q) os':=by
 generalize hA:(#[.int .i64 ai,a1,a2,a3,a4,a5,a6,.int .i64 ad,a8,a9,a10,a11,a12,a13,a14,a15,a16,a17,a18,a19,a20,a21,a22,a23,a24,a25,a26,a27,a28]:Bh BJ)=A;generalize hB:(#[.int .i64 bi,b1,b2,b3,b4,b5,b6,.int .i64 bd,b8,b9,b10,b11,b12,b13,b14,b15,b16,b17,b18,b19,b20,b21,b22,b23,b24,b25,b26,b27,b28]:Bh BJ)=B;have J:A[0]? =some (.int .i64 ai):=by rw[←hA];rfl
 have L:A[7]? =some (.int .i64 ad):=by rw[←hA];rfl
 have M:B[0]? =some (.int .i64 bi):=by rw[←hB];rfl
 have O:B[7]? =some (.int .i64 bd):=by rw[←hB];rfl
 have hAs:A.size=29:=by rw[←hA];rfl
 have hBs:B.size=29:=by rw[←hB];rfl
 clear hA hB
 have U:r=if Kr ad bd=0 then Kr ai bi else Kr ad bd:=by
  rw[hr];unfold Kr;by_cases h1:ad<bd
  ·rw[Dw h1,EC AL];simp
  by_cases h2:ad>bd
  ·rw[EC h1,Dw h2,EC AL];simp
  rw[EC h1,EC h2,Dw AL];simp
 have j:=adM;clear hr;generalize Kr=cm at j U;have ca:=aJV W A 56;have cb:=aJV (W.alloc (.cells A 56)) B 56;have Y:(W.alloc (.cells A 56)).heap.size=W.heap.size+1:=Bf
 have I:∀k,((W.alloc (.cells A 56)).alloc (.cells B 56)).cell? ⟨W.heap.size,k,none⟩=A[k]? :=λk=>by rw[aJB _ _ _ (by rw[Y];exact Xe _)];exact ca k
 rw[Y]at cb;have Z:=(I 0).trans J;have fa7:=(I 7).trans L;have fb0:=(cb 0).trans M;have fb7:=(cb 7).trans O;have hg:∃os,(W.alloc (.cells A 56)).alloc (.cells B 56)=grow W os:=⟨_,by rw[alloc_eq_grow,alloc_eq_grow,grow_grow]⟩
 have hs2:((W.alloc (.cells A 56)).alloc (.cells B 56)).heap.size=W.heap.size+2:=Bf
 clear ca cb I J L M O
 go_enter func308,Tryz.ntmps308
 go_wp2
 generalize(W.alloc (.cells A 56)).alloc (.cells B 56)=w1 at Z fa7 fb0 fb7 hg hs2 ⊢;refine wp_region_still_tail 10 A8 A8 ?_;simp only[aHm,yj,List.drop_succ_cons,pU]
 repeat still_step
 still_call (j _ _ _)
 repeat still_step
 still_call (j _ _ _)
 refine wpStill_nil ?_
 change wpList _ _ _ _ _ w1.drew
 have hg2:∃os,w1.drew=grow (W.drewN 1) os:=by
  obtain⟨os,rfl⟩:=hg;exact⟨os,rfl⟩
 generalize w1.drew=w2 at hg2 ⊢;have hc:=aJV w2 #[.int .i64 (cm ad bd),.int .i64 (cm ai bi)] 3;have hc0:=hc 0;have hc1:=hc 1;clear hc Z fa7 fb0 fb7 hg hs2 j;simp only[List.getElem?_toArray]at hc0 hc1
 go_wp2_with (go_at_call 309;refine(aYj r _ _ U _ _ _ hc0 hc1).mono ?_;rintro e w' ⟨rfl,rfl⟩)
 all_goals (go_ret;obtain⟨os,rfl⟩:=hg2;exact⟨rfl,1,_,by rw[alloc_eq_grow,grow_grow]⟩)
def alK (l r:AA Ad)(h:a5Z l=some r):
 Dh 307 [.aQ 0,.d (.fn (.func 308) [] [])] [.arr 56 29 (l.map Au)] (.eu []) [.arr 56 29 (r.map Au)]:=
 aBP (ρ:=Tryz.ali) Tryz.aG5 Tryz.isAgg56 Tryz.sizeOf56 (enters_of func308 A8 rfl) (aiD λr j ad bi q I=>adq r j ad bi q I) l r h
end
section
set_option maxRecDepth 20000
set_option maxHeartbeats 4000000
def aDr (j:Ad)(I:(Int->AB Ac)):Int->AB Ac:=λq=>(cond (q<(j.Content.Levels.Users.length:Int)) ((Aq j.Content.Levels.Users q).bind λJ=>(cond ((J.User.size:Int)>2000) (some true) (I (Ar (q+1))))) (some false))
def aFw (j:Ad):Int->AB Ac:=bg (aDr j) Aw
def aH0 (j:Ad)(I:(Int->AB Ac)):Int->AB Ac:=λq=>(cond (q<(j.Content.iK.length:Int)) ((Aq j.Content.iK q).bind λJ=>(cond ((J.size:Int)>2000) (some true) (I (Ar (q+1))))) (aFw j 0))
def aI1 (j:Ad):Int->AB Ac:=bg (aH0 j) Aw
def aCB (j:Ad)(I:(Int->AB Ac)):Int->AB Ac:=λq=>(cond (q<(j.Content.Allow.length:Int)) ((Aq j.Content.Allow q).bind λJ=>(cond ((J.size:Int)>2000) (some true) (I (Ar (q+1))))) (aI1 j 0))
def aWm (j:Ad):Int->AB Ac:=bg (aCB j) Aw
def vX (j:Ad):AB Ac:=(cond ((j.bP.length:Int)>40) (some true) (some (decide ((j.bQ.length:Int)>40)))).bind λO=>(cond O (some true) (some (decide ((j.Content.Allow.length:Int)>40)))).bind λU=>(cond U (some true) (some (decide ((j.Content.iK.length:Int)>40)))).bind λY=>(cond Y (some true) (some (decide ((j.Content.Levels.Users.length:Int)>40)))).bind λZ=>(cond Z (some true) (some (decide ((j.Content.Levels.Kinds.length:Int)>40)))).bind λx9=>(cond x9 (some true) ((cond ((j.Room.size:Int)>2000) (some true) (some (decide ((j.bG.size:Int)>2000)))).bind λq=>(cond q (some true) (some (decide ((j.Key.size:Int)>2000)))).bind λI=>(cond I (some true) (some (decide ((j.Content.Text.size:Int)>2000)))).bind λJ=>(cond J (some true) (some (decide ((j.Content.Via.size:Int)>2000)))).bind λL=>(cond L (some true) (some (decide ((j.rM.Server.size:Int)>2000)))).bind λM=>(cond M (some true) (aWm j 0))))
def aOP :=Dk func20 rfl vX Cm Ai λj r h=>AZ<|AZ<|Aa<|AP 2<|.p (BK Ah j.bP)<|.a 1<|AO h λq I h=>.mg 13 5 (Ai q) (.bi I (k2:=λh=>.a 2<|.Z (BK Ah j.bQ)<|CU))<|.a 1<|AO h λq I h=>.mg 20 4 (Ai q) (Cb I (k2:=λe i=>by subst e;have h:=i;exact .a 2<|.Z (BK DV j.Content.Allow)<|CU))<|.a 1<|AO h λq I h=>.mg 26 4 (Ai q) (Cb I (k2:=λe i=>by subst e;have h:=i;exact .a 2<|.Z (BK DV j.Content.iK)<|CU))<|.a 1<|AO h λq I h=>.mg 32 5 (Ai q) (Cb I (k2:=λe i=>by subst e;have h:=i;exact .a 3<|.Z (BK F5 j.Content.Levels.Users)<|CU))<|.a 1<|AO h λq I h=>.mg 39 5 (Ai q) (Cb I (k2:=λe i=>by subst e;have h:=i;exact .a 3<|.Z (BK F8 j.Content.Levels.Kinds)<|CU))<|.aT<|BF h Bo λh=>Aa<|AP 4<|AO h λq I h=>.mg 49 5 (Ai q) (.bi I)<|.a 1<|AO h λq I h=>.mg 56 4 (Ai q) (Cb I)<|.a 1<|AO h λq I h=>.mg 62 4 (Ai q) (Cb I)<|.a 1<|AO h λq I h=>.mg 68 4 (Ai q) (Cb I)<|.a 1<|AO h λq I h=>.mg 74 5 (Ai q) (Cb I)<|.aT<|BF h Bo λh=>Aa<|AZ<|Ak<|Dq (λq=>⟨Az 125 [(3,.ptr 0 0),(4,AU q)],[.box (BD (Fz j.Content))],0⟩) _ _ _ (Ag [AQ 1]) h<|λq I J L h=>Aa<|AP 3<|.Z (BK DV j.Content.Allow)<|Bg h (λh=>Aa<|Ak<|AO h λq I h=>AP 3<|.Z (BG DV I)<|a3e) λh=>CW<|Aa<|AZ<|Ak<|Dq (λq=>⟨Az 125 [(3,.ptr 0 0),(5,AU q)],[.box (BD (Fz j.Content))],0⟩) _ _ _ (Ag [AQ 0]) h<|λq I J L h=>Aa<|AP 3<|.Z (BK DV j.Content.iK)<|Bg h (λh=>Aa<|Ak<|AO h λq I h=>AP 3<|.Z (BG DV I)<|a3e) λh=>CW<|Aa<|AZ<|Ak<|Dq (λq=>⟨Az 125 [(3,.ptr 0 0),(6,AU q)],[.box (BD (Fz j.Content))],0⟩) _ _ _ (Ag [AQ 0]) h<|λq I J L h=>Aa<|AP 4<|.Z (BK F5 j.Content.Levels.Users)<|Bg h (λh=>Aa<|Ak<|AO h λq I h=>AP 4<|.Z (BG F5 I)<|a3e) λh=>Ei
def aIa (j:Aj)(k3:(Int->AB Ac)):Int->AB Ac:=λv2=>(cond (v2<(j.length:Int)) ((Aq j v2).bind λq=>(vX q).bind λI=>(cond I (some true) (k3 (Ar (v2+1))))) (some false))
def aXW (j:Aj):Int->AB Ac:=bg (aIa j) Aw
def a1Y (j:Aj)(q:Int):AB Ac:=(cond ((j.length:Int)>q) (some true) (aXW j 0))
def aOa :=Dc func30 rfl a1Y BI AU Ai λj I r h=>AZ<|Aa<|AP 1<|.Z (BK Au j)<|BF h Bo λh=>Aa<|AZ<|Ak<|Dq (λq=>⟨Az 21 [(0,BI j),(5,AU q)],[],0⟩) _ _ _ (Ag []) h<|λq J L M h=>Aa<|AP 2<|.Z (BK Au j)<|Bg h (λh=>Aa<|Ak<|Bj h λq J M O h=>AP 2<|.p (BG Au J)<|.a 1<|.ca (aOP O)<|sQ) λh=>Ei
def aIf (j:BH)(k2:(Int->AB Int)):Int->AB Int:=λq=>(cond (q<(j.size:Int)) ((IZ j q).bind λI=>some (I != 58)) (some false)).bind λJ=>(cond J (k2 (Ar (q+1))) (some q))
def aSM (j:BH):Int->AB Int:=bg (aIf j) Aw
def a1N (j:BH):AB Int:=aSM j 0
def aSa :=Dk func153 rfl a1N CP AU λj r h=>AZ<|AZ<|Aa<|Ak<|Dq (λq=>⟨Az 17 [(0,CP j),(3,AU q)],[],0⟩) _ _ _ (Ag []) h<|λq I J L h=>Aa<|AP 4<|AO h λq I h=>.mg 8 5 (Ai q) (.bi I (λh=>AO h λq I h=>.a 2<|.Z (Lh (k:=.i64) I IJ)<|CU))<|.aT<|Bg h (λh=>Ak<|Vd) λh=>Ei
def dY (j:Int):AB Ac:=(cond (j>=97) (some (decide (j<=122))) (some false)).bind λq=>(cond q (some true) ((cond (j>=48) (some (decide (j<=57))) (some false)).bind λI=>some I)).bind λJ=>some J
def a5C :=Dk func212 rfl dY (λj=>.d (Dt j)) Ai λj r h=>AZ<|AP 2<|AO h λq I h=>.mg 5 3 (Ai q) (.bi I)<|.a 1<|AO h λq I h=>.mg 10 6 (Ai q) (Cb I (k2:=λe i=>aQe))<|.aW<|CV
def aJ7 (j:BH)(k2:(Int->AB Ac)):Int->AB Ac:=λq=>(bif q<(j.size:Int) then(IZ j q).bind λY=>(dY Y).bind λZ=>(cond (!Z) ((IZ j q).bind λx8=>some (x8 != 95)) (some false)).bind λx6=>(cond x6 ((IZ j q).bind λI=>some (I != 46)) (some false)).bind λx9=>(cond x9 ((IZ j q).bind λJ=>some (J != 45)) (some false)).bind λL=>(cond L ((IZ j q).bind λM=>some (M != 61)) (some false)).bind λO=>(cond O (some false) (k2 (Ar (q+1))))else(cond ((j.size:Int)>=1) (some (decide ((j.size:Int)<=32))) (some false)).bind λU=>some U)
def aPn (j:BH):Int->AB Ac:=bg (aJ7 j) Aw
def a4K (j:BH):AB Ac:=aPn j 0
def aev :=Dk func154 rfl a4K CP Ai λI r h=>AZ<|Aa<|AZ<|Ak<|Dq (λq=>⟨Az 47 [(0,CP I),(3,AU q)],[],0⟩) _ _ _ (Ag []) h<|λq j J L h=>Aa<|AZ<|Bg h (λh=>Aa<|Ak<|Bj h λq j L M h=>AP 2<|.p (Lh (k:=.i64) j IJ)<|.ca (a5C M)<|.a 1<|AO h λq j h=>.mg 15 5 (Ai q) (.bi j (λh=>AO h λq j h=>.a 2<|.Z (Lh (k:=.i64) j IJ)<|CU))<|.a 1<|AO h λq j h=>.mg 22 4 (Ai q) (Cb j (λe i=>a4W))<|.a 1<|AO h λq j h=>.mg 28 4 (Ai q) (Cb j (λe i=>a4W))<|.a 1<|AO h λq j h=>.mg 34 4 (Ai q) (Cb j (λe i=>a4W))<|aJp) λh=>CW<|AP 3<|AO h λq j h=>.mg 42 4 (Ai q) (.bi j)<|.aW<|CV
def aC6 (j:BH)(I:(Int->AB Int)):Int->AB Int:=λq=>(cond (q<(j.size:Int)) ((IZ j q).bind λJ=>(dY J).bind λL=>(cond (!L) ((IZ j q).bind λM=>some (M != 46)) (some false)).bind λO=>(cond O ((IZ j q).bind λU=>some (U != 45)) (some false)).bind λY=>(cond Y (some 3) (I (Ar (q+1))))) (some 0))
def aI6 (j:BH):Int->AB Int:=bg (aC6 j) Aw
def a7S (j:BH):AB Int:=(cond ((j.size:Int)<1) (some true) (some (decide ((j.size:Int)>32)))).bind λI=>(cond I (some true) ((IZ j 0).bind λJ=>(dY J).bind λL=>some (!L))).bind λM=>(cond M (some true) ((IZ j (Ar ((j.size:Int)-1))).bind λO=>(dY O).bind λq=>some (!q))).bind λU=>(cond U (some 3) (aI6 j 0))
def acp :=Dk func155 rfl a7S CP AU λI r h=>AZ<|Aa<|AP 3<|AO h λq j h=>.mg 7 4 (Ai q) (.bi j)<|.a 1<|AO h λq j h=>.mg 13 4 (Ai q) (Cb j (k2:=λe i=>by subst e;have h:=i;exact Bj h λq j L J h=>.a 1<|.p (Lh (k:=.i64) j IJ)<|.X (a5C J)<|CU))<|.a 1<|AO h λq j h=>.mg 19 7 (Ai q) (Cb j (k2:=λe i=>by subst e;have h:=i;exact Bj h λq j L J h=>.a 4<|.p (Lh (k:=.i64) j IJ)<|.X (a5C J)<|CU))<|.aT<|BF h Bo λh=>Aa<|AZ<|Ak<|Dq (λq=>⟨Az 50 [(0,CP I),(3,AU q)],[],0⟩) _ _ _ (Ag []) h<|λq j L J h=>Aa<|AZ<|Bg h (λh=>Aa<|Ak<|Bj h λq j J M h=>AP 2<|.p (Lh (k:=.i64) j IJ)<|.ca (a5C M)<|.a 1<|AO h λq j h=>.mg 38 5 (Ai q) (.bi j (λh=>AO h λq j h=>.a 2<|.Z (Lh (k:=.i64) j IJ)<|CU))<|.a 1<|AO h λq j h=>.mg 45 4 (Ai q) (Cb j (λe i=>a4W))<|sQ) λh=>Ei
def fB (j:BH)(q:Int):AB Ac:=(cond ((j.size:Int)<1) (some true) ((IZ j 0).bind λO=>some (O != q))).bind λU=>(cond U (some false) ((a1N j).bind λI=>(cond (I<(j.size:Int)) ((Oy j 1 I).bind λY=>(a4K Y).bind λZ=>some Z) (some false)).bind λx6=>(cond x6 ((Oy j (Ar (I+1)) ((j).size)).bind λJ=>(a7S J).bind λL=>some (L==0)) (some false)).bind λM=>some M))
def a5Q :=Dc func101 rfl fB CP (λj=>.d (Dt j)) Ai λM j r h=>AZ<|Aa<|AP 3<|AO h λI q h=>.mg 9 5 (Ai I) (.bi q (k2:=λh=>AO h λI q h=>.a 1<|.Z (Lh (k:=.i64) q IJ)<|CU))<|.aT<|BF h Bo λh=>AO h λI q h=>AP 1<|.X (aSa q)<|AP 4<|AO h λI q h=>.mg 21 5 (Ai I) (.bi q (λh=>Bj h λU I Y L h=>.a 2<|.p (lR I ZT ZT IJ rfl)<|.X (aev L)<|CU))<|.a 1<|AO h λI q h=>.mg 28 6 (Ai I) (Cb q (λe i=>by subst e;have h:=i;exact Bj h λI q Z O h=>.a 3<|.p (lR q ZT (λ_=>rfl) IJ rfl)<|.X (acp O)<|CU))<|.aW<|CV
def iY (j:BH):AB Int:=(fB j 33).bind λq=>(cond (!q) (some 3) (some 0))
def aKj :=Dk func57 rfl iY CP AU λj r h=>AZ<|Aa<|AO h λI q h=>AP 1<|.X (a5Q q)<|Ir
def Ug (j:Int):AB Ac:=(cond (j>=1) (some (decide (j<=10))) (some false)).bind λq=>some q
def ZA :=Dk func182 rfl Ug AU Ai λj r h=>AZ<|AP 2<|AO h λq I h=>.mg 5 3 (Ai q) (.bi I)<|.aW<|CV
def Ym (j:BH):AB Int:=(fB j 64).bind λq=>(cond (!q) (some 3) (some 0))
def a3B :=Dk func339 rfl Ym CP AU λj r h=>AZ<|Aa<|AO h λI q h=>AP 1<|.X (a5Q q)<|Ir
def aDT (j:BH)(M:(Int->AB Ac)):Int->AB Ac:=λq=>(cond (q<(j.size:Int)) ((IZ j q).bind λI=>(cond (I<33) (some true) ((IZ j q).bind λJ=>some (decide (J>126)))).bind λL=>(cond L (some false) (M (Ar (q+1))))) (some true))
def aG7 (j:BH):Int->AB Ac:=bg (aDT j) Aw
def a6a (q:Int)(j:BH):AB Ac:=(cond (q==2) ((Ym j).bind λI=>some (I==0)) (cond (q != 9) (some true) ((cond ((j.size:Int)<1) (some true) (some (decide ((j.size:Int)>32)))).bind λJ=>(cond J (some false) (aG7 j 0)))))
def apJ :=Dc func340 rfl a6a AU CP Ai λJ q r h=>AZ<|Aa<|AZ<|BF h (λh=>AO h λI j h=>AP 1<|.X (a3B j)<|CV) λh=>Aa<|AZ<|BF h Bo λh=>Aa<|AP 3<|AO h λI j h=>.mg 16 4 (Ai I) (.bi j)<|.aT<|BF h Bo λh=>Aa<|AZ<|Ak<|Dq (λI=>⟨Az 37 [(1,CP q),(5,AU I)],[],0⟩) _ _ _ (Ag []) h<|λI j L M h=>Aa<|AZ<|Bg h (λh=>Aa<|Ak<|AO h λI j h=>AP 2<|.p (Lh (k:=.i64) j IJ)<|.a 1<|AO h λI j h=>.mg 31 5 (Ai I) (.bi j (k2:=λh=>AO h λI j h=>.a 2<|.Z (Lh (k:=.i64) j IJ)<|CU))<|sQ) λh=>Ei
def gQ (k2:(Int->AB Ac))(j:Int)(q:Ac):AB Ac:=(cond q (some false) (k2 (Ar (j+1))))
def a5r (j:AV)(k2:(Int->AB Ac)):Int->AB Ac:=λq=>(cond (q<(j.length:Int)) ((Aq j q).bind λL=>(cond (L<0) (gQ k2 q true) (cond (q>0) ((Aq j q).bind λI=>(Aq j (Ar (q-1))).bind λJ=>gQ k2 q (decide (I<=J))) (gQ k2 q false)))) (some true))
def aGQ (j:AV):Int->AB Ac:=bg (a5r j) Aw
def eK (j:AV):AB Ac:=aGQ j 0
def aMr :=Dk func341 rfl eK BZ Ai λj r h=>AZ<|Aa<|AZ<|Ak<|Dq (λq=>⟨Az 31 [(0,BZ j),(3,AU q)],[],0⟩) _ _ _ (Ag []) h<|λq I M J h=>Aa<|AP 2<|.Z (BK Ah j)<|Bg h (λh=>Aa<|Ak<|D9 (λ(L:Ac)=>(λj q L=>⟨Az 31 [(0,BZ j),(3,AU q),(30,Ai L)],[],0⟩) j J L) (λL=>gQ I J L) r (λL h=>BF h Bo λh=>qO)<|λq=>AO h λI M h=>Ed h (λI h=>DR A8 A8 A8 (.a 2<|.p (BG Ah M)<|.a 2<|.c (BM some I)<|.a 15<|.nil _)<|q true (Ag []) h) λI h=>Ed h (λJ h=>Bj h λO U Y Z h=>DR A8 A8 A8 (.a 2<|.p (BG Ah M)<|.a 2<|.c (BM some I)<|.a 2<|.c (BM some J)<|.a 2<|.p (BG Ah U)<|.a 4<|.p (BG Ah Z)<|.a 4<|.nil _)<|q (decide (O<=Y)) (Ag []) h) λJ h=>DR A8 A8 A8 (.a 2<|.p (BG Ah M)<|.a 2<|.c (BM some I)<|.a 2<|.c (BM some J)<|.a 12<|.nil _)<|q false (Ag []) h) λh=>Ei
def TL (j:Ad)(v1:Ac):AB Int:=(cond v1 (some 1) ((iY j.Room).bind λx3=>(cond (x3 != 0) (some true) ((Ym j.bG).bind λx6=>some (x6 != 0))).bind λx4=>(cond x4 (some true) ((a6a j.Kind j.Key).bind λx9=>some (!x9))).bind λx7=>(cond x7 (some 3) ((cond (j.Time<0) (some true) (some (decide (j.Time>1000000000)))).bind λq=>(cond q (some true) (some (decide (j.Depth<1)))).bind λI=>(cond I (some true) (some (decide (j.Depth>100000)))).bind λJ=>(cond J (some 2) ((cond ((j.bP.length:Int)>10) (some true) (some (decide ((j.bQ.length:Int)>8)))).bind λL=>(cond L (some 7) ((eK j.bP).bind λM=>(cond (!M) (some true) ((eK j.bQ).bind λO=>some (!O))).bind λU=>(cond U (some 8) ((cond ((j.bP.length:Int)==0) (some (j.Kind != 1)) (some false)).bind λY=>(cond Y (some 9) ((cond (j.Kind==1) ((cond ((j.bP.length:Int)>0) (some true) (some (decide ((j.bQ.length:Int)>0)))).bind λZ=>some Z) (some false)).bind λx29=>(cond x29 (some 6) (some 0))))))))))))))
def a5O (j:Ad):AB Int:=(cond (j.Kind<1) (TL j true) (cond (j.Kind>14) (TL j true) ((Ug j.Kind).bind λq=>(cond (!(j.State==q)) (TL j true) (cond (!(j.Key.toList==CS.toList)) (cond (j.Kind != 2) (TL j (j.Kind != 9)) (TL j false)) (TL j false))))))
def aeZ :=Dk func275 rfl a5O Cm AU λq r h=>AZ<|Aa<|D9 (λ(J:Ac)=>(λq J=>⟨Az 114 [(1,.ptr 0 0),(33,Ai J)],[.box (BD (Au q))],0⟩) q J) (λJ=>TL q J) r (λJ h=>BF h Bo λh=>Aa<|AO h λI j h=>AP 2<|.ca (aKj j)<|.a 1<|AO h λI j h=>.mg 38 5 (Ai I) (.bi j (k2:=λh=>AO h λI j h=>.a 2<|.X (a3B j)<|CU))<|.a 1<|AO h λI j h=>.mg 45 6 (Ai I) (Cb j (k2:=λe i=>by subst e;have h:=i;exact AO h λI j h=>.a 4<|.X (apJ j)<|CU))<|.aT<|BF h Bo λh=>Aa<|AP 3<|AO h λI j h=>.mg 55 4 (Ai I) (.bi j)<|.a 1<|AO h λI j h=>.mg 61 3 (Ai I) (Cb j)<|.a 1<|AO h λI j h=>.mg 66 3 (Ai I) (Cb j)<|.aT<|BF h Bo λh=>Aa<|AP 2<|.p (BK Ah q.bP)<|.a 1<|AO h λI j h=>.mg 74 5 (Ai I) (.bi j (k2:=λh=>.a 2<|.Z (BK Ah q.bQ)<|CU))<|.aT<|BF h Bo λh=>Aa<|AO h λI j h=>AP 2<|.ca (aMr j)<|.a 1<|AO h λI j h=>.mg 84 5 (Ai I) (.bi j (k2:=λh=>AO h λI j h=>.a 2<|.X (aMr j)<|CU))<|.aT<|BF h Bo λh=>Aa<|AP 2<|.p (BK Ah q.bP)<|.a 1<|AO h λI j h=>.mg 94 4 (Ai I) (.bi j)<|.aT<|BF h Bo λh=>Aa<|AP 3<|AO h λI j h=>.mg 102 11 (Ai I) (.bi j (λh=>.a 2<|.p (BK Ah q.bP)<|.a 1<|AO h λI j h=>.mg 107 5 (Ai I) (.bi j (k2:=λh=>.a 2<|.Z (BK Ah q.bQ)<|CU))<|.aW<|CU))<|.aT<|Ir)<|λI=>Ed h (λj h=>DR A8 A8 A8 (.a 3<|.c (BM some j)<|.a 27<|.nil _)<|I true (Ag [AQ 0]) h) λj h=>Ed h (λL h=>DR A8 A8 A8 (.a 3<|.c (BM some j)<|.a 4<|.c (BM some L)<|.a 22<|.nil _)<|I true (Ag [AQ 0]) h) λL h=>AO h λZ O h=>Ed h (λM h=>DR A8 A8 A8 (.a 3<|.c (BM some j)<|.a 4<|.c (BM some L)<|.a 4<|.ca (ZA O)<|.a 2<|.c (BM some M)<|.a 14<|.nil _)<|I true (Ag [AQ 0]) h) λM h=>Ed h (λU h=>Ed h (λY h=>DR A8 A8 A8 (.a 3<|.c (BM some j)<|.a 4<|.c (BM some L)<|.a 4<|.ca (ZA O)<|.a 2<|.c (BM some M)<|.a 3<|.c (BM some U)<|.a 4<|.c (BM some Y)<|.a 5<|.nil _)<|I (q.Kind != 9) (Ag [AQ 0]) h) λY h=>DR A8 A8 A8 (.a 3<|.c (BM some j)<|.a 4<|.c (BM some L)<|.a 4<|.ca (ZA O)<|.a 2<|.c (BM some M)<|.a 3<|.c (BM some U)<|.a 4<|.c (BM some Y)<|.a 5<|.nil _)<|I false (Ag [AQ 0]) h) λU h=>DR A8 A8 A8 (.a 3<|.c (BM some j)<|.a 4<|.c (BM some L)<|.a 4<|.ca (ZA O)<|.a 2<|.c (BM some M)<|.a 3<|.c (BM some U)<|.a 10<|.nil _)<|I false (Ag [AQ 0]) h
def pF (j:Int):AB Ac:=(cond (j>=1) (some (decide (j<=14))) (some false)).bind λq=>some q
def aXd :=Dk func342 rfl pF AU Ai λj r h=>AZ<|AP 2<|AO h λq I h=>.mg 5 3 (Ai q) (.bi I)<|.aW<|CV
abbrev Gj:=AA BH
def a6R (j:Ac):AB Gj:=(cond j (some [Jc,KF]) (some []))
def aA3 (j:Int)(q:Ac):AB Gj:=(cond q (some [KH]) (cond (j==6) (some [Lr,Nr]) (cond (j==7) (some [Jc]) (cond (j==9) (some [Jc,KH]) (cond (j==11) (some [Jc,KF,Nq]) (cond (j==12) (a6R (j==12)) (cond (j==13) (a6R (j==13)) (a6R (j==14)))))))))
def aQ5 (j:Int):AB Gj:=(cond (j==2) (some [Jc,KH,Nk]) (cond (j==3) (some [NY]) (cond (j==4) (some [KH,Lr]) (cond (j==5) (aA3 j (j==5)) (cond (j==8) (aA3 j (j==8)) (aA3 j (j==10)))))))
def akd :=JM func442 rfl aQ5 AU WV λj r h=>BL<|.f (C9 9 1)<|.aT<|Aa<|AZ<|Ak<|AZ<|Di h (λh=>BL<|.Y (Gn O4 zero9 [DV Jc,DV KH,DV Nk])<|JQ) λh=>AZ<|Di h (λh=>BL<|.Y (Gn O4 zero9 [DV NY])<|JQ) λh=>AZ<|Di h (λh=>BL<|.Y (Gn O4 zero9 [DV KH,DV Lr])<|JQ) λh=>D9 (λ(J:Ac)=>(λj J=>⟨Az 35 [(3,AU j),(13,Ai J)],[],0⟩) j J) (λJ=>aA3 j J) r (λJ h=>Di h (λh=>BL<|.Y (Gn O4 zero9 [DV KH])<|Py) λh=>AZ<|Di h (λh=>BL<|.Y (Gn O4 zero9 [DV Lr,DV Nr])<|Py) λh=>AZ<|Di h (λh=>BL<|.Y (Gn O4 zero9 [DV Jc])<|Py) λh=>AZ<|Di h (λh=>BL<|.Y (Gn O4 zero9 [DV Jc,DV KH])<|Py) λh=>AZ<|Di h (λh=>BL<|.Y (Gn O4 zero9 [DV Jc,DV KF,DV Nq])<|Py) λh=>D9 (λ(q:Ac)=>(λq=>⟨Az 35 [(30,Ai q)],[],0⟩) q) (λq=>a6R q) r (λq h=>BF h (λh=>BL<|.Y (Gn O4 zero9 [DV Jc,DV KF])<|Py) λh=>BL<|.f (C9 9 1)<|.aT<|Py)<|aWQ)<|aOc
def ahj (q:Gj)(j:BH)(k3:(Int->AB Ac)):Int->AB Ac:=λv2=>(cond (v2<(q.length:Int)) ((Aq q v2).bind λI=>(cond (I.toList==j.toList) (some true) (k3 (Ar (v2+1))))) (some false))
def aef (q:Gj)(j:BH):Int->AB Ac:=bg (ahj q j) Aw
def Cj (q:Int)(j:BH):AB Ac:=(aQ5 q).bind λI=>aef I j 0
def Xj :=Dc func407 rfl Cj AU CP Ai λJ j r h=>AZ<|AO h λI q h=>AP 1<|.X (akd q).view<|Aa<|AZ<|Ak<|Dq (λq=>⟨Az 21 [(1,CP j),(5,Ia I),(6,AU q)],[],0⟩) _ _ _ (Ag []) h<|λq M L O h=>Aa<|AP 2<|.Z (BK DV I)<|Bg h (λh=>Aa<|Ak<|AO h λI q h=>AP 2<|.p (BG DV q)<|zI) λh=>Ei
def a1R (j:(Int->AB Ac))(q:Int)(I:Ac):AB Ac:=(cond I (some false) (j (Ar (q+1))))
def ug (j:(Int->AB Ac))(q:Int)(I:Ac):AB Ac:=(cond I (some false) (j (Ar (q+1))))
def tH (j:Ci)(q:Ci)(J:(Int->AB Ac)):Int->AB Ac:=λI=>(bif I<(j.Kinds.length:Int) then(Aq j.Kinds I).bind λL=>(Aq q.Kinds I).bind λM=>(cond (L.Kind != M.Kind) (ug J I true) ((Aq j.Kinds I).bind λO=>(Aq q.Kinds I).bind λU=>ug J I (O.N != U.N)))else(cond (j.User==q.User) (some (j.Message==q.Message)) (some false)).bind λY=>(cond Y (some (j.State==q.State)) (some false)).bind λZ=>(cond Z (some (j.iJ==q.iJ)) (some false)).bind λZp=>(cond Zp (some (j.kT==q.kT)) (some false)).bind λx32=>(cond x32 (some (j.oq==q.oq)) (some false)).bind λx34=>(cond x34 (some (j.gy==q.gy)) (some false)).bind λx36=>some x36)
def bV (j:Ci)(q:Ci):Int->AB Ac:=bg (tH j q) Aw
def oG (j:Ci)(q:Ci)(U:(Int->AB Ac)):Int->AB Ac:=λI=>(cond (I<(j.Users.length:Int)) ((Aq j.Users I).bind λJ=>(Aq q.Users I).bind λL=>(cond (!(J.User.toList==L.User.toList)) (a1R U I true) ((Aq j.Users I).bind λM=>(Aq q.Users I).bind λO=>a1R U I (M.N != O.N)))) (bV j q 0))
def vg (j:Ci)(q:Ci):Int->AB Ac:=bg (oG j q) Aw
def XD (j:Ci)(q:Ci):AB Ac:=(cond ((j.Users.length:Int) != (q.Users.length:Int)) (some true) (some ((j.Kinds.length:Int) != (q.Kinds.length:Int)))).bind λI=>(cond I (some false) (vg j q 0))
def aMH :=Dc func79 rfl XD Iz Iz Ai λj q r h=>AZ<|Aa<|AP 2<|.p (BK F5 j.Users)<|.a 2<|.p (BK F5 q.Users)<|.a 1<|AO h λI J h=>.mg 14 8 (Ai I) (.bi J (k2:=λh=>.a 2<|.p (BK F8 j.Kinds)<|.a 2<|.Z (BK F8 q.Kinds)<|CU))<|.aT<|BF h Bo λh=>Aa<|AZ<|Ak<|Dq (λI=>⟨Az 140 [(2,.ptr 0 0),(3,.ptr 1 0),(5,AU I)],[.box (BD (FW j)),.box (BD (FW q))],0⟩) _ _ _ (Ag [AQ 0,AQ 1]) h<|λI J O M h=>Aa<|AP 3<|.Z (BK F5 j.Users)<|Bg h (λh=>Aa<|Ak<|D9 (λ(U:Ac)=>(λI j q U=>⟨Az 140 [(2,.ptr 0 0),(3,.ptr 1 0),(5,AU I),(57,Ai U)],[.box (BD (FW j)),.box (BD (FW q))],0⟩) M j q U) (λU=>a1R J M U) r (λU h=>aOA)<|λI=>Bj h λJ O M Y h=>Ed h (λJ h=>DR A8 A8 A8 (.a 3<|.p (BG F5 O)<|.a 5<|.p (BG F5 Y)<|.a 3<|.c (BM some J)<|.a 14<|.nil _)<|I true (Ag [AQ 0,AQ 1]) h) λJ h=>Bj h λM Z x7 x8 h=>DR A8 A8 A8 (.a 3<|.p (BG F5 O)<|.a 5<|.p (BG F5 Y)<|.a 3<|.c (BM some J)<|.a 3<|.p (BG F5 Z)<|.a 5<|.p (BG F5 x8)<|.a 4<|.nil _)<|I (M.N != x7.N) (Ag [AQ 0,AQ 1]) h) λh=>CW<|Aa<|AZ<|Ak<|Dq (λI=>⟨Az 140 [(2,.ptr 0 0),(3,.ptr 1 0),(6,AU I)],[.box (BD (FW j)),.box (BD (FW q))],0⟩) _ _ _ (Ag [AQ 0,AQ 1]) h<|λI J O M h=>Aa<|AP 3<|.Z (BK F8 j.Kinds)<|Bg h (λh=>Aa<|Ak<|D9 (λ(L:Ac)=>(λI j q L=>⟨Az 140 [(2,.ptr 0 0),(3,.ptr 1 0),(6,AU I),(92,Ai L)],[.box (BD (FW j)),.box (BD (FW q))],0⟩) M j q L) (λL=>ug J M L) r (λL h=>aOA)<|λI=>Bj h λJ O M Y h=>Ed h (λJ h=>DR A8 A8 A8 (.a 3<|.p (BG F8 O)<|.a 5<|.p (BG F8 Y)<|.a 3<|.c (BM some J)<|.a 14<|.nil _)<|I true (Ag [AQ 0,AQ 1]) h) λJ h=>Bj h λM Z x7 x8 h=>DR A8 A8 A8 (.a 3<|.p (BG F8 O)<|.a 5<|.p (BG F8 Y)<|.a 3<|.c (BM some J)<|.a 3<|.p (BG F8 Z)<|.a 5<|.p (BG F8 x8)<|.a 4<|.nil _)<|I (M.N != x7.N) (Ag [AQ 0,AQ 1]) h) λh=>CW<|AP 5<|AO h λI J h=>.mg 98 6 (Ai I) (.bi J)<|.a 1<|AO h λI J h=>.mg 106 5 (Ai I) (Cb J)<|.a 1<|AO h λI J h=>.mg 113 5 (Ai I) (Cb J)<|.a 1<|AO h λI J h=>.mg 120 5 (Ai I) (Cb J)<|.a 1<|AO h λI J h=>.mg 127 5 (Ai I) (Cb J)<|.a 1<|AO h λI J h=>.mg 134 5 (Ai I) (Cb J)<|.aW<|CV
def a9c (j:Ci):AB Ac:=(XD j LD).bind λq=>some q
def aot :=Dk func408 rfl a9c Iz Ai λj r h=>AZ<|AO h λI q h=>AP 2<|.X (aMH q)<|CV
def kE (j:Int)(q:Cx):AB Ac:=(cond (q.Text.toList==CS.toList) (some true) ((Cj j Jc).bind λx3=>some x3)).bind λx1=>(cond x1 ((cond (q.N==0) (some true) ((Cj j KH).bind λx8=>some x8)).bind λx6=>some x6) (some false)).bind λx4=>(cond x4 ((cond (q.Target==0) (some true) ((Cj j KF).bind λI=>some I)).bind λJ=>some J) (some false)).bind λx9=>(cond x9 ((cond (!q.Thread) (some true) ((Cj j Nq).bind λL=>some L)).bind λM=>some M) (some false)).bind λO=>(cond O ((cond (q.Via.toList==CS.toList) (some true) ((Cj j Nk).bind λU=>some U)).bind λY=>some Y) (some false)).bind λZ=>(cond Z ((cond ((q.Allow.length:Int)==0) (some true) ((Cj j Lr).bind λx28=>some x28)).bind λD6=>some D6) (some false)).bind λx24=>(cond x24 ((cond ((q.iK.length:Int)==0) (some true) ((Cj j Nr).bind λx33=>some x33)).bind λx31=>some x31) (some false)).bind λx29=>(cond x29 ((a9c q.Levels).bind λx36=>(cond x36 (some true) ((Cj j NY).bind λx39=>some x39)).bind λx37=>some x37) (some false)).bind λx34=>some x34
def akp :=Dc func343 rfl kE AU II Ai λJ I r h=>AZ<|AP 3<|AO h λq j h=>.mg 8 3 (Ai q) (.bi j (k2:=λh=>AO h λq j h=>.a 1<|.X (Xj j)<|CU))<|.a 1<|AO h λq j h=>.mg 13 7 (Ai q) (Cb j (λe i=>by subst e;have h:=i;exact .a 3<|AO h λq j h=>.mg 16 3 (Ai q) (.bi j (k2:=λh=>AO h λq j h=>.a 1<|.X (Xj j)<|CU))<|.aW<|CU))<|.a 1<|AO h λq j h=>.mg 22 7 (Ai q) (Cb j (λe i=>by subst e;have h:=i;exact .a 3<|AO h λq j h=>.mg 25 3 (Ai q) (.bi j (k2:=λh=>AO h λq j h=>.a 1<|.X (Xj j)<|CU))<|.aW<|CU))<|.a 1<|AO h λq j h=>.mg 31 7 (Ai q) (Cb j (λe i=>by subst e;have h:=i;exact .a 3<|AO h λq j h=>.mg 34 3 (Ai q) (.bi j (k2:=λh=>AO h λq j h=>.a 1<|.X (Xj j)<|CU))<|.aW<|CU))<|.a 1<|AO h λq j h=>.mg 40 7 (Ai q) (Cb j (λe i=>by subst e;have h:=i;exact .a 3<|AO h λq j h=>.mg 43 3 (Ai q) (.bi j (k2:=λh=>AO h λq j h=>.a 1<|.X (Xj j)<|CU))<|.aW<|CU))<|.a 1<|AO h λq j h=>.mg 49 8 (Ai q) (Cb j (λe i=>by subst e;have h:=i;exact .a 2<|.p (BK DV I.Allow)<|.a 1<|AO h λq j h=>.mg 53 3 (Ai q) (.bi j (k2:=λh=>AO h λq j h=>.a 1<|.X (Xj j)<|CU))<|.aW<|CU))<|.a 1<|AO h λq j h=>.mg 59 8 (Ai q) (Cb j (λe i=>by subst e;have h:=i;exact .a 2<|.p (BK DV I.iK)<|.a 1<|AO h λq j h=>.mg 63 3 (Ai q) (.bi j (k2:=λh=>AO h λq j h=>.a 1<|.X (Xj j)<|CU))<|.aW<|CU))<|.a 1<|AO h λq j h=>.mg 69 7 (Ai q) (Cb j (λe i=>by subst e;have h:=i;exact AO h λq j h=>.a 2<|.ca (aot j)<|.a 1<|AO h λq j h=>.mg 73 2 (Ai q) (Cb j (k2:=λe i=>by subst e;have h:=i;exact AO h λq j h=>.a 1<|.X (Xj j)<|CU))<|.aW<|CU))<|.aW<|CV
def a6V (j:Int):AB Ac:=(cond (j==7) (some true) (some (j==8))).bind λI=>(cond I (some true) (some (j==9))).bind λJ=>(cond J (some true) (some (j==10))).bind λL=>(cond L (some true) (some (j==11))).bind λM=>(cond M (some true) (some (j==12))).bind λO=>(cond O (some true) (some (j==13))).bind λq=>some q
def aZG :=Dk func344 rfl a6V AU Ai λI r h=>AZ<|AP 2<|AO h λj q h=>.mg 5 3 (Ai j) (.bi q)<|.a 1<|AO h λj q h=>.mg 10 2 (Ai j) (Cb q)<|.a 1<|AO h λj q h=>.mg 14 2 (Ai j) (Cb q)<|.a 1<|AO h λj q h=>.mg 18 2 (Ai j) (Cb q)<|.a 1<|AO h λj q h=>.mg 22 2 (Ai j) (Cb q)<|.a 1<|AO h λj q h=>.mg 26 2 (Ai j) (Cb q)<|.aW<|CV
def a99 (j:Gj)(q:Gj)(k3:(Int->AB Ac)):Int->AB Ac:=λv2=>(cond (v2<(j.length:Int)) ((Aq j v2).bind λI=>(Aq q v2).bind λJ=>(cond (!(I.toList==J.toList)) (some false) (k3 (Ar (v2+1))))) (some true))
def aAY (j:Gj)(q:Gj):Int->AB Ac:=bg (a99 j q) Aw
def V3 (j:Gj)(q:Gj):AB Ac:=(cond ((j.length:Int) != (q.length:Int)) (some false) (aAY j q 0))
def agq :=Dc func78 rfl V3 Ia Ia Ai λj q r h=>AZ<|Aa<|AP 1<|.p (BK DV j)<|.a 1<|.Z (BK DV q)<|BF h Bo λh=>Aa<|AZ<|Ak<|Dq (λI=>⟨Az 26 [(0,Ia j),(1,Ia q),(5,AU I)],[],0⟩) _ _ _ (Ag []) h<|λI J L M h=>Aa<|AP 2<|.Z (BK DV j)<|Bg h (λh=>Aa<|Ak<|Bj h λI J M O h=>Ee A8 A8 A8 (.a 2<|.p (BG DV J)<|.a 3<|.p (BG DV O)<|.a 2<|.nil _)<|BF h Bo λh=>TD) λh=>Ei
def UQ (j:Cx)(q:Cx):AB Ac:=(cond (j.Text.toList==q.Text.toList) (some (j.N==q.N)) (some false)).bind λU=>(cond U (some (j.Target==q.Target)) (some false)).bind λY=>(cond Y (some (j.Thread==q.Thread)) (some false)).bind λZ=>(cond Z (some (j.Via.toList==q.Via.toList)) (some false)).bind λx7=>(cond x7 ((V3 j.Allow q.Allow).bind λI=>some I) (some false)).bind λx9=>(cond x9 ((V3 j.iK q.iK).bind λJ=>some J) (some false)).bind λL=>(cond L ((XD j.Levels q.Levels).bind λM=>some M) (some false)).bind λO=>some O
def aFT :=Dc func44 rfl UQ II II Ai λI J r h=>AZ<|AP 5<|AO h λq j h=>.mg 10 6 (Ai q) (.bi j)<|.a 1<|AO h λq j h=>.mg 18 5 (Ai q) (Cb j)<|.a 1<|AO h λq j h=>.mg 25 5 (Ai q) (Cb j)<|.a 1<|AO h λq j h=>.mg 32 5 (Ai q) (Cb j)<|.a 1<|AO h λq j h=>.mg 39 5 (Ai q) (Cb j (λe i=>aLg))<|.a 1<|AO h λq j h=>.mg 46 5 (Ai q) (Cb j (λe i=>aLg))<|.a 1<|AO h λq j h=>.mg 53 5 (Ai q) (Cb j (λe i=>by subst e;have h:=i;exact AO h λq j h=>.a 4<|.X (aMH j)<|CU))<|.aW<|CV
def aLL (j:BH)(I:(Int->AB Int)):Int->AB Int:=λq=>(cond (q<(j.size:Int)) ((IZ j q).bind λJ=>(cond (J<33) (some true) ((IZ j q).bind λL=>some (decide (L>126)))).bind λM=>(cond M (some 3) (I (Ar (q+1))))) (some 0))
def aDS (j:BH):Int->AB Int:=bg (aLL j) Aw
def rU (j:BH):AB Int:=(cond ((j.size:Int)==0) (some 9) (cond ((j.size:Int)>64) (some 7) (aDS j 0)))
def aML :=Dk func409 rfl rU CP AU λI r h=>AZ<|Aa<|AZ<|BF h Bo λh=>Aa<|AZ<|BF h Bo λh=>Aa<|AZ<|Ak<|Dq (λj=>⟨Az 26 [(0,CP I),(3,AU j)],[],0⟩) _ _ _ (Ag []) h<|λj q J L h=>Aa<|AZ<|Bg h (λh=>Aa<|Ak<|AO h λj q h=>AP 2<|.p (Lh (k:=.i64) q IJ)<|.a 1<|AO h λj q h=>.mg 20 5 (Ai j) (.bi q (k2:=λh=>AO h λj q h=>.a 2<|.Z (Lh (k:=.i64) q IJ)<|CU))<|aJp) λh=>Ei
def aK (q:Int)(j:Cx):AB Int:=(cond (q==9) (cond (j.Text.toList==CS.toList) (some 0) ((rU j.Text).bind λI=>some I)) ((cond (q==12) (some (j.Text.toList==CS.toList)) (some false)).bind λJ=>(cond J (some 9) ((cond ((j.Text.size:Int)>400) (some true) ((cond (q==12) (some (decide ((j.Text.size:Int)>32))) (some false)).bind λL=>some L)).bind λM=>(cond M (some 7) (some 0))))))
def anw :=Dc func345 rfl aK AU II AU λI J r h=>AZ<|Aa<|AZ<|BF h (λh=>Aa<|AZ<|BF h Bo λh=>AO h λq j h=>AP 2<|.X (aML j)<|CV) λh=>Aa<|AP 2<|AO h λq j h=>.mg 15 4 (Ai q) (.bi j)<|.aT<|BF h Bo λh=>Aa<|AP 4<|AO h λq j h=>.mg 24 9 (Ai q) (.bi j (k2:=λh=>.a 2<|AO h λq j h=>.mg 27 5 (Ai q) (.bi j)<|.aW<|CU))<|.aT<|Ir
def jk (j:Ac):AB Int:=(cond (!j) (some 2) (some 0))
def aKO (j:Int)(q:Int)(O:Ac):AB Int:=(cond O ((cond (j>=0) (some (decide (j<=3))) (some false)).bind λU=>jk U) (cond (q==8) ((cond (j>=0) (some (decide (j<=1000000000))) (some false)).bind λI=>jk I) (cond (q==10) ((cond (j>=1) (some (decide (j<=10000))) (some false)).bind λJ=>jk J) (cond (q==9) ((cond (j==1) (some true) (some (j==2))).bind λL=>(cond L (some true) (some (j==6))).bind λM=>jk M) (jk true)))))
def Oa (j:Int)(q:Int):AB Int:=(cond (j==2) ((cond (q>=0) (some (decide (q<=4))) (some false)).bind λI=>jk I) (cond (j==4) (aKO q j (j==4)) (aKO q j (j==5))))
def agY :=Dc func346 rfl Oa AU AU AU λj I r h=>AZ<|AZ<|D9 (λ(M:Ac)=>(λM=>⟨Az 54 [(5,Ai M)],[],0⟩) M) (λM=>jk M) r (λM h=>a1d)<|λL=>AZ<|Ak<|AZ<|Di h (λh=>CQ<|.a 2<|AO h λq J h=>.mg 11 3 (Ai q) (.bi J)<|um) λh=>D9 (λ(O:Ac)=>(λI j O=>⟨Az 54 [(1,AU I),(5,Ai true),(6,AU j),(15,Ai O)],[],0⟩) I j O) (λO=>aKO I j O) r (λO h=>Di h (λh=>CQ<|.a 2<|AO h λq J h=>.mg 20 3 (Ai q) (.bi J)<|um) λh=>AZ<|Di h (λh=>CQ<|.a 2<|AO h λq J h=>.mg 28 3 (Ai q) (.bi J)<|um) λh=>AZ<|Di h (λh=>CQ<|.a 2<|AO h λq J h=>.mg 36 3 (Ai q) (.bi J)<|um) λh=>AZ<|BF h (λh=>CQ<|.a 2<|AO h λq J h=>.mg 44 3 (Ai q) (.bi J)<|.a 1<|AO h λq J h=>.mg 49 2 (Ai q) (Cb J)<|um) λh=>L true (Ag []) h)<|λL=>AZ<|Bg h (λh=>L (j==4) (Ag []) h) λh=>Cc<|L (j==5) (Ag []) h
def Xt (q:Int)(j:Cx):AB Int:=(Cj q KF).bind λI=>(cond I ((cond (j.Target<0) (some true) ((cond (j.Target==0) (some (q != 11)) (some false)).bind λJ=>some J)).bind λL=>some L) (some false)).bind λM=>(cond M (some 2) ((cond j.Thread (some (j.Target==0)) (some false)).bind λO=>(cond O (some 1) (some 0))))
def anz :=Dc func347 rfl Xt AU II AU λI J r h=>AZ<|Aa<|AO h λq j h=>AP 1<|.ca (Xj j)<|.a 1<|AO h λq j h=>.mg 8 12 (Ai q) (Cb j (λe i=>by subst e;have h:=i;exact .a 3<|AO h λq j h=>.mg 11 8 (Ai q) (.bi j (k2:=λh=>.a 3<|AO h λq j h=>.mg 15 3 (Ai q) (.bi j)<|.aW<|CU))<|.aW<|CU))<|.aT<|BF h Bo λh=>Aa<|AP 2<|AO h λq j h=>.mg 23 4 (Ai q) (.bi j)<|.aT<|Ir
def Yg (j:Cx):AB Int:=(cond (j.Via.toList==CS.toList) (some 0) (cond (j.N != 3) (some 1) ((Ym j.Via).bind λq=>some q)))
def adh :=Dk func348 rfl Yg II AU λj r h=>AZ<|Aa<|AZ<|BF h Bo λh=>Aa<|AZ<|BF h Bo λh=>AO h λI q h=>AP 2<|.X (a3B q)<|CV
def xW (q:(Int->AB Int))(I:Int)(j:Ac):AB Int:=(cond j (some 8) (q (Ar (I+1))))
def a8g (j:Cx)(L:(Int->AB Int)):Int->AB Int:=λq=>(cond (q<(j.Allow.length:Int)) ((Aq j.Allow q).bind λM=>(iY M).bind λO=>(cond (O != 0) (some 3) (cond (q>0) ((Aq j.Allow q).bind λI=>(Aq j.Allow (Ar (q-1))).bind λJ=>xW L q (Op.bytesLess (I.toList) (J.toList)||I.toList==J.toList)) (xW L q false)))) (some 0))
def aTN (j:Cx):Int->AB Int:=bg (a8g j) Aw
def gW (j:Cx):AB Int:=(cond ((j.Allow.length:Int)>0) (some (j.N != 3)) (some false)).bind λq=>(cond q (some 1) (cond ((j.Allow.length:Int)>100) (some 7) (aTN j 0)))
def apr :=Dk func349 rfl gW II AU λj r h=>AZ<|Aa<|AP 2<|.p (BK DV j.Allow)<|.a 1<|AO h λI J h=>.mg 8 4 (Ai I) (.bi J)<|.aT<|BF h Bo λh=>Aa<|AP 2<|.Z (BK DV j.Allow)<|BF h Bo λh=>Aa<|AZ<|Ak<|Dq (λI=>⟨Az 47 [(1,.ptr 0 0),(3,AU I)],[.box (BD (Fz j))],0⟩) _ _ _ (Ag [AQ 0]) h<|λI J L M h=>Aa<|AP 3<|.Z (BK DV j.Allow)<|Bg h (λh=>Aa<|Ak<|Aa<|Bj h λI O U Y h=>AP 3<|.p (BG DV O)<|.a 1<|.X (aKj Y)<|BF h Bo λh=>D9 (λ(q:Ac)=>(λI j q=>⟨Az 47 [(1,.ptr 0 0),(3,AU I),(46,Ai q)],[.box (BD (Fz j))],0⟩) M j q) (λq=>xW J M q) r (λq h=>BF h Bo λh=>Xy)<|λI=>Ed h (λJ h=>Bj h λL M O U h=>DR A8 A8 A8 (.a 2<|.c (BM some J)<|.a 3<|.p (BG DV M)<|.a 5<|.p (BG DV U)<|.a 3<|.nil _)<|I (Op.bytesLess (L.toList) (O.toList)||L.toList==O.toList) (Ag [AQ 0]) h) λJ h=>DR A8 A8 A8 (.a 2<|.c (BM some J)<|.a 13<|.nil _)<|I false (Ag [AQ 0]) h) λh=>Ei
def xu (j:Gj)(k3:(Int->AB Int)):Int->AB Int:=λv2=>(cond (v2<(j.length:Int)) ((Aq j v2).bind λI=>(rU I).bind λq=>(cond (q != 0) (some q) (k3 (Ar (v2+1))))) (some 0))
def aKa (j:Gj):Int->AB Int:=bg (xu j) Aw
def TN (j:Gj):AB Int:=(cond ((j.length:Int)>100) (some 7) (aKa j 0))
def aLp :=Dk func350 rfl TN Ia AU λj r h=>AZ<|Aa<|AP 1<|.Z (BK DV j)<|BF h Bo λh=>Aa<|AZ<|Ak<|Dq (λq=>⟨Az 22 [(0,Ia j),(3,AU q)],[],0⟩) _ _ _ (Ag []) h<|λq I J L h=>Aa<|AP 2<|.Z (BK DV j)<|Bg h (λh=>Aa<|Ak<|Bj h λq I L M h=>AP 2<|.p (BG DV I)<|.a 1<|.ca (aML M)<|aF3) λh=>Ei
def UF (j:Int):AB Ac:=(cond (j<(-1000)) (some true) (some (decide (j>1000)))).bind λq=>some q
def a2f :=Dk func412 rfl UF AU Ai λj r h=>AZ<|AP 2<|AO h λq I h=>.mg 5 3 (Ai q) (.bi I)<|.aW<|CV
abbrev OO:=AA Ih
def nI (j:OO)(v2:Int)(k3:(Int->AB Int))(J:Ac):AB Int:=(cond J (some 8) ((Aq j v2).bind λq=>(UF q.N).bind λI=>(cond I (some 2) (k3 (Ar (v2+1))))))
def a2B (j:OO)(k3:(Int->AB Int)):Int->AB Int:=λv2=>(cond (v2<(j.length:Int)) ((Aq j v2).bind λJ=>(Ym J.User).bind λL=>(cond (L != 0) (some 3) (cond (v2>0) ((Aq j v2).bind λq=>(Aq j (Ar (v2-1))).bind λI=>nI j v2 k3 (Op.bytesLess (q.User.toList) (I.User.toList)||q.User.toList==I.User.toList)) (nI j v2 k3 false)))) (some 0))
def aJA (j:OO):Int->AB Int:=bg (a2B j) Aw
def Zd (j:OO):AB Int:=(cond ((j.length:Int)>100) (some 7) (aJA j 0))
def aZd :=Dk func410 rfl Zd PZ AU λj r h=>AZ<|Aa<|AP 1<|.Z (BK F5 j)<|BF h Bo λh=>Aa<|AZ<|Ak<|Dq (λq=>⟨Az 42 [(0,PZ j),(3,AU q)],[],0⟩) _ _ _ (Ag []) h<|λq I O M h=>Aa<|AP 2<|.Z (BK F5 j)<|Bg h (λh=>Aa<|Ak<|Aa<|Bj h λq J U Y h=>AP 2<|.p (BG F5 J)<|.a 2<|.X (a3B Y)<|BF h Bo λh=>Aa<|D9 (λ(L:Ac)=>(λj q L=>⟨Az 42 [(0,PZ j),(3,AU q),(35,Ai L)],[],0⟩) j M L) (λL=>nI j M I L) r (λL h=>BF h Bo λh=>Bj h λq I M J h=>AP 2<|.p (BG F5 I)<|.a 2<|.ca (a2f J)<|a6Q)<|λq=>Ed h (λI h=>Bj h λO M J U h=>DR A8 A8 A8 (.a 2<|.c (BM some I)<|.a 2<|.p (BG F5 M)<|.a 5<|.p (BG F5 U)<|.a 4<|.nil _)<|q (Op.bytesLess (O.User.toList) (J.User.toList)||O.User.toList==J.User.toList) (Ag []) h) λI h=>DR A8 A8 A8 (.a 2<|.c (BM some I)<|.a 13<|.nil _)<|q false (Ag []) h) λh=>Ei
abbrev OM:=AA Kw
def aAj (j:OM)(v2:Int)(k3:(Int->AB Int))(J:Ac):AB Int:=(cond J (some 8) ((Aq j v2).bind λq=>(UF q.N).bind λI=>(cond I (some 2) (k3 (Ar (v2+1))))))
def a8l (j:OM)(k3:(Int->AB Int)):Int->AB Int:=λv2=>(cond (v2<(j.length:Int)) ((Aq j v2).bind λJ=>(pF J.Kind).bind λL=>(cond (!L) (some 1) (cond (v2>0) ((Aq j v2).bind λq=>(Aq j (Ar (v2-1))).bind λI=>aAj j v2 k3 (decide (q.Kind<=I.Kind))) (aAj j v2 k3 false)))) (some 0))
def aE4 (j:OM):Int->AB Int:=bg (a8l j) Aw
def Yh (j:OM):AB Int:=(cond ((j.length:Int)>100) (some 7) (aE4 j 0))
def agy :=Dk func411 rfl Yh PG AU λj r h=>AZ<|Aa<|AP 1<|.Z (BK F8 j)<|BF h Bo λh=>Aa<|AZ<|Ak<|Dq (λq=>⟨Az 42 [(0,PG j),(3,AU q)],[],0⟩) _ _ _ (Ag []) h<|λq I O L h=>Aa<|AP 2<|.Z (BK F8 j)<|Bg h (λh=>Aa<|Ak<|Aa<|Bj h λq M U Y h=>AP 2<|.p (BG F8 M)<|.a 2<|.X (aXd Y)<|BF h Bo λh=>Aa<|D9 (λ(J:Ac)=>(λj q J=>⟨Az 42 [(0,PG j),(3,AU q),(35,Ai J)],[],0⟩) j L J) (λJ=>aAj j L I J) r (λJ h=>BF h Bo λh=>Bj h λq I L M h=>AP 2<|.p (BG F8 I)<|.a 2<|.ca (a2f M)<|a6Q)<|λq=>Ed h (λI h=>Bj h λO L M U h=>DR A8 A8 A8 (.a 2<|.c (BM some I)<|.a 2<|.p (BG F8 L)<|.a 5<|.p (BG F8 U)<|.a 4<|.nil _)<|q (decide (O.Kind<=M.Kind)) (Ag []) h) λI h=>DR A8 A8 A8 (.a 2<|.c (BM some I)<|.a 13<|.nil _)<|q false (Ag []) h) λh=>Ei
def Zw (j:Ci):AB Int:=(Zd j.Users).bind λx1=>(cond (x1 != 0) (some x1) ((Yh j.Kinds).bind λx3=>(cond (x3 != 0) (some x3) ((UF j.User).bind λx5=>(cond x5 (some true) ((UF j.Message).bind λx8=>some x8)).bind λx6=>(cond x6 (some true) ((UF j.State).bind λq=>some q)).bind λx9=>(cond x9 (some true) ((UF j.iJ).bind λI=>some I)).bind λJ=>(cond J (some true) ((UF j.kT).bind λL=>some L)).bind λM=>(cond M (some true) ((UF j.oq).bind λO=>some O)).bind λU=>(cond U (some true) ((UF j.gy).bind λY=>some Y)).bind λZ=>(cond Z (some 2) (some 0))))))
def acW :=Dk func351 rfl Zw Iz AU λI r h=>AZ<|Aa<|AO h λq j h=>AP 2<|.X (aZd j)<|AZ<|BF h Bo λh=>Aa<|AO h λq j h=>AP 2<|.X (agy j)<|AZ<|BF h Bo λh=>Aa<|AO h λq j h=>AP 2<|.ca (a2f j)<|.a 1<|AO h λq j h=>.mg 21 3 (Ai q) (Cb j (k2:=λe i=>nE))<|.a 1<|AO h λq j h=>.mg 26 3 (Ai q) (Cb j (k2:=λe i=>nE))<|.a 1<|AO h λq j h=>.mg 31 3 (Ai q) (Cb j (k2:=λe i=>nE))<|.a 1<|AO h λq j h=>.mg 36 3 (Ai q) (Cb j (k2:=λe i=>nE))<|.a 1<|AO h λq j h=>.mg 41 3 (Ai q) (Cb j (k2:=λe i=>nE))<|.a 1<|AO h λq j h=>.mg 46 3 (Ai q) (Cb j (k2:=λe i=>nE))<|.aT<|Ir
def KI (q:Int)(j:Cx):AB Int:=(pF q).bind λx1=>(cond (!x1) (some true) ((kE q j).bind λx4=>some (!x4))).bind λx2=>(cond x2 (some 1) ((a6V q).bind λx6=>(cond x6 ((UQ j El).bind λx9=>some x9) (some false)).bind λx7=>(cond x7 (some 0) ((aK q j).bind λI=>(cond (I != 0) (some I) ((Oa q j.N).bind λJ=>(cond (J != 0) (some J) ((Xt q j).bind λL=>(cond (L != 0) (some L) ((Yg j).bind λM=>(cond (M != 0) (some M) (cond (q==4) ((gW j).bind λY=>some Y) ((TN j.Allow).bind λO=>(cond (O != 0) (some O) ((TN j.iK).bind λU=>(cond (U != 0) (some U) ((Zw j.Levels).bind λZ=>some Z)))))))))))))))))
def aiL :=Dc func276 rfl KI AU II AU λI J r h=>AZ<|Aa<|AO h λq j h=>AP 1<|.ca (aXd j)<|.a 1<|AO h λq j h=>.mg 14 5 (Ai q) (.bi j (k2:=λh=>AO h λq j h=>.a 2<|.X (akp j)<|CU))<|.aT<|BF h Bo λh=>Aa<|AO h λq j h=>AP 1<|.ca (aZG j)<|.a 1<|AO h λq j h=>.mg 23 3 (Ai q) (Cb j (λe i=>by subst e;have h:=i;exact AO h λq j h=>.a 2<|.X (aFT j)<|CU))<|.aT<|BF h Bo λh=>Aa<|AO h λq j h=>AP 2<|.X (anw j)<|AZ<|BF h Bo λh=>Aa<|AO h λq j h=>AP 3<|.X (agY j)<|AZ<|BF h Bo λh=>Aa<|AO h λq j h=>AP 2<|.X (anz j)<|AZ<|BF h Bo λh=>Aa<|AO h λq j h=>AP 1<|.X (adh j)<|AZ<|BF h Bo λh=>Aa<|AZ<|BF h (λh=>AO h λq j h=>AP 1<|.X (apr j)<|CV) λh=>Aa<|AO h λq j h=>AP 2<|.X (aLp j)<|AZ<|BF h Bo λh=>Aa<|AO h λq j h=>AP 2<|.X (aLp j)<|AZ<|BF h Bo λh=>AO h λq j h=>AP 2<|.X (acW j)<|CV
def qX (j:Ad):AB Int:=(a5O j).bind λq=>(cond (q != 0) (some q) ((KI j.Kind j.Content).bind λI=>some I))
def agJ :=Dk func213 rfl qX Cm AU λq r h=>AZ<|Aa<|AO h λI j h=>AP 1<|.X (aeZ j)<|AZ<|BF h Bo λh=>AO h λI j h=>AP 4<|.X (aiL j)<|CV
def YX (J:(Int->AV->AB AV)):Int->AV->AB AV:=λj I=>(cond (j>=128) ((YR j 128).bind λL=>(CZ 1 I [IntKind.u8.wrap (IntKind.u64.wrap (L+128))]).bind λM=>(a0a .u64 j 128).bind λO=>J O M) ((CZ 1 I [IntKind.u8.wrap j]).bind λq=>some q))
def aUW  :Int->AV->AB AV:=aS (YX) Aw
def a7T (v2:Int):AB AV:=aUW v2 []
def zZ (j:Int):AB AV:=(QN .shl .u64 (IntKind.u64.wrap j) 1).bind λq=>(cond (j<0) (a7T (iL .u64 q)) (a7T q))
def aRk :=JM func335 rfl zZ AU Ii λI r h=>BL<|.f (C9 5 1)<|.aT<|AO h λq j h=>AP 2<|.Z (aB9 (k:=.u64) (k':=.u64) j)<|D9 (λ(v2:Int)=>(λv2=>⟨Az 28 [(3,.d ((ql .u64) v2))],[],0⟩) v2) (λv2=>a7T v2) r (λv2 h=>BL<|.f (C9 5 1)<|.aT<|Aa<|Ak<|DJ (λq j=>⟨Az 28 [(3,.d ((ql .u64) q)),(4,.aQ 0)],[(Ii j)],0⟩) _ _ _ _ (Ag [AQ 0]) h<|λq j M J L h=>Aa<|AZ<|Bg h (λh=>Ak<|Bj h λq j J L h=>AP 2<|.p (aEs (k:=.u64) j)<|.a 2<|.p (Dj Jw Sl [Dt (IntKind.u8.wrap (IntKind.u64.wrap (q+128)))])<|.Y (DX (k:=0) Dt L Jw A8 (λ_=>rfl) Ba)<|AO h λq j h=>CQ<|.a 1<|.p (ads (k:=.u64) j)<|.aN<|M _ _ _ (Ag [AQ 1]) h) λh=>CW<|AO h λq j h=>AP 3<|.p (Dj Jw Sl [Dt (IntKind.u8.wrap J)])<|.Y (DX (k:=0) Dt j Jw A8 (λ_=>rfl) Ba)<|JQ)<|λj=>AZ<|BF h (λh=>CQ<|.a 1<|.p (aRX (k:=.u64) (u:=q))<|.aN<|j (iL .u64 q) (Ag []) h) λh=>j q (Ag []) h
def MP (j:AV)(q:Int):AB AV:=(CZ 1 [] j).bind λI=>(zZ q).bind λJ=>(CZ 1 I J).bind λL=>some L
def Ob :=FZ func264 rfl MP IX AU Ii λj q r h=>BL<|.f (C9 5 1)<|.aT<|Hr h λM I O J U L h=>BL<|.f (Gn Jw Sl [])<|.a 1<|.f (DX (k:=1) Dt I Jw A8 (λ_=>rfl) Ba)<|.a 1<|.ca (aRk J).view<|.Y (DX (k:=2) Dt L Jw A8 (λ_=>rfl) Ba)<|qh
def RY (q:AV)(j:BH):AB AV:=(MP q (j.size:Int)).bind λI=>(CZ 1 I (DI j)).bind λJ=>some J
def YS :=FZ func263 rfl RY IX CP Ii λq j r h=>BL<|.f (C9 5 1)<|.aT<|Bj h λL I M J h=>AP 3<|.f (x:=.aQ 1) (JR [IX q,AU (j.size:Int)] (Ob I))<|.a 1<|.p (amC (s:=j) IJ aAm a4q)<|.Y (DX (k:=1) Dt J Jw A8 (λ_=>rfl) Ba)<|Jt
def kW (q:AV)(j:Ac):AB AV:=(CZ 1 [] q).bind λI=>(cond j ((CZ 1 I [1]).bind λJ=>some J) ((CZ 1 I [0]).bind λL=>some L))
def aW7 :=FZ func265 rfl kW IX Ai Ii λI q r h=>BL<|.f (C9 5 1)<|.aT<|AO h λJ j h=>BL<|.f (Gn Jw Sl [])<|.a 1<|.Y (DX (k:=1) Dt j Jw A8 (λ_=>rfl) Ba)<|Aa<|AZ<|BF h (λh=>AO h λJ j h=>AP 1<|.p (Dj Jw Sl [Dt 1])<|.Y (DX (k:=2) Dt j Jw A8 (λ_=>rfl) Ba)<|qh) λh=>AO h λJ j h=>AP 1<|.p (Dj Jw Sl [Dt 0])<|.Y (DX (k:=2) Dt j Jw A8 (λ_=>rfl) Ba)<|qh
def a2i (j:Gj)(I:(AV->Int->AB AV)):AV->Int->AB AV:=λv2 q=>(cond (q<(j.length:Int)) ((Aq j q).bind λJ=>(RY v2 J).bind λL=>I L (Ar (q+1))) (some v2))
def aU2 (j:Gj):AV->Int->AB AV:=aS (a2i j) Aw
def wH (q:AV)(j:Gj):AB AV:=(MP q (j.length:Int)).bind λI=>aU2 j I 0
def aSR :=FZ func266 rfl wH IX Ia Ii λJ j r h=>BL<|.f (C9 5 1)<|.aT<|AO h λq I h=>AP 2<|.p (BK DV j)<|.Y (x:=.aQ 1) (JR [IX J,AU (j.length:Int)] (Ob I))<|Aa<|AZ<|Ak<|DJ (λq I=>⟨Az 24 [(1,Ia j),(5,.aQ 0),(6,AU I)],[(Ii q)],0⟩) _ _ _ _ (Ag [AQ 1]) h<|λq I M L O h=>Aa<|AP 2<|.Z (BK DV j)<|Bg h (λh=>Aa<|Ak<|Bj h λq I O U h=>CQ<|.a 3<|.p (BG DV I)<|.a 1<|.f (JY (eY:=[.aQ 0,CP q]) (fF:=[.d (.sl (List.map Dt L)),CP q]) (YS U) (λx q=>MZ) aGc ⟨⟨5,1,List.map Dt L,A8,rfl⟩,rfl,trivial⟩ rfl)<|aAo) λh=>Hf
def aE9 (j:Ci):AB AV:=some [j.User,j.Message,j.State,j.iJ,j.kT,j.oq,j.gy]
def aoQ :=JM func267 rfl aE9 Iz CO λj r h=>AP 1<|.f (C9 3 1)<|.aT<|AP 14<|.Y (Gn DL zero3 [Ah j.User,Ah j.Message,Ah j.State,Ah j.iJ,Ah j.kT,Ah j.oq,Ah j.gy])<|Jt
def a2k (q:AV)(J:(AV->Int->AB AV)):AV->Int->AB AV:=λI j=>(cond (j<(q.length:Int)) ((Aq q j).bind λL=>(MP I L).bind λM=>J M (Ar (j+1))) (some I))
def aFr (j:AV):AV->Int->AB AV:=aS (a2k j) Aw
def aAK (j:Cx)(J:(AV->Int->AB AV)):AV->Int->AB AV:=λI q=>(bif q<(j.Levels.Kinds.length:Int) then(Aq j.Levels.Kinds q).bind λL=>(MP I L.Kind).bind λM=>(Aq j.Levels.Kinds q).bind λO=>(MP M O.N).bind λU=>J U (Ar (q+1))else(aE9 j.Levels).bind λY=>aFr Y I 0)
def aIh (j:Cx):AV->Int->AB AV:=aS (aAK j) Aw
def a2x (j:Cx)(I:(AV->Int->AB AV)):AV->Int->AB AV:=λY q=>(bif q<(j.Levels.Users.length:Int) then(Aq j.Levels.Users q).bind λJ=>(RY Y J.User).bind λL=>(Aq j.Levels.Users q).bind λM=>(MP L M.N).bind λO=>I O (Ar (q+1))else(MP Y (j.Levels.Kinds.length:Int)).bind λU=>aIh j U 0)
def aVt (j:Cx):AV->Int->AB AV:=aS (a2x j) Aw
def o7 (j:Cx):AB AV:=(RY [] j.Text).bind λq=>(MP q j.N).bind λI=>(MP I j.Target).bind λJ=>(kW J j.Thread).bind λL=>(RY L j.Via).bind λM=>(wH M j.Allow).bind λO=>(wH O j.iK).bind λU=>(MP U (j.Levels.Users.length:Int)).bind λY=>aVt j Y 0
def aRp :=JM func187 rfl o7 II Ii λj r h=>AP 1<|.f (C9 5 1)<|.aT<|AO h λq I h=>AP 2<|.Y (x:=.aQ 2) (JR [.d (.lit (.slice none 0 0)),CP j.Text] (YS I))<|AO h λI J h=>AP 3<|.Y (JY (eY:=[.aQ 2,AU j.N]) (fF:=[.d (.sl (List.map Dt q)),AU j.N]) (Ob J) (λx q=>MZ) Zk ⟨⟨5,1,List.map Dt q,A8,rfl⟩,rfl,trivial⟩ rfl)<|AO h λq J h=>AP 3<|.Y (JY (eY:=[.aQ 3,AU j.Target]) (fF:=[.d (.sl (List.map Dt I)),AU j.Target]) (Ob J) (λx q=>MZ) Zk ⟨⟨5,1,List.map Dt I,A8,rfl⟩,rfl,trivial⟩ rfl)<|AO h λI J h=>AP 3<|.Y (JY (eY:=[.aQ 4,Ai j.Thread]) (fF:=[.d (.sl (List.map Dt q)),Ai j.Thread]) (aW7 J) (λx q=>MZ) ab5 ⟨⟨5,1,List.map Dt q,A8,rfl⟩,rfl,trivial⟩ rfl)<|AO h λq J h=>AP 3<|.Y (JY (eY:=[.aQ 5,CP j.Via]) (fF:=[.d (.sl (List.map Dt I)),CP j.Via]) (YS J) (λx q=>MZ) aGc ⟨⟨5,1,List.map Dt I,A8,rfl⟩,rfl,trivial⟩ rfl)<|AO h λI J h=>AP 3<|.Y (JY (eY:=[.aQ 6,Ia j.Allow]) (fF:=[.d (.sl (List.map Dt q)),Ia j.Allow]) (aSR J) (λx q=>MZ) aMY ⟨⟨5,1,List.map Dt q,A8,rfl⟩,rfl,trivial⟩ rfl)<|AO h λq J h=>AP 3<|.Y (JY (eY:=[.aQ 7,Ia j.iK]) (fF:=[.d (.sl (List.map Dt I)),Ia j.iK]) (aSR J) (λx q=>MZ) aMY ⟨⟨5,1,List.map Dt I,A8,rfl⟩,rfl,trivial⟩ rfl)<|AZ<|AO h λI J h=>AP 3<|.p (BK F5 j.Levels.Users)<|.Y (JY (eY:=[.aQ 8,AU (j.Levels.Users.length:Int)]) (fF:=[.d (.sl (List.map Dt q)),AU (j.Levels.Users.length:Int)]) (Ob J) (λx q=>MZ) Zk ⟨⟨5,1,List.map Dt q,A8,rfl⟩,rfl,trivial⟩ rfl)<|Aa<|AZ<|Ak<|DJ (λq I=>⟨Az 109 [(3,.aQ 0),(4,.ptr 1 0),(5,AU I)],[(Ii q),.box (BD (FW j.Levels))],0⟩) _ _ _ _ (Ag [AQ 10,AQ 9]) h<|λq I J L M h=>Aa<|AP 3<|.Z (BK F5 j.Levels.Users)<|Bg h (λh=>Aa<|Ak<|Bj h λq I M O h=>AP 4<|.p (BG F5 I)<|.a 2<|.Y (JY (eY:=[.aQ 0,CP q.User]) (fF:=[.d (.sl (List.map Dt L)),CP q.User]) (YS O) (λx q=>MZ) aGc ⟨⟨5,1,List.map Dt L,A8,rfl⟩,rfl,trivial⟩ rfl)<|Bj h λq I L O h=>CQ<|.a 4<|.p (BG F5 I)<|.a 2<|.f (JY (eY:=[.aQ 2,AU q.N]) (fF:=[.d (.sl (List.map Dt M)),AU q.N]) (Ob O) (λx q=>MZ) Zk ⟨⟨5,1,List.map Dt M,A8,rfl⟩,rfl,trivial⟩ rfl)<|.aN<|Cc<|J _ _ _ (Ag [AQ 3,AQ 1]) h) λh=>CW<|AO h λq I h=>AP 3<|.p (BK F8 j.Levels.Kinds)<|.Y (JY (eY:=[.aQ 0,AU (j.Levels.Kinds.length:Int)]) (fF:=[.d (.sl (List.map Dt L)),AU (j.Levels.Kinds.length:Int)]) (Ob I) (λx q=>MZ) Zk ⟨⟨5,1,List.map Dt L,A8,rfl⟩,rfl,trivial⟩ rfl)<|Aa<|AZ<|Ak<|DJ (λq I=>⟨Az 109 [(3,.aQ 0),(4,.ptr 1 0),(6,AU I)],[(Ii q),.box (BD (FW j.Levels))],0⟩) _ _ _ _ (Ag [AQ 2,AQ 1]) h<|λq I J L M h=>Aa<|AP 3<|.Z (BK F8 j.Levels.Kinds)<|Bg h (λh=>Aa<|Ak<|Bj h λq I M O h=>AP 4<|.p (BG F8 I)<|.a 2<|.Y (JY (eY:=[.aQ 0,AU q.Kind]) (fF:=[.d (.sl (List.map Dt L)),AU q.Kind]) (Ob O) (λx q=>MZ) Zk ⟨⟨5,1,List.map Dt L,A8,rfl⟩,rfl,trivial⟩ rfl)<|Bj h λq I L O h=>CQ<|.a 4<|.p (BG F8 I)<|.a 2<|.f (JY (eY:=[.aQ 2,AU q.N]) (fF:=[.d (.sl (List.map Dt M)),AU q.N]) (Ob O) (λx q=>MZ) Zk ⟨⟨5,1,List.map Dt M,A8,rfl⟩,rfl,trivial⟩ rfl)<|.aN<|Cc<|J _ _ _ (Ag [AQ 3,AQ 1]) h) λh=>CW<|AO h λq I h=>AP 1<|.X (aoQ I).view<|Aa<|AZ<|Ak<|DJ (λI J=>⟨Az 109 [(3,.aQ 0),(7,BZ q),(8,AU J)],[(Ii I)],0⟩) _ _ _ _ (Ag [AQ 0]) h<|λI J L M O h=>Aa<|AP 2<|.Z (BK Ah q)<|Bg h (λh=>Aa<|Ak<|Bj h λq I J O h=>CQ<|.a 3<|.p (BG Ah I)<|.a 1<|.f (JY (eY:=[.aQ 0,AU q]) (fF:=[.d (.sl (List.map Dt M)),AU q]) (Ob O) (λx q=>MZ) Zk ⟨⟨5,1,List.map Dt M,A8,rfl⟩,rfl,trivial⟩ rfl)<|aEG) λh=>Hf
def aH2  :AB Int:=some 860922984064492325
def aix (r:Int)(h:aH2=some r):Dh 262 [] [] (AU r) []:=Dy func262 rfl<|Uc
def aKV (j:AV)(I:(Int->Int->AB Int)):Int->Int->AB Int:=λv2 q=>(cond (q<(j.length:Int)) ((Aq j q).bind λJ=>(YR (IntKind.u64.wrap ((FB .xor .u64 v2 (IntKind.u64.wrap J))*1099511628211)) 4611686018427387904).bind λL=>I L (Ar (q+1))) (some (Ar v2)))
def aTV (j:AV):Int->Int->AB Int:=aS (aKV j) Aw
def aHg (j:Int)(q:AV):AB Int:=(YR (IntKind.u64.wrap j) 4611686018427387904).bind λI=>aTV q I 0
def amV :=Dc func261 rfl aHg AU IX AU λJ j r h=>AZ<|AO h λI q h=>AP 2<|.Z (aEs (k:=.u64) q)<|Aa<|AZ<|Ak<|DJ (λI q=>⟨Az 27 [(1,IX j),(5,.d ((ql .u64) I)),(6,AU q)],[],0⟩) _ _ _ _ (Ag []) h<|λI q L M O h=>Aa<|AP 2<|.Z (BK Dt j)<|Bg h (λh=>Aa<|Ak<|Bj h λI q O U h=>CQ<|.a 3<|.p (BG Dt q)<|.a 2<|.p (aQL (k:=.u64) (u:=M) (v:=(IntKind.u64.wrap I)))<|.a 1<|.p (aEs (k:=.u64) U)<|.aN<|Cc<|L _ _ _ (Ag []) h) λh=>Ei
def a1G (j:AV):AB Int:=(aH2).bind λq=>(aHg q j).bind λI=>some I
def aPE :=Dk func186 rfl a1G IX AU λj r h=>AZ<|Bj h λq I L J h=>BL<|.ca (aix  q I)<|.a 1<|.X (amV J)<|CV
def a2W (j:Ad):AB Int:=(o7 j.Content).bind λq=>(a1G q).bind λI=>some I
def aaj :=Dk func127 rfl a2W Cm AU λj r h=>AZ<|Bj h λJ q L I h=>AP 2<|.ca (aRp q).view<|.X (aPE I)<|CV
def qG (j:Ad):AB Ac:=(a2W j).bind λq=>some (q==j.Hash)
def aLD :=Dk func81 rfl qG Cm Ai λj r h=>AZ<|AO h λI q h=>Ee A8 A8 A8 (.a 1<|.ca (aaj q)<|.a 4<|.nil _)<|CV
def a1x (q:Int)(j:Cx):AB Cx:=(cond (q==1) (some j) (cond (q==2) (some ({ El with N:=j.N,Via:=j.Via })) (cond (q==3) (some ({ El with Levels:=j.Levels })) (cond (q==4) (some ({ El with N:=j.N,Allow:=j.Allow })) (cond (q==5) (some ({ El with N:=j.N })) (cond (q==6) (some ({ El with Allow:=j.Allow,iK:=j.iK })) (cond (q==14) (some ({ El with Target:=j.Target })) (some El))))))))
def aMx :=Dc func128 rfl a1x AU II II λI j r h=>AZ<|Aa<|AZ<|Ak<|AZ<|Di h (λh=>AZ<|ES<|by rw[←CM h];exact⟨[II j],[],⟨⟨1,BD (Fz j),true,16,A8,A8,A8,V9,DZ A8,QU,A8⟩,trivial⟩,A8,A8,A8⟩) λh=>AZ<|Di h (λh=>AZ<|ES<|by rw[←CM h];exact⟨[II ({ El with N:=j.N,Via:=j.Via })],[],⟨⟨1,BD (Fz ({ El with N:=j.N,Via:=j.Via })),true,16,A8,A8,A8,V9,DZ A8,QU,A8⟩,trivial⟩,A8,A8,A8⟩) λh=>AZ<|Di h (λh=>AZ<|ES<|by rw[←CM h];exact⟨[II ({ El with Levels:=j.Levels })],[],⟨⟨1,BD (Fz ({ El with Levels:=j.Levels })),true,16,A8,A8,A8,V9,DZ A8,QU,A8⟩,trivial⟩,A8,A8,A8⟩) λh=>AZ<|Di h (λh=>AZ<|ES<|by rw[←CM h];exact⟨[II ({ El with N:=j.N,Allow:=j.Allow })],[],⟨⟨1,BD (Fz ({ El with N:=j.N,Allow:=j.Allow })),true,16,A8,A8,A8,V9,DZ A8,QU,A8⟩,trivial⟩,A8,A8,A8⟩) λh=>AZ<|Di h (λh=>AZ<|ES<|by rw[←CM h];exact⟨[II ({ El with N:=j.N })],[],⟨⟨1,BD (Fz ({ El with N:=j.N })),true,16,A8,A8,A8,V9,DZ A8,QU,A8⟩,trivial⟩,A8,A8,A8⟩) λh=>AZ<|Di h (λh=>AZ<|ES<|by rw[←CM h];exact⟨[II ({ El with Allow:=j.Allow,iK:=j.iK })],[],⟨⟨1,BD (Fz ({ El with Allow:=j.Allow,iK:=j.iK })),true,16,A8,A8,A8,V9,DZ A8,QU,A8⟩,trivial⟩,A8,A8,A8⟩) λh=>AZ<|BF h (λh=>AZ<|ES<|by rw[←CM h];exact⟨[II ({ El with Target:=j.Target })],[],⟨⟨1,BD (Fz ({ El with Target:=j.Target })),true,16,A8,A8,A8,V9,DZ A8,QU,A8⟩,trivial⟩,A8,A8,A8⟩) λh=>AZ<|ES<|by rw[←CM h];exact⟨[II El],[],⟨⟨1,BD (Fz El),true,16,A8,A8,A8,V9,DZ A8,QU,A8⟩,trivial⟩,A8,A8,A8⟩
def a1q (j:Ad):AB Ad:=(a1x j.Kind j.Content).bind λq=>some ({ j with Content:=q })
def aR9 :=Dk func82 rfl a1q Cm Cm λj r h=>AZ<|AO h λq I h=>AP 4<|.ca (aMx I)<|aM7
def aDw (j:AV)(I:(AV->Int->AB AV)):AV->Int->AB AV:=λv2 q=>(cond (q<(j.length:Int)) ((Aq j q).bind λJ=>(zZ J).bind λL=>(CZ 1 v2 L).bind λM=>I M (Ar (q+1))) (some v2))
def aNG (j:AV):AV->Int->AB AV:=aS (aDw j) Aw
def nD (q:AV)(j:AV):AB AV:=(MP q (j.length:Int)).bind λI=>aNG j I 0
def aUA :=FZ func352 rfl nD IX BZ Ii λI j r h=>BL<|.f (C9 5 1)<|.aT<|AO h λJ q h=>AP 2<|.p (BK Ah j)<|.Y (x:=.aQ 1) (JR [IX I,AU (j.length:Int)] (Ob q))<|Aa<|AZ<|Ak<|DJ (λJ q=>⟨Az 25 [(1,BZ j),(5,.aQ 0),(6,AU q)],[(Ii J)],0⟩) _ _ _ _ (Ag [AQ 1]) h<|λJ q M O L h=>Aa<|AP 2<|.Z (BK Ah j)<|Bg h (λh=>Aa<|Ak<|Hr h λJ q O L Y U h=>CQ<|.a 3<|.p (BG Ah q)<|.a 1<|.ca (aRk L).view<|.f (DX (k:=0) Dt U Jw A8 (λ_=>rfl) Ba)<|aAo) λh=>Hf
def vI (j:Ad):AB AV:=(MP [] j.Id).bind λU=>(RY U j.Room).bind λY=>(RY Y j.bG).bind λZ=>(MP Z j.Kind).bind λx4=>(kW x4 j.State).bind λx5=>(RY x5 j.Key).bind λx6=>(MP x6 j.Time).bind λx7=>(MP x7 j.Depth).bind λx8=>(nD x8 j.bP).bind λx9=>(nD x9 j.bQ).bind λq=>(o7 j.Content).bind λI=>(RY q (Tc I)).bind λJ=>(MP J j.Hash).bind λL=>(RY L j.rM.Server).bind λM=>(MP M j.rM.Sum).bind λO=>some O
def ap1 :=JM func277 rfl vI Cm Ii λJ r h=>AP 1<|.f (C9 5 1)<|.aT<|AO h λI q h=>AP 2<|.Z (x:=(IX I)) (aGX [.d (.lit (.slice none 0 0)),AU J.Id] (Ob q).view)<|AO h λq j h=>AP 3<|.X (YS j).view<|AO h λI j h=>AP 3<|.X (YS j).view<|AO h λq j h=>AP 3<|.X (Ob j).view<|AO h λI j h=>AP 3<|.X (aW7 j).view<|AO h λq j h=>AP 3<|.X (YS j).view<|AO h λI j h=>AP 3<|.X (Ob j).view<|AO h λq j h=>AP 3<|.X (Ob j).view<|AO h λI j h=>AP 3<|.X (aUA j).view<|AO h λq j h=>AP 3<|.X (aUA j).view<|Bj h λI j M L h=>AP 3<|.ca (aRp j).view<|.p (aLu (l:=I) aAm a4q IJ)<|.X (YS L).view<|AO h λI q h=>AP 3<|.X (Ob q).view<|AO h λq j h=>AP 4<|.X (YS j).view<|AO h λI j h=>AP 4<|.Y (x:=.aQ 2) (JR [IX q,AU J.rM.Sum] (Ob j))<|Jt
def a4h (j:Ad):AB Int:=(a1q j).bind λq=>(vI ({ { q with Id:=0 }with rM:=jE })).bind λI=>(a1G I).bind λJ=>some J
def agt :=Dk func214 rfl a4h Cm AU λq r h=>AZ<|AO h λI j h=>AP 1<|.X (aR9 j)<|AZ<|Bj h λI j L J h=>AP 1<|.ca (ap1 j).view<|.X (aPE J)<|CV
def qL (j:BH):AB BH:=(fB j 64).bind λq=>(cond (!q) ((fB j 33).bind λI=>some (!I)) (some false)).bind λJ=>(cond J (some CS) ((a1N j).bind λL=>(Oy j (Ar (L+1)) ((j).size)).bind λM=>some M))
def a7o :=Dk func215 rfl qL CP CP λI r h=>AZ<|Aa<|AO h λq j h=>AP 1<|.ca (a5Q j)<|.a 1<|AO h λq j h=>.mg 6 4 (Ai q) (.bi j (λh=>AO h λq j h=>.a 1<|.X (a5Q j)<|CU))<|.aT<|BF h Bo λh=>Bj h λq j M J h=>AP 2<|.ca (aSa j)<|.a 1<|.Z (lR J JU (λ_=>rfl) IJ rfl)<|CV
def a9z (j:Ac):AB Int:=(cond j (some 12) (some 0))
def eI (j:Ad)(I:Ac):AB Int:=(cond I (some 6) ((a4h j).bind λJ=>(cond (J != j.Id) (some 11) ((qL j.bG).bind λq=>(cond (!(j.rM.Server.toList==q.toList)) (a9z true) (a9z (j.rM.Sum != j.Id)))))))
def Uh (j:Ad):AB Int:=(qX j).bind λL=>(cond (L != 0) (some L) ((qG j).bind λq=>(cond (!q) ((a1x j.Kind j.Content).bind λI=>(UQ j.Content I).bind λJ=>eI j (!J)) (eI j false))))
def ahl :=Dk func156 rfl Uh Cm AU λj r h=>AZ<|Aa<|AO h λq M h=>AP 1<|.X (agJ M)<|AZ<|BF h Bo λh=>Aa<|D9 (λ(J:Ac)=>(λj J=>⟨Az 43 [(1,.ptr 0 0),(22,Ai J)],[.box (BD (Au j))],0⟩) j J) (λJ=>eI j J) r (λJ h=>BF h Bo λh=>Aa<|AO h λq M h=>Ee A8 A8 A8 (.a 1<|.ca (agt M)<|.a 3<|.nil _)<|BF h Bo λh=>Aa<|D9 (λ(L:Ac)=>(λL=>⟨Az 43 [(42,Ai L)],[],0⟩) L) (λL=>a9z L) r (λL h=>Ir)<|λq=>AO h λM O h=>Ed h (λI h=>DR A8 A8 A8 (.a 5<|.ca (a7o O)<|.a 1<|.c (BM some I)<|.a 7<|.nil _)<|q true (Ag []) h) λI h=>DR A8 A8 A8 (.a 5<|.ca (a7o O)<|.a 1<|.c (BM some I)<|.a 7<|.nil _)<|q (j.rM.Sum != j.Id) (Ag []) h)<|λq=>AO h λM O h=>Ed h (λI h=>Bj h λx5 U Y Z h=>DR A8 A8 A8 (.a 1<|.ca (aLD O)<|.a 1<|.c (BM some I)<|.a 6<|.ca (aMx U)<|.ca (aFT Z)<|.a 2<|.nil _)<|q (!Y) (Ag [AQ 0]) h) λI h=>DR A8 A8 A8 (.a 1<|.ca (aLD O)<|.a 1<|.c (BM some I)<|.a 10<|.nil _)<|q false (Ag [AQ 0]) h
def aCF (j:Aj)(I:(Int->AB Int)):Int->AB Int:=λq=>(cond (q<(j.length:Int)) ((Aq j (Ar (q-1))).bind λJ=>(Aq j q).bind λL=>(cond (J.Id>=L.Id) (some 8) (I (Ar (q+1))))) (some 0))
def aEK (j:Aj):Int->AB Int:=bg (aCF j) Aw
def aCm (j:Aj)(L:(Int->AB Int)):Int->AB Int:=λq=>(cond (q<(j.length:Int)) ((Aq j q).bind λI=>(Aq j 0).bind λJ=>(cond (!(I.Room.toList==J.Room.toList)) (some 13) (L (Ar (q+1))))) (aEK j 1))
def aKE (j:Aj):Int->AB Int:=bg (aCm j) Aw
def a3S (j:Aj)(k3:(Int->AB Int)):Int->AB Int:=λv2=>(cond (v2<(j.length:Int)) ((Aq j v2).bind λI=>(Uh I).bind λq=>(cond (q != 0) (some q) (k3 (Ar (v2+1))))) (aKE j 1))
def aEC (j:Aj):Int->AB Int:=bg (a3S j) Aw
def NS (j:Aj):AB Int:=(cond ((j.length:Int)>2000) (some 7) (aEC j 0))
def aOU :=Dk func102 rfl NS BI AU λj r h=>AZ<|Aa<|AP 1<|.Z (BK Au j)<|BF h Bo λh=>Aa<|AZ<|Ak<|Dq (λq=>⟨Az 58 [(0,BI j),(3,AU q)],[],0⟩) _ _ _ (Ag []) h<|λq I J L h=>Aa<|AP 2<|.Z (BK Au j)<|Bg h (λh=>Aa<|Ak<|Bj h λq I L M h=>AP 2<|.p (BG Au I)<|.a 1<|.ca (ahl M)<|aF3) λh=>CW<|Aa<|AZ<|Ak<|Dq (λq=>⟨Az 58 [(0,BI j),(5,AU q)],[],0⟩) _ _ _ (Ag []) h<|λq I J L h=>Aa<|AP 2<|.Z (BK Au j)<|Bg h (λh=>Aa<|Ak<|Bj h λq I L M h=>Ee A8 A8 A8 (.a 2<|.p (BG Au I)<|.a 3<|.p (BG Au M)<|.a 3<|.nil _)<|BF h Bo λh=>Vd) λh=>CW<|Aa<|AZ<|Ak<|Dq (λq=>⟨Az 58 [(0,BI j),(6,AU q)],[],0⟩) _ _ _ (Ag []) h<|λq I J L h=>Aa<|AP 2<|.Z (BK Au j)<|Bg h (λh=>Aa<|Ak<|Bj h λq I L M h=>Ee A8 A8 A8 (.a 3<|.p (BG Au I)<|.a 4<|.p (BG Au M)<|.a 3<|.nil _)<|BF h Bo λh=>Vd) λh=>Ei
def a0E (j:Int)(v2:Ac):AB Int:=(cond v2 (some 13) (some j))
def a1S (q:Bv)(j:Aj):AB Int:=(NS j).bind λI=>(cond (I==0) (cond ((j.length:Int)>0) ((Aq j 0).bind λJ=>a0E I (!(J.Room.toList==q.Id.toList))) (a0E I false)) (a0E I false))
def aNN :=Dc func58 rfl a1S FC BI AU λJ j r h=>AZ<|AO h λq I h=>AP 1<|.X (aOU I)<|Aa<|D9 (λ(v2:Ac)=>(λq v2=>⟨Az 25 [(5,AU q),(23,Ai v2)],[],0⟩) q v2) (λv2=>a0E q v2) r (λv2 h=>Ir)<|λq=>Ed h (λI h=>Ed h (λL h=>AO h λM O h=>DR A8 A8 A8 (.a 2<|.c (BM some I)<|.a 1<|.p (BK Au j)<|.a 2<|.c (BM some L)<|.a 1<|.p (BG Au O)<|.a 6<|.nil _)<|q (!(M.Room.toList==J.Id.toList)) (Ag []) h) λL h=>DR A8 A8 A8 (.a 2<|.c (BM some I)<|.a 1<|.p (BK Au j)<|.a 2<|.c (BM some L)<|.a 8<|.nil _)<|q false (Ag []) h) λI h=>DR A8 A8 A8 (.a 2<|.c (BM some I)<|.a 13<|.nil _)<|q false (Ag []) h
def VR (J:Int)(I:Int)(L:(Int->AV->AB AV)):Int->AV->AB AV:=λj q=>(bif j>J then(Aq q (Ar (j-1))).bind λM=>(Aq q j).bind λO=>L (Ar (j-1)) (q.set (j).toNat M)else(Aq q J).bind λU=>some (q.set (J).toNat I))
def alb (q:Int)(j:Int):Int->AV->AB AV:=aS (VR q j) Aw
def aIz (j:AV)(q:Int)(k2:(Int->AB AV)):Int->AB AV:=λI=>(cond (I<(j.length:Int)) ((Aq j I).bind λL=>some (decide (L<q))) (some false)).bind λM=>(cond M (k2 (Ar (I+1))) ((cond (I<(j.length:Int)) ((Aq j I).bind λO=>some (O==q)) (some false)).bind λU=>(cond U (some j) ((CZ 8 j [q]).bind λJ=>alb I q (Ar ((J.length:Int)-1)) J))))
def aUo (j:AV)(q:Int):Int->AB AV:=bg (aIz j q) Aw
def iq (j:AV)(q:Int):AB AV:=aUo j q 0
def aIK {eU FT r}(h:iq eU FT=some r):Dh 84 [.aQ 0,AU FT] [(CO eU)] (.aQ 1) [.dead,(CO r)]:=Dy func84 rfl<|BL<|.f (C9 3 1)<|.aT<|AZ<|Aa<|Ak<|Dq (λq=>⟨Az 59 [(0,.aQ 1),(1,AU FT),(5,AU q)],[.dead,(CO eU)],1⟩) _ _ _ (Ag [(0,false),AQ 0]) h<|λq j J I h=>Aa<|AP 2<|.p (Iy (k:=1) (e':=3) (s:=1) Ah eU A8 JW)<|.a 1<|AO h λq j h=>.mg 11 7 (Ai q) (.bi j (λh=>AO h λq j h=>.a 2<|.p (Ht (e':=3) (kd:=.i64) Ah j (k:=1) A8 JW Fl)<|.Z (x:=(AU q)) (Jg (e:=3) (size:=1) (k:=1) (i:=(I).toNat) (off:=0) Ah A8 A8 (GV j).2 Fl (DZ A8) (λ_=>rfl))<|CU))<|.aT<|Bg h aLW λh=>CW<|Aa<|AP 2<|.p (Iy (k:=1) (e':=3) (s:=1) Ah eU A8 JW)<|.a 1<|AO h λq j h=>.mg 25 7 (Ai q) (.bi j (λh=>AO h λq j h=>.a 2<|.p (Ht (e':=3) (kd:=.i64) Ah j (k:=1) A8 JW Fl)<|.Z (x:=(AU q)) (Jg (e:=3) (size:=1) (k:=1) (i:=(I).toNat) (off:=0) Ah A8 A8 (GV j).2 Fl (DZ A8) (λ_=>rfl))<|CU))<|.aT<|BF h (λh=>AZ<|nH) λh=>AO h λq j h=>AP 2<|.p (Dj DL zero3 [Ah FT])<|.Y (DX (k:=1) Ah j DL A8 (λ_=>rfl) Ba)<|Aa<|AP 1<|.Z (Iy (k:=2) (e':=3) (s:=1) Ah q A8 JW)<|Ak<|DJ (λq j=>⟨Az 59 [(0,.aQ 1),(1,AU FT),(5,AU I),(6,AU q)],[.dead,(CO j)],1⟩) _ _ _ _ (Ag [(0,false),AQ 2]) h<|λq j J M L h=>Aa<|AZ<|Bg h (λh=>Aa<|Ak<|Bj h λq j I L h=>CQ<|.a 5<|.p (Ht (e':=3) (kd:=.i64) Ah j (k:=1) A8 JW Fl)<|.p (x:=(AU q)) (Jg (e:=3) (size:=1) (k:=1) (i:=(Ar (M-1)).toNat) (off:=0) Ah A8 A8 (GV j).2 Fl (DZ A8) (λ_=>rfl))<|.p (Ht (e':=3) (kd:=.i64) Ah L (k:=1) A8 JW Fl)<|.f (Vb (e:=3) (size:=1) (v:=(AU q)) (k:=1) (i:=(M).toNat) (off:=0) (a':=q) Ah A8 (GV L).2 A8 (Fl).size A8 (DZ A8) A8 (λ_=>rfl))<|.nil<|Cc<|J _ _ _ (Ag [(0,false),AQ 1]) h) λh=>CW<|AO h λq j h=>AP 3<|.p (Ht (e':=3) (kd:=.i64) Ah j (k:=1) A8 JW Fl)<|.f (Vb (e:=3) (size:=1) (v:=(AU FT)) (k:=1) (i:=(I).toNat) (off:=0) (a':=FT) Ah A8 (GV j).2 A8 (Fl).size A8 (DZ A8) A8 (λ_=>rfl))<|.aT<|AZ<|nH
def aFe (j:Aj)(v2:Int)(k3:(AV->Int->AB AV))(J:(AV->Int->AB AV)):AV->Int->AB AV:=λI q=>(Aq j v2).bind λL=>(cond (q<(L.bQ.length:Int)) ((Aq j v2).bind λM=>(Aq M.bQ q).bind λO=>(iq I O).bind λU=>J U (Ar (q+1))) (k3 I (Ar (v2+1))))
def a6N (j:Aj)(v2:Int)(k3:(AV->Int->AB AV)):AV->Int->AB AV:=aS (aFe j v2 k3) Aw
def aIv (j:Aj)(v2:Int)(k3:(AV->Int->AB AV))(O:(AV->Int->AB AV)):AV->Int->AB AV:=λM q=>(Aq j v2).bind λU=>(cond (q<(U.bP.length:Int)) ((Aq j v2).bind λI=>(Aq I.bP q).bind λJ=>(iq M J).bind λL=>O L (Ar (q+1))) (a6N j v2 k3 M 0))
def aI2 (j:Aj)(v2:Int)(k3:(AV->Int->AB AV)):AV->Int->AB AV:=aS (aIv j v2 k3) Aw
def aKI (j:Aj)(k3:(AV->Int->AB AV)):AV->Int->AB AV:=λq v2=>(cond (v2<(j.length:Int)) (aI2 j v2 k3 q 0) (some q))
def aOB (j:Aj):AV->Int->AB AV:=aS (aKI j) Aw
def aBj (j:Aj):AB AV:=aOB j [] 0
def aou :=JM func158 rfl aBj BI CO λq r h=>BL<|.f (C9 3 1)<|.aT<|BL<|.f (C9 3 1)<|.aT<|Aa<|AZ<|Ak<|DJ (λI j=>⟨Az 54 [(0,BI q),(3,.aQ 0),(4,AU j)],[(CO I)],0⟩) _ _ _ _ (Ag [AQ 1]) h<|λI j J M L h=>Aa<|AP 2<|.Z (BK Au q)<|Bg h (λh=>Aa<|Ak<|Aa<|AZ<|Ak<|DJ (λI j=>⟨Az 54 [(0,BI q),(3,.aQ 0),(4,AU L),(5,AU j)],[(CO I)],0⟩) _ _ _ _ (Ag [AQ 0]) h<|λI j M O Y h=>Aa<|AO h λI j h=>AP 3<|.p (BG Au j)<|.a 2<|.Z (BK Ah I.bP)<|Bg h (λh=>Aa<|Ak<|Hr h λI j J L Y U h=>CQ<|.a 3<|.p (BG Au j)<|.a 3<|.p (BG Ah L)<|.a 1<|aOH) λh=>CW<|AZ<|Ak<|DJ (λI j=>⟨Az 54 [(0,BI q),(3,.aQ 0),(4,AU L),(6,AU j)],[(CO I)],0⟩) _ _ _ _ (Ag [AQ 0]) h<|λI j M L O h=>Aa<|AO h λI j h=>AP 3<|.p (BG Au j)<|.a 2<|.Z (BK Ah I.bQ)<|Bg h (λh=>Aa<|Ak<|Hr h λI j J O Y U h=>CQ<|.a 3<|.p (BG Au j)<|.a 3<|.p (BG Ah O)<|.a 1<|aOH) λh=>CW<|oC) λh=>Hf
def aGt (j:Aj)(q:Int)(k2:(Int->AB Int)):Int->AB Int:=λI=>(cond (I<(j.length:Int)) ((Aq j I).bind λJ=>(cond (J.Id==q) (some I) (k2 (Ar (I+1))))) (some (-1)))
def aWz (q:Aj)(j:Int):Int->AB Int:=bg (aGt q j) Aw
def zD (q:Aj)(j:Int):AB Int:=aWz q j 0
def aMz :=Dc func120 rfl zD BI AU AU λj q r h=>AZ<|Aa<|AZ<|Ak<|Dq (λI=>⟨Az 20 [(0,BI j),(1,AU q),(5,AU I)],[],0⟩) _ _ _ (Ag []) h<|λI J L M h=>Aa<|AP 2<|.Z (BK Au j)<|Bg h (λh=>Aa<|Ak<|AO h λI J h=>AP 2<|.p (BG Au J)<|zI) λh=>Ei
def a8z (k3:(AV->Int->AB AV))(v2:Int)(j:AV):AB AV:=k3 j (Ar (v2+1))
def aGU (j:AV)(q:Aj)(k3:(AV->Int->AB AV)):AV->Int->AB AV:=λI v2=>(cond (v2<(j.length:Int)) ((Aq j v2).bind λM=>(zD q M).bind λO=>(cond (O<0) ((Aq j v2).bind λJ=>(iq I J).bind λL=>a8z k3 v2 L) (a8z k3 v2 I))) (some I))
def aQF (j:AV)(q:Aj):AV->Int->AB AV:=aS (aGU j q) Aw
def Z4 (q:Aj)(j:AV):AB AV:=aQF j q [] 0
def a1D :=FZ func157 rfl Z4 BI BZ CO λq j r h=>BL<|.f (C9 3 1)<|.aT<|BL<|.f (C9 3 1)<|.aT<|Aa<|AZ<|Ak<|DJ (λI J=>⟨Az 27 [(0,BI q),(1,BZ j),(5,.aQ 0),(6,AU J)],[(CO I)],0⟩) _ _ _ _ (Ag [AQ 1]) h<|λI J M Y O h=>Aa<|AP 2<|.Z (BK Ah j)<|Bg h (λh=>D9 (λ(L:(AA Int))=>(λq j I L=>⟨Az 27 [(0,BI q),(1,BZ j),(5,.aQ 0),(6,AU I)],[(CO L)],0⟩) q j O L) (λL=>a8z J O L) r (λL h=>Oc)<|λI=>Ak<|Bj h λJ M O U h=>AP 3<|.p (BG Ah M)<|.a 1<|.X (aMz U)<|BF h (λh=>Bj h λJ M O U h=>CQ<|.a 3<|.p (BG Ah M)<|.a 1<|.f (x:=.aQ 1) (E5 [.ent 0] [.aQ 0,AU J] (aIK U))<|.aN<|I O (Ag [AQ 1]) h) λh=>I Y (Ag [AQ 0]) h) λh=>Hf
def a9V (j:Aj):AB Ac:=(aBj j).bind λq=>(Z4 j q).bind λI=>some ((I.length:Int)==0)
def aku :=Dk func103 rfl a9V BI Ai λj r h=>AZ<|Bj h λL q I J h=>AP 2<|.ca (aou q).view<|.ca (a1D J).view<|.Z (BK Ah I)<|CV
def JK (j:Aj)(q:Int):AB (Ad×Ac):=(zD j q).bind λI=>(cond (I<0) (some (EI,false)) ((Aq j I).bind λJ=>some (J,true)))
def KD :=Dc func75 rfl JK BI AU (λr=>.eu [Cm r.1,Ai r.2]) λL j r h=>AZ<|AO h λq I h=>AP 2<|.X (aMz I)<|Aa<|AZ<|BF h (λh=>AZ<|ES<|a4R) λh=>AO h λq I h=>AP 2<|.Z (BG Au I)<|ES<|a2y
def aA5 (j:Ad)(I:Aj)(M:(Ac->Int->AB Ac)):Ac->Int->AB Ac:=λJ q=>(cond (q<(j.bP.length:Int)) ((Aq j.bP q).bind λO=>(JK I O).bind λL=>(cond (L.1.Depth>=j.Depth) (some false) ((cond J (some true) (some (L.1.Depth==(Ar (j.Depth-1))))).bind λU=>M U (Ar (q+1))))) (some J))
def a4j (j:Ad)(q:Aj):Ac->Int->AB Ac:=aS (aA5 j q) Aw
def a8u (j:Ad)(q:Aj)(J:(Int->AB Ac)):Int->AB Ac:=λI=>(cond (I<(j.bQ.length:Int)) ((Aq j.bQ I).bind λL=>(JK q L).bind λM=>(cond (M.1.Depth>=j.Depth) (some false) (J (Ar (I+1))))) (a4j j q ((j.bP.length:Int)==0) 0))
def aHO (j:Ad)(q:Aj):Int->AB Ac:=bg (a8u j q) Aw
def a0G (q:Aj)(j:Ad):AB Ac:=(cond ((j.bP.length:Int)==0) (some (j.Depth != 1)) (some false)).bind λI=>(cond I (some false) (aHO j q 0))
def acE {eU FV r}(h:a0G eU FV=some r):Dh 104 [BI eU,Cm FV] [] (Ai r) []:=by
 refine Dy func104 rfl ?_;unfold a0G at h;refine AZ<|Aa<|AP 2<|.p (BK Ah FV.bP)<|.a 1<|?_;obtain⟨x1,U,h⟩:=Du h;refine .mg 16 4 (Ai x1) ?_ ?_
 ·rcases Yf U with⟨j,h⟩|⟨j,h⟩
  ·refine .c (BM some j)<|.aM 4 ?_;obtain rfl:=CM h;kernel_rfl
  refine .c (BM some j)<|.aM 4 ?_;obtain rfl:=CM h;kernel_rfl
 refine .aT<|Di h (λh=>?_) λh=>?_
 ·refine BL<|.aM 1 ?_;rw[←CM h];exact .ret (Ew [])
 refine FM<|Aa<|AZ<|Ak ?_;refine Dq (λv4=>⟨Az 79 [(0,BI eU),(3,.ptr 0 0),(5,AU v4)],[.box (BD (Au FV))],0⟩) _ _ _ (Ag [AQ 0]) h ?_;clear h;intro J20 k5 Y v4 h;unfold a8u at h;refine Aa<|AP 3<|.Z (BK Ah FV.bQ)<|Di h (λh=>?_) λh=>?_
 ·refine FM<|Aa<|Ak ?_;obtain⟨x7,Z,x8,hx8,h⟩:=jo h;refine AP 4<|.p (BG Ah Z)<|.a 1<|.X (KD hx8)<|AZ<|Di h (λh=>?_) λh=>?_
  ·refine BL<|.aM 1 ?_;rw[←CM h];exact .ret (Ew [])
  refine FM<|CQ<|.a 3<|.nil ?_;exact Y _ _ (Ag [AQ 0]) h
 refine CW<|AP 2<|.Z (BK Ah FV.bP)<|Aa<|AZ<|Ak ?_;refine DJ (λq I=>⟨Az 79 [(0,BI eU),(3,.ptr 0 0),(8,Ai q),(9,AU I)],[.box (BD (Au FV))],0⟩) _ _ _ _ (Ag [AQ 0]) h ?_;clear h;intro J19 k12 J q I h;unfold aA5 at h;refine Aa<|AP 3<|.Z (BK Ah FV.bP)<|Di h (λh=>?_) λh=>?_
 ·refine FM<|Aa<|Ak ?_;obtain⟨x14,L,x15,M,h⟩:=jo h;refine AP 4<|.p (BG Ah L)<|.a 1<|.X (KD M)<|Aa<|AZ<|Di h (λh=>?_) λh=>?_
  ·refine BL<|.aM 1 ?_;rw[←CM h];exact .ret (Ew [])
  refine FM<|CQ<|.a 2<|?_;obtain⟨x17,O,h⟩:=Du h;refine .mg 71 6 (Ai x17) ?_ ?_
  ·replace h:=O;cases q with
   |true=>
    replace h:=Qu rfl h;refine .aM 7 ?_;obtain rfl:=CM h;kernel_rfl
   |false=>
    replace h:=RD rfl h;refine .aM 7 ?_;obtain rfl:=CM h;kernel_rfl
  refine .aN<|CQ<|.a 3<|.nil ?_;exact J _ _ _ (Ag [AQ 0]) h
 refine CW<|BL<|.aM 2 ?_;rw[←CM h];exact .ret (Ew [])
def aGK (j:Aj)(I:(Int->AB Int)):Int->AB Int:=λq=>(cond (q<(j.length:Int)) ((Aq j q).bind λJ=>(a0G j J).bind λL=>(cond (!L) (some 15) (I (Ar (q+1))))) (some 0))
def aJn (j:Aj):Int->AB Int:=bg (aGK j) Aw
def a05 (j:Aj):AB Int:=(a9V j).bind λq=>(cond (!q) (some 14) (aJn j 0))
def aPD :=Dk func59 rfl a05 BI AU λj r h=>AZ<|Aa<|AO h λq I h=>AP 1<|.X (aku I)<|BF h Bo λh=>Aa<|AZ<|Ak<|Dq (λq=>⟨Az 20 [(0,BI j),(3,AU q)],[],0⟩) _ _ _ (Ag []) h<|λq I J L h=>Aa<|AP 2<|.Z (BK Au j)<|Bg h (λh=>Aa<|Ak<|Bj h λq I L M h=>AP 3<|.p (BG Au I)<|.a 1<|.X (acE M)<|BF h Bo λh=>Vd) λh=>Ei
def a4b (j:Ad)(q:Ad):AB Ac:=(cond (j.Depth<q.Depth) (some true) ((cond (j.Depth==q.Depth) (some (decide (j.Id<q.Id))) (some false)).bind λI=>some I)).bind λJ=>some J
def apB :=Dc func188 rfl a4b Cm Cm Ai λI J r h=>AZ<|AP 5<|AO h λj q h=>.mg 10 13 (Ai j) (.bi q (k2:=λh=>.a 5<|AO h λj q h=>.mg 16 6 (Ai j) (.bi q)<|.aW<|CU))<|.aW<|CV
def pz (j:Aj)(k3:(AV->Int->AB AV)):AV->Int->AB AV:=λq v2=>(cond (v2<(j.length:Int)) ((Aq j v2).bind λI=>(CZ 8 q [I.Id]).bind λJ=>k3 J (Ar (v2+1))) (some q))
def aJC (j:Aj):AV->Int->AB AV:=aS (pz j) Aw
def jd (j:Aj):AB AV:=aJC j [] 0
def aOL :=JM func24 rfl jd BI CO λj r h=>BL<|.f (C9 3 1)<|.aT<|BL<|.f (C9 3 1)<|.aT<|Aa<|AZ<|Ak<|DJ (λq I=>⟨Az 20 [(0,BI j),(3,.aQ 0),(4,AU I)],[(CO q)],0⟩) _ _ _ _ (Ag [AQ 1]) h<|λq I L M J h=>Aa<|AP 2<|.Z (BK Au j)<|Bg h (λh=>Aa<|Ak<|Bj h λq I M J h=>CQ<|.a 3<|.p (BG Au I)<|.a 2<|.p (Dj DL zero3 [Ah q.Id])<|.f (DX (k:=0) Ah J DL A8 (λ_=>rfl) Ba)<|aEG) λh=>Hf
def a0A (q:Aj)(j:Int)(M:(Int->Aj->AB AV))(k3:(Aj->Int->AB AV))(v2:Int)(J:Ac):AB AV:=(cond J ((Aq q (Ar (j-1))).bind λI=>(Aq q j).bind λL=>(Aq q j).bind λO=>(Aq (q.set (j).toNat I) (Ar (j-1))).bind λU=>M (Ar (j-1)) ((q.set (j).toNat I).set (Ar (j-1)).toNat L)) (k3 q (Ar (v2+1))))
def a7d (k3:(Aj->Int->AB AV))(v2:Int)(M:(Int->Aj->AB AV)):Int->Aj->AB AV:=λj q=>(cond (j>0) ((Aq q j).bind λI=>(Aq q (Ar (j-1))).bind λJ=>(a4b I J).bind λL=>a0A q j M k3 v2 L) (a0A q j M k3 v2 false))
def aM2 (k3:(Aj->Int->AB AV))(v2:Int):Int->Aj->AB AV:=aS (a7d k3 v2) Aw
def aJ1 (j:Aj)(k3:(Aj->Int->AB AV)):Aj->Int->AB AV:=λI v2=>(cond (v2<(j.length:Int)) ((Aq j v2).bind λJ=>(CZ 376 I [J]).bind λL=>aM2 k3 v2 v2 L) ((jd I).bind λq=>some q))
def aUa (j:Aj):Aj->Int->AB AV:=aS (aJ1 j) Aw
def zy (j:Aj):AB AV:=aUa j [] 0
def aLw :=JM func129 rfl zy BI CO λj r h=>BL<|.f (C9 3 1)<|.aT<|BL<|.f (C9 56 29)<|.aT<|Aa<|AZ<|Ak<|DJ (λq I=>⟨Az 54 [(0,BI j),(3,.aQ 0),(4,AU I)],[(Et q)],0⟩) _ _ _ _ (Ag [AQ 1]) h<|λq I U O Z h=>Aa<|AP 2<|.Z (BK Au j)<|Bg h (λh=>Aa<|Ak<|Bj h λq O x6 M h=>AP 3<|.p (BG Au O)<|.a 1<|.p (Dj Gl Jv [Au q])<|.Y (DX (k:=0) Au M Gl A8 (λ_=>rfl) Ba)<|AZ<|Ak<|DJ (λq I=>⟨Az 54 [(0,BI j),(3,.aQ 0),(4,AU Z),(5,AU q)],[(Et I)],0⟩) _ _ _ _ (Ag [AQ 1]) h<|λq O x6 M x8 h=>Aa<|D9 (λ(J:Ac)=>(λj q I U J=>⟨Az 54 [(0,BI j),(3,.aQ 0),(4,AU q),(5,AU I),(33,Ai J)],[(Et U)],0⟩) j Z M x8 J) (λJ=>a0A x8 M O I Z J) r (λJ h=>Bg h (λh=>Aa<|Ak<|Hr h λq I U O Z x8 h=>AO h λZ x9 h=>Bl.aEr [2,3,4] (.a 8<|.p (Ht (e':=56) (kd:=.i64) Au I (k:=0) A8 Kv Fg)<|.p (x:=(Cm q)) (Jg (e:=56) (size:=29) (k:=0) (i:=(Ar (M-1)).toNat) (off:=0) Au A8 A8 (GV I).2 Fg (DZ A8) tX rfl)<|.a 2<|.p (Ht (e':=56) (kd:=.i64) Au O (k:=0) A8 Kv Fg)<|.p (x:=(Cm U)) (Jg (e:=56) (size:=29) (k:=0) (i:=(M).toNat) (off:=0) Au A8 A8 (GV O).2 Fg (DZ A8) tX rfl)<|.p (Ht (e':=56) (kd:=.i64) Au x8 (k:=0) A8 Kv Fg)<|.f (Vb (e:=56) (size:=29) (v:=(Cm q)) (k:=0) (i:=(M).toNat) (off:=0) (a':=q) Au A8 (GV x8).2 A8 (Fg).size A8 (DZ A8) A8 (λ_=>rfl))<|.p (Ht (e':=56) (kd:=.i64) Au x9 (k:=0) A8 Kv Fg)<|.f (Vb (e:=56) (size:=29) (v:=(Cm U)) (k:=0) (i:=(Ar (M-1)).toNat) (off:=0) (a':=U) Au A8 (GV x9).2 A8 (Fg).size A8 (DZ A8) A8 (λ_=>rfl))<|.nil _)<|Cc<|x6 _ _ _ (Ag [AQ 0]) h) λh=>CW<|yZ)<|λK16=>Ed h (λL h=>Hr h λx18 q x19 I O6 azX h=>DR A8 A8 A8 (.a 2<|.c (BM some L)<|.a 2<|.p (Ht (e':=56) (kd:=.i64) Au q (k:=0) A8 Kv Fg)<|.p (x:=(Cm x18)) (Jg (e:=56) (size:=29) (k:=0) (i:=(M).toNat) (off:=0) Au A8 A8 (GV q).2 Fg (DZ A8) tX rfl)<|.a 3<|.p (Ht (e':=56) (kd:=.i64) Au I (k:=0) A8 Kv Fg)<|.p (x:=(Cm x19)) (Jg (e:=56) (size:=29) (k:=0) (i:=(Ar (M-1)).toNat) (off:=0) Au A8 A8 (GV I).2 Fg (DZ A8) tX rfl)<|.ca (apB azX)<|.a 1<|.nil _)<|K16 O6 (Ag [AQ 0]) h) λL h=>DR A8 A8 A8 (.a 2<|.c (BM some L)<|.a 11<|.nil _)<|K16 false (Ag [AQ 0]) h) λh=>CW<|AO h λq I h=>AP 1<|.Y (JY (eY:=[.aQ 0]) (fF:=[.d (.sl (List.map Au O))]) (aOL I) (λx q=>MZ) aiv ⟨⟨56,29,List.map Au O,A8,rfl⟩,trivial⟩ rfl)<|JQ
abbrev FP:=AA Io
def aI0 (j:FP)(q:Int)(k3:(Int->Io->AB (Io×Ac))):Int->Io->AB (Io×Ac):=λI v2=>(cond (I<(j.length:Int)) ((Aq j I).bind λJ=>(cond (J.Id==q) ((Aq j I).bind λL=>some (L,true)) (k3 (Ar (I+1)) v2))) (some (Wh,false)))
def aQU (q:FP)(j:Int):Int->Io->AB (Io×Ac):=aS (aI0 q j) Aw
def U9 (q:FP)(j:Int):AB (Io×Ac):=aQU q j 0 Wh
def ZU :=Dc func106 rfl U9 MR AU (λr=>.eu [YU r.1,Ai r.2]) λj q r h=>AZ<|Aa<|AZ<|Ak<|DJ (λI J=>⟨Az 25 [(0,MR j),(1,AU q),(4,.ptr 0 0),(6,AU I)],[.box (BD (Lj J))],0⟩) _ _ _ _ (Ag [AQ 0]) h<|λI J M O U h=>Aa<|AP 2<|.Z (BK Lj j)<|Bg h (λh=>Aa<|Ak<|AO h λI J h=>AP 2<|.Z (BG Lj J)<|BF h (λh=>AO h λI J h=>AP 2<|.Z (BG Lj J)<|ES<|by rw[←CM h];exact⟨[YU I,Ai true],[],⟨⟨0,BD (Lj I),true,4,A8,A8,A8,Zq,DZ A8,JU,A8⟩,FY A8,trivial⟩,A8,A8,A8⟩) λh=>Oc) λh=>CW<|AZ<|ES<|by rw[←CM h];exact⟨[YU Wh,Ai false],[],⟨⟨0,BD (Lj Wh),true,4,A8,A8,A8,Zq,DZ A8,JU,A8⟩,FY A8,trivial⟩,A8,A8,A8⟩
abbrev BX:=AA BN
def aH9 (j:BX)(I:Int)(q:BH)(k2:(Int->AB (Int×Ac))):Int->AB (Int×Ac):=λJ=>(cond (J<(j.length:Int)) ((Aq j J).bind λL=>(cond (L.Kind==I) ((Aq j J).bind λM=>some (M.Key.toList==q.toList)) (some false)).bind λO=>(cond O ((Aq j J).bind λU=>some (U.Id,true)) (k2 (Ar (J+1))))) (some (0,false)))
def aW0 (q:BX)(I:Int)(j:BH):Int->AB (Int×Ac):=bg (aH9 q I j) Aw
def Z5 (q:BX)(I:Int)(j:BH):AB (Int×Ac):=aW0 q I j 0
def a9H :=JF func177 rfl Z5 DU AU CP (λr=>.eu [AU r.1,Ai r.2]) λq L j r h=>AZ<|Aa<|AZ<|Ak<|Dq (λJ=>⟨Az 36 [(0,DU q),(1,AU L),(2,CP j),(8,AU J)],[],0⟩) _ _ _ (Ag []) h<|λJ I M O h=>Aa<|AP 2<|.Z (BK BQ q)<|Bg h (λh=>Aa<|Ak<|AO h λJ I h=>AP 2<|.p (BG BQ I)<|.a 4<|AO h λJ I h=>.mg 22 8 (Ai J) (.bi I (λh=>AO h λJ I h=>.a 2<|.Z (BG BQ I)<|CU))<|.aT<|BF h (λh=>AO h λJ I h=>AP 2<|.Z (BG BQ I)<|CV) λh=>qO) λh=>Ei
abbrev G9:=AA (AA BN)
def aJK (q:G9)(j:BN)(k2:(Int->AB Ac)):Int->AB Ac:=λI=>(cond (I<(q.length:Int)) ((Aq q I).bind λL=>(Z5 L j.Kind j.Key).bind λJ=>(cond (!J.2) (some true) (some (J.1 != j.Id))).bind λM=>(cond M (some false) (k2 (Ar (I+1))))) (some true))
def aSG (j:G9)(q:BN):Int->AB Ac:=bg (aJK j q) Aw
def a8L (j:G9)(q:BN):AB Ac:=aSG j q 0
def aoo :=Dc func353 rfl a8L JL VY Ai λj q r h=>AZ<|Aa<|AZ<|Ak<|Dq (λI=>⟨Az 34 [(0,JL j),(3,.ptr 0 0),(5,AU I)],[.box (BD (BQ q))],0⟩) _ _ _ (Ag [AQ 0]) h<|λI J L M h=>Aa<|AP 2<|.Z (BK (BR BQ) j)<|Bg h (λh=>Aa<|Ak<|Bj h λI J M O h=>Ee A8 A8 A8 (.a 2<|.p (BG (BR BQ) J)<|.a 5<|.ca (a9H O)<|.a 5<|.nil _)<|AP 2<|AO h λI J h=>.mg 28 5 (Ai I) (.bi J)<|aIG) λh=>Ei
def aKH (j:AV)(q:Int)(k2:(Int->AB Ac)):Int->AB Ac:=λI=>(cond (I<(j.length:Int)) ((Aq j I).bind λJ=>(cond (J==q) (some true) (k2 (Ar (I+1))))) (some false))
def aSL (j:AV)(q:Int):Int->AB Ac:=bg (aKH j q) Aw
def Oq (j:AV)(q:Int):AB Ac:=aSL j q 0
def Qc :=Dc func74 rfl Oq BZ AU Ai λj q r h=>AZ<|Aa<|AZ<|Ak<|Dq (λI=>⟨Az 18 [(0,BZ j),(1,AU q),(5,AU I)],[],0⟩) _ _ _ (Ag []) h<|λI J L M h=>Aa<|AP 2<|.Z (BK Ah j)<|Bg h (λh=>Aa<|Ak<|AO h λI J h=>AP 2<|.p (BG Ah J)<|zI) λh=>Ei
def aHQ (j:AV)(q:Int)(U:(Int->AB AV)):Int->AB AV:=λI=>(cond (I<(j.length:Int)) ((Aq j I).bind λY=>some (decide (Y<q))) (some false)).bind λZ=>(cond Z (U (Ar (I+1))) ((Gx j 0 I).bind λx9=>(CZ 8 [] x9).bind λJ=>(CZ 8 J [q]).bind λL=>(Gx j I ((j).length)).bind λM=>(CZ 8 L M).bind λO=>some O))
def aNM (j:AV)(q:Int):Int->AB AV:=bg (aHQ j q) Aw
def YV (j:AV)(q:Int):AB AV:=(Oq j q).bind λI=>(cond I (some j) (aNM j q 0))
def nR {eU FT r}(h:YV eU FT=some r):Dh 278 [.aQ 0,AU FT] [(CO eU)] (.aQ 1) [.dead,(CO r)]:=Dy func278 rfl<|BL<|.f (C9 3 1)<|.aT<|Aa<|AO h λq j h=>AP 2<|.p (x:=(Ai q)) (dw (eY:=[.aQ 0,AU FT]) (fF:=[.d (.sl (List.map Ah eU)),AU FT]) (Qc j) aGZ rfl ⟨⟨3,1,_,A8,rfl⟩,rfl,trivial⟩ rfl)<|.aT<|BF h (λh=>AZ<|by cases h;exact .ret (Ew [(0,false),AQ 0])) λh=>AZ<|Aa<|Ak<|Dq (λq=>⟨Az 39 [(0,.aQ 1),(1,AU FT),(5,AU q)],[.dead,(CO eU)],1⟩) _ _ _ (Ag [(0,false),AQ 0]) h<|λq j J I h=>Aa<|AP 2<|.p (Iy (k:=1) (e':=3) (s:=1) Ah eU A8 JW)<|.a 1<|AO h λq j h=>.mg 15 7 (Ai q) (.bi j (λh=>AO h λq j h=>.a 2<|.p (Ht (e':=3) (kd:=.i64) Ah j (k:=1) A8 JW Fl)<|.Z (x:=(AU q)) (Jg (e:=3) (size:=1) (k:=1) (i:=(I).toNat) (off:=0) Ah A8 A8 (GV j).2 Fl (DZ A8) (λ_=>rfl))<|CU))<|.aT<|Bg h aLW λh=>CW<|Bj h λq j J I h=>BL<|.f (Gn DL zero3 [])<|.a 2<|.conv _ (IW (e:=3) (s:=1) 1 (xs:=List.map Ah eU) A8)<|.p (Ou Ah j (λ_=>rfl) JU JW Fl (λ_=>rfl) rfl)<|.Y (DX (k:=2) Ah I DL A8 (λ_=>rfl) Ba)<|AO h λq j h=>AP 2<|.p (Dj DL zero3 [Ah FT])<|.Y (DX (k:=3) Ah j DL A8 (λ_=>rfl) Ba)<|Bj h λq j J I h=>AP 3<|.p (Ou Ah j JU (λ_=>rfl) JW Fl (λ_=>rfl) rfl)<|.Y (DX (k:=4) Ah I DL A8 (λ_=>rfl) Ba)<|aXk
def nP (I:(BX->AV->Int->AB (BX×AV)))(J:Int)(j:BX)(q:AV):AB (BX×AV):=I j q (Ar (J+1))
def aJY (j:G9)(I:Int)(k4:(BX->AV->Int->AB (BX×AV)))(M:(BX->AV->Int->AB (BX×AV))):BX->AV->Int->AB (BX×AV):=λJ L q=>(Aq j I).bind λO=>(cond (q<(O.length:Int)) ((Aq j I).bind λU=>(Aq U q).bind λY=>(a8L j Y).bind λZ=>(cond (!Z) ((Aq j I).bind λx19=>(Aq x19 q).bind λO6=>(YV L O6.Id).bind λx21=>nP M q J x21) (cond (I==0) ((Aq j I).bind λx23=>(Aq x23 q).bind λx24=>(CZ 32 J [x24]).bind λx25=>nP M q x25 L) (nP M q J L)))) (k4 J L (Ar (I+1))))
def aRI (j:G9)(q:Int)(I:(BX->AV->Int->AB (BX×AV))):BX->AV->Int->AB (BX×AV):=iM (aJY j q I) Aw
def aI7 (j:G9)(J:(BX->AV->Int->AB (BX×AV))):BX->AV->Int->AB (BX×AV):=λq v2 I=>(cond (I<(j.length:Int)) (aRI j I J q v2 0) (some (q,v2)))
def aP3 (j:G9):BX->AV->Int->AB (BX×AV):=iM (aI7 j) Aw
def a0u (j:G9):AB (BX×AV):=aP3 j [] [] 0
def aUg {j r}(h:a0u j=some r):Dh 279 [JL j] [] (.eu [.aQ 0,.aQ 1]) [(Lc r.1),(CO r.2)]:=Dy func279 rfl<|BL<|.f (C9 147 3)<|.f (C9 3 1)<|.aT<|BL<|.Y (Gn Mc Qy [])<|BL<|.Y (Gn DL zero3 [])<|Aa<|AZ<|Ak<|PO (λq L M=>⟨Az 59 [(0,JL j),(4,.aQ 0),(5,.aQ 1),(6,AU M)],[(Lc q),(CO L)],0⟩) _ _ _ _ _ (Ag [AQ 2,AQ 3]) h<|λq L M U Z O h=>Aa<|AP 2<|.Z (BK (BR BQ) j)<|Bg h (λh=>Aa<|Ak<|AZ<|Ak<|PO (λq L M=>⟨Az 59 [(0,JL j),(4,.aQ 0),(5,.aQ 1),(6,AU O),(7,AU M)],[(Lc q),(CO L)],0⟩) _ _ _ _ _ (Ag [AQ 0,AQ 1]) h<|λq L U Z x7 Y h=>Aa<|AO h λq x9 h=>AP 3<|.p (BG (BR BQ) x9)<|.a 1<|.Z (BK BQ q)<|Bg h (λh=>Si (λ(I:(AA BN)) (J:(AA Int))=>(λj q L I J=>⟨Az 59 [(0,JL j),(4,.aQ 0),(5,.aQ 1),(6,AU q),(7,AU L)],[(Lc I),(CO J)],0⟩) j O Y I J) (λI J=>nP L Y I J) r (λI J h=>Cc<|U _ _ _ _ (Ag [AQ 0,AQ 1]) h)<|λq=>Ak<|Hr h λL M U O Y x9 h=>AP 3<|.p (BG (BR BQ) M)<|.a 2<|.p (BG BQ O)<|.a 1<|.X (aoo x9)<|Di h (λh=>Hr h λL M U O Y x9 h=>CQ<|.a 3<|.p (BG (BR BQ) M)<|.a 2<|.p (BG BQ O)<|.a 2<|.f (x:=.aQ 2) (E5 [.ent 1] [.aQ 1,AU U.Id] (nR x9))<|.aN<|q Z Y (Ag [AQ 0,AQ 2]) h) λh=>AZ<|BF h (λh=>Hr h λL M U Z O Y h=>CQ<|.a 3<|.p (BG (BR BQ) M)<|.a 2<|.p (BG BQ Z)<|.a 1<|.p (Dj Mc Qy [BQ U])<|.f (DX (k:=0) BQ Y Mc A8 (λ_=>rfl) Ba)<|.aN<|q O x7 (Ag [AQ 2,AQ 1]) h) λh=>q Z x7 (Ag [AQ 0,AQ 1]) h) λh=>CW<|Cc<|M _ _ _ _ (Ag [AQ 0,AQ 1]) h) λh=>CW<|AZ<|aIt
def aCZ (j:AV)(k3:(AV->Int->AB AV)):AV->Int->AB AV:=λq v2=>(cond (v2<(j.length:Int)) ((Aq j v2).bind λI=>(YV q I).bind λJ=>k3 J (Ar (v2+1))) (some q))
def aX5 (j:AV):AV->Int->AB AV:=aS (aCZ j) Aw
def su (j:AV):AB AV:=aX5 j [] 0
def aEp :=JM func216 rfl su BZ CO λj r h=>BL<|.f (C9 3 1)<|.aT<|BL<|.Y (Gn DL zero3 [])<|Aa<|AZ<|Ak<|DJ (λq I=>⟨Az 19 [(0,BZ j),(3,.aQ 0),(4,AU I)],[(CO q)],0⟩) _ _ _ _ (Ag [AQ 1]) h<|λq I J O L h=>Aa<|AP 2<|.Z (BK Ah j)<|Bg h (λh=>Aa<|Ak<|Bj h λq I L M h=>CQ<|.a 3<|.p (BG Ah I)<|.a 1<|.f (x:=.aQ 1) (E5 [.ent 0] [.aQ 0,AU q] (nR M))<|.aN<|Cc<|J _ _ _ (Ag [AQ 1]) h) λh=>Hf
def a6X (j:(AV->Int->AB AV))(q:Int)(I:AV):AB AV:=j I (Ar (q+1))
def aE1 (I:AV)(j:AV)(M:(AV->Int->AB AV)):AV->Int->AB AV:=λv2 q=>(cond (q<(I.length:Int)) ((Aq I q).bind λO=>(Oq j O).bind λU=>(cond (!U) ((Aq I q).bind λJ=>(CZ 8 v2 [J]).bind λL=>a6X M q L) (a6X M q v2))) (some v2))
def aX7 (q:AV)(j:AV):AV->Int->AB AV:=aS (aE1 q j) Aw
def gq (j:AV)(q:AV):AB AV:=(su j).bind λI=>aX7 I q [] 0
def aA7 :=FZ func286 rfl gq BZ BZ CO λY j r h=>BL<|.f (C9 3 1)<|.aT<|AO h λI q h=>AP 1<|.X (aEp q).view<|BL<|.Y (Gn DL zero3 [])<|Aa<|AZ<|Ak<|DJ (λq J=>⟨Az 32 [(1,BZ j),(5,BZ I),(6,.aQ 0),(7,AU J)],[(CO q)],0⟩) _ _ _ _ (Ag [AQ 1]) h<|λq J M U O h=>Aa<|AP 2<|.Z (BK Ah I)<|Bg h (λh=>D9 (λ(L:(AA Int))=>(λj I q L=>⟨Az 32 [(1,BZ j),(5,BZ I),(6,.aQ 0),(7,AU q)],[(CO L)],0⟩) j I O L) (λL=>a6X J O L) r (λL h=>Oc)<|λI=>Ak<|Bj h λq J M O h=>AP 3<|.p (BG Ah J)<|.a 1<|.X (Qc O)<|BF h (λh=>Bj h λq J M U h=>CQ<|.a 3<|.p (BG Ah J)<|.a 1<|.p (Dj DL zero3 [Ah q])<|.f (DX (k:=0) Ah U DL A8 (λ_=>rfl) Ba)<|.aN<|I M (Ag [AQ 1]) h) λh=>I U (Ag [AQ 0]) h) λh=>Hf
def uD (q:Aj)(j:AV):AB AV:=(Z4 q j).bind λI=>(gq j I).bind λJ=>some J
def aNE :=FZ func325 rfl uD BI BZ CO λq j r h=>BL<|.f (C9 3 1)<|.aT<|Bj h λI J M L h=>AP 3<|.ca (a1D J).view<|.Y (x:=.aQ 1) (JR [BZ j,BZ I] (aA7 L))<|JQ
def zM (j:(AV->Int->AB AV))(I:Int)(q:AV):AB AV:=j q (Ar (I+1))
def rF (J:AV)(j:Aj)(k3:(AV->Int->AB AV))(v2:Int)(q:(AV->Int->AB AV)):AV->Int->AB AV:=λL I=>(cond (I<(J.length:Int)) ((Aq J I).bind λM=>(JK j M).bind λO=>(cond O.2 ((Aq J I).bind λU=>(YV L U).bind λY=>zM q I Y) (zM q I L))) (k3 L (Ar (v2+1))))
def a7P (q:AV)(j:Aj)(k3:(AV->Int->AB AV))(v2:Int):AV->Int->AB AV:=aS (rF q j k3 v2) Aw
def dD (j:Aj)(k3:(AV->Int->AB AV))(v2:Int)(q:AV)(I:AV):AB AV:=a7P I j k3 v2 q 0
def rZ (j:AV)(q:Aj)(I:Ac)(k3:(AV->Int->AB AV)):AV->Int->AB AV:=λJ v2=>(cond (v2<(j.length:Int)) ((Aq j v2).bind λM=>(JK q M).bind λL=>(cond I (dD q k3 v2 J L.1.bQ) (dD q k3 v2 J L.1.bP))) (some J))
def aED (q:AV)(I:Aj)(j:Ac):AV->Int->AB AV:=aS (rZ q I j) Aw
def Yj (I:Aj)(q:AV)(j:Ac):AB AV:=aED q I j [] 0
def aMq {I q j r}(h:Yj I q j=some r):Dh 397 [BI I,BZ q,Ai j] [] (.aQ 0) [(CO r)]:=Dy func397 rfl<|BL<|.f (C9 3 1)<|.aT<|BL<|.Y (Gn DL zero3 [])<|Aa<|AZ<|Ak<|DJ (λJ L=>⟨Az 59 [(0,BI I),(1,BZ q),(2,Ai j),(7,.aQ 0),(8,AU L)],[(CO J)],0⟩) _ _ _ _ (Ag [AQ 1]) h<|λJ L Z Y U h=>Aa<|AP 2<|.Z (BK Ah q)<|Bg h (λh=>Aa<|Ak<|Bj h λJ x6 x7 x8 h=>AP 3<|.p (BG Ah x6)<|.a 1<|.X (KD x8)<|AZ<|D9 (λ(O:(AA Int))=>(λI q j J L O=>⟨Az 59 [(0,BI I),(1,BZ q),(2,Ai j),(7,.aQ 0),(8,AU J),(11,BZ O)],[(CO L)],0⟩) I q j U Y O) (λO=>dD I L U Y O) r (λO h=>AZ<|Ak<|DJ (λJ L=>⟨Az 59 [(0,BI I),(1,BZ q),(2,Ai j),(7,.aQ 0),(8,AU U),(11,BZ O),(12,AU L)],[(CO J)],0⟩) _ _ _ _ (Ag [AQ 0]) h<|λJ L Y x6 x7 h=>Aa<|AP 2<|.Z (BK Ah O)<|Bg h (λh=>D9 (λ(M:(AA Int))=>(λI q j J O L M=>⟨Az 59 [(0,BI I),(1,BZ q),(2,Ai j),(7,.aQ 0),(8,AU J),(11,BZ O),(12,AU L)],[(CO M)],0⟩) I q j U O x7 M) (λM=>zM L x7 M) r (λM h=>Cc<|Y _ _ _ (Ag [AQ 0]) h)<|λJ=>Ak<|Bj h λL Z Y U h=>AP 3<|.p (BG Ah Z)<|.a 1<|.X (KD U)<|AZ<|BF h (λh=>Bj h λL Z Y U h=>CQ<|.a 3<|.p (BG Ah Z)<|.a 1<|.f (x:=.aQ 2) (E5 [.ent 0] [.aQ 0,AU L] (nR U))<|.aN<|J Y (Ag [AQ 2]) h) λh=>J x6 (Ag [AQ 0]) h) λh=>CW<|Cc<|Z _ _ _ (Ag [AQ 0]) h)<|λJ=>AZ<|BF h (λh=>Cc<|J x7.1.bQ (Ag [AQ 0]) h) λh=>J x7.1.bP (Ag [AQ 0]) h) λh=>Hf
def aLK (j:AV)(I:(AV->Int->AB AV)):AV->Int->AB AV:=λv2 q=>(cond (q<(j.length:Int)) ((Aq j q).bind λJ=>(YV v2 J).bind λL=>I L (Ar (q+1))) (some v2))
def aXV (j:AV):AV->Int->AB AV:=aS (aLK j) Aw
def Yt (j:AV)(q:AV):AB AV:=(su j).bind λI=>aXV q I 0
def aBn :=FZ func354 rfl Yt BZ BZ CO λI j r h=>BL<|.f (C9 3 1)<|.aT<|AO h λJ q h=>AP 1<|.Y (x:=.aQ 1) (JR [BZ I] (aEp q))<|Aa<|AZ<|Ak<|DJ (λJ q=>⟨Az 22 [(1,BZ j),(5,.aQ 0),(6,AU q)],[(CO J)],0⟩) _ _ _ _ (Ag [AQ 1]) h<|λJ q L U M h=>Aa<|AP 2<|.Z (BK Ah j)<|Bg h (λh=>Aa<|Ak<|Bj h λJ q M O h=>CQ<|.a 3<|.p (BG Ah q)<|.a 1<|.f (x:=.aQ 1) (E5 [.ent 0] [.aQ 0,AU J] (nR O))<|aEG) λh=>Hf
end
section
set_option maxRecDepth 20000
set_option maxHeartbeats 4000000
def qg (q:Aj)(j:Ac)(k3:(AV->Int->AB AV)):AV->Int->AB AV:=λI v2=>(cond (v2<(q.length:Int)) ((Yj q I j).bind λJ=>(Yt I J).bind λL=>k3 L (Ar (v2+1))) (some I))
def aLJ (q:Aj)(j:Ac):AV->Int->AB AV:=aS (qg q j) Aw
def ZO (I:Aj)(q:AV)(j:Ac):AB AV:=aLJ I j q 0
def aNr {eU atl air r}(h:ZO eU atl air=some r):Dh 324 [BI eU,.aQ 0,Ai air] [(CO atl)] (.aQ 1) [.dead,(CO r)]:=Dy func324 rfl<|BL<|.f (C9 3 1)<|.aT<|Aa<|AZ<|Ak<|DJ (λq j=>⟨Az 21 [(0,BI eU),(1,.aQ 1),(2,Ai air),(7,AU j)],[.dead,(CO q)],1⟩) _ _ _ _ (Ag [(0,false),AQ 0]) h<|λq j J I L h=>Aa<|AP 2<|.Z (BK Au eU)<|Bg h (λh=>Aa<|Ak<|Bj h λq j L M h=>CQ<|.a 4<|.p (a81 (eY:=[BI eU,.aQ 1,Ai air]) (fF:=[BI eU,.d (.sl (List.map Ah I)),Ai air]) (aMq j) (λq j=>iw) apv ⟨rfl,⟨3,1,List.map Ah I,A8,rfl⟩,rfl,trivial⟩ rfl)<|.f (JY (eY:=[.aQ 1,BZ q]) (fF:=[.d (.sl (List.map Ah I)),BZ q]) (aBn M) (λq j=>iw) aRT ⟨⟨3,1,List.map Ah I,A8,rfl⟩,rfl,trivial⟩ rfl)<|aIA) λh=>CW<|AZ<|nH
def jG (j:Aj)(q:AV):AB AV:=(uD j q).bind λI=>(Yj j I true).bind λJ=>(ZO j J true).bind λL=>some L
def aCX :=FZ func358 rfl jG BI BZ CO λj q r h=>BL<|.f (C9 3 1)<|.aT<|Hr h λI J O L U M h=>AP 4<|.ca (aNE J).view<|.f (x:=.aQ 1) (JR [BI j,BZ I,Ai true] (aMq L))<|.Y (x:=.aQ 2) (E5 [.ent 1] [BI j,.aQ 1,Ai true] (aNr M))<|Jt
def aJu (j:BX)(q:Aj)(k3:(AV->Int->AB AV)):AV->Int->AB AV:=λI v2=>(bif v2<(j.length:Int) then(Aq j v2).bind λJ=>(CZ 8 I [J.Id]).bind λL=>k3 L (Ar (v2+1))else(jG q I).bind λM=>(Yt I M).bind λO=>some O)
def aQN (j:BX)(q:Aj):AV->Int->AB AV:=aS (aJu j q) Aw
def a7Q (j:Aj)(q:BX):AB AV:=aQN q j [] 0
def acO :=FZ func413 rfl a7Q BI DU CO λj J r h=>BL<|.f (C9 3 1)<|.aT<|BL<|.f (C9 3 1)<|.aT<|Aa<|AZ<|Ak<|DJ (λI q=>⟨Az 26 [(0,BI j),(1,DU J),(5,.aQ 0),(6,AU q)],[(CO I)],0⟩) _ _ _ _ (Ag [AQ 1]) h<|λI q O L M h=>Aa<|AP 2<|.Z (BK BQ J)<|Bg h (λh=>Aa<|Ak<|Bj h λI q L M h=>CQ<|.a 3<|.p (BG BQ q)<|.a 2<|.p (Dj DL zero3 [Ah I.Id])<|.f (DX (k:=0) Ah M DL A8 (λ_=>rfl) Ba)<|.aN<|Cc<|O _ _ _ (Ag [AQ 1]) h) λh=>CW<|Bj h λI q O M h=>AP 3<|.p (a81 (eY:=[BI j,.aQ 0]) (fF:=[BI j,.d (.sl (List.map Ah L))]) (aCX q) (λI q=>MZ) aeE ⟨rfl,⟨3,1,List.map Ah L,A8,rfl⟩,trivial⟩ rfl)<|.Y (JY (eY:=[.aQ 0,BZ I]) (fF:=[.d (.sl (List.map Ah L)),BZ I]) (aBn M) (λI q=>MZ) aRT ⟨⟨3,1,List.map Ah L,A8,rfl⟩,rfl,trivial⟩ rfl)<|JQ
def aHU (j:(AV->Int->AB AV))(q:Int)(I:AV):AB AV:=j I (Ar (q+1))
def aEP (j:(Int->Int->AB AV))(q:Int)(I:Int):AB AV:=j I (Ar (q+1))
abbrev WM:=AA (AA Int)
def aFg (O:WM)(v2:AV)(j:Int)(J:AV)(L:(AV->Int->AB AV))(M:(Int->Int->AB AV)):Int->Int->AB AV:=λI q=>(cond (q<(O.length:Int)) ((Aq O q).bind λU=>(Aq v2 j).bind λY=>(Oq U Y).bind λZ=>(cond Z (aEP M q (Ar (I+1))) (aEP M q I))) (cond (I<(O.length:Int)) ((Aq v2 j).bind λx27=>(CZ 8 J [x27]).bind λx28=>aHU L j x28) (aHU L j J)))
def aXZ (J:WM)(v2:AV)(j:Int)(q:AV)(I:(AV->Int->AB AV)):Int->Int->AB AV:=aS (aFg J v2 j q I) Aw
def aLC (v2:AV)(J:WM)(I:(AV->Int->AB AV)):AV->Int->AB AV:=λj q=>(cond (q<(v2.length:Int)) (aXZ J v2 q j I 0 0) (some j))
def aFx (v2:AV)(j:WM):AV->Int->AB AV:=aS (aLC v2 j) Aw
def aEB (j:G9)(q:Aj)(M:(WM->AV->Int->AB AV)):WM->AV->Int->AB AV:=λJ v2 I=>(cond (I<(j.length:Int)) ((Aq j I).bind λO=>(a7Q q O).bind λL=>(CZ 24 J [L]).bind λU=>(Yt v2 L).bind λY=>M U Y (Ar (I+1))) (aFx v2 J [] 0))
def aVw (j:G9)(q:Aj):WM->AV->Int->AB AV:=iM (aEB j q) Aw
def a9p (q:Aj)(j:G9):AB AV:=aVw j q [] [] 0
def afs :=FZ func355 rfl a9p BI JL CO λeU j r h=>BL<|.f (C9 3 1)<|.aT<|BL<|.f (C9 24 1)<|.aT<|AZ<|Aa<|AZ<|Ak<|PO (λI q J=>⟨Az 67 [(0,BI eU),(1,JL j),(5,.aQ 0),(6,BZ q),(7,AU J)],[(vP I)],0⟩) _ _ _ _ _ (Ag [AQ 1]) h<|λI q J L U Y h=>Aa<|AP 2<|.Z (BK (BR BQ) j)<|Bg h (λh=>Aa<|Ak<|Bj h λI q L Y h=>AP 3<|.p (BG (BR BQ) q)<|.a 1<|.X (acO Y).view<|AO h λI q h=>AP 2<|.p (Dj aHJ zero24 [(BR Ah) L])<|.Y (DX (k:=0) (BR Ah) q aHJ A8 (λ_=>rfl) Ba)<|AO h λI q h=>CQ<|.a 2<|.ca (aBn q).view<|.aN<|Cc<|J _ _ _ _ (Ag [AQ 1]) h) λh=>CW<|BL<|.f (C9 3 1)<|.aT<|Aa<|AZ<|Ak<|DJ (λI q=>⟨Az 67 [(5,.aQ 0),(6,BZ U),(9,.aQ 1),(10,AU q)],[(vP L),(CO I)],0⟩) _ _ _ _ (Ag [AQ 0,AQ 1]) h<|λI q J Y x7 h=>Aa<|AP 2<|.Z (BK Ah U)<|Bg h (λh=>D9 (λ(M:(AA Int))=>(λI q J M=>⟨Az 67 [(5,.aQ 0),(6,BZ I),(9,.aQ 1),(10,AU q)],[(vP J),(CO M)],0⟩) U x7 L M) (λM=>aHU q x7 M) r (λM h=>aGj)<|λI=>Ak<|AZ<|Aa<|AZ<|Ak<|DJ (λI q=>⟨Az 67 [(5,.aQ 0),(6,BZ U),(9,.aQ 1),(10,AU x7),(11,AU I),(12,AU q)],[(vP L),(CO Y)],0⟩) _ _ _ _ (Ag [AQ 0,AQ 1]) h<|λq J x8 x9 Z h=>Aa<|AP 2<|.Z (Iy (k:=0) (e':=24) (s:=1) (BR Ah) L A8 aBt)<|Bg h (λh=>D9 (λ(O:Int)=>(λI q J L U O=>⟨Az 67 [(5,.aQ 0),(6,BZ I),(9,.aQ 1),(10,AU q),(11,AU O),(12,AU J)],[(vP L),(CO U)],0⟩) U x7 Z L Y O) (λO=>aEP J Z O) r (λO h=>Cc<|x8 _ _ _ (Ag [AQ 0,AQ 1]) h)<|λI=>Ak<|Hr h λq J L U Y x7 h=>Ee A8 A8 A8 (.a 2<|.p (Ht (e':=24) (kd:=.i64) (BR Ah) J (k:=0) A8 aBt aJt)<|.p (x:=(BZ q)) (Jg (e:=24) (size:=1) (k:=0) (i:=(Z).toNat) (off:=0) (BR Ah) A8 A8 (GV J).2 aJt (DZ A8) (λ_=>rfl))<|.a 2<|.p (BG Ah U)<|.a 1<|.ca (Qc x7)<|.nil _)<|BF h (λh=>Cc<|I (Ar (x9+1)) (Ag [AQ 0,AQ 1]) h) λh=>I x9 (Ag [AQ 0,AQ 1]) h) λh=>CW<|AP 2<|.Z (Iy (k:=0) (e':=24) (s:=1) (BR Ah) L A8 aBt)<|BF h (λh=>Bj h λq J L U h=>CQ<|.a 3<|.p (BG Ah J)<|.a 1<|.p (Dj DL zero3 [Ah q])<|.f (DX (k:=1) Ah U DL A8 (λ_=>rfl) Ba)<|.aN<|I L (Ag [AQ 0,AQ 2]) h) λh=>I Y (Ag [AQ 0,AQ 1]) h) λh=>jI
def a2S (q:Aj)(j:G9):AB AV:=(a0u j).bind λI=>(a9p q j).bind λJ=>(Yt I.2 J).bind λL=>some L
def ao5 :=FZ func280 rfl a2S BI JL CO λJ j r h=>BL<|.f (C9 3 1)<|.aT<|AO h λq I h=>AP 1<|.f (x:=.eu [.aQ 1,.aQ 2]) (E5 [] [JL j] (aUg I))<|.a 2<|.conv _ (IW (e:=147) (s:=3) 1 (xs:=List.map BQ q.1) A8)<|.a 1<|.conv _ (IW (e:=3) (s:=1) 2 (xs:=List.map Ah q.2) A8)<|.aW<|Bj h λI L O M h=>AP 3<|.ca (afs L).view<|.Y (x:=.aQ 3) (JR [BZ q.2,BZ I] (aBn M))<|qh
def a0o (q:Aj)(j:AV):AB AV:=(Z4 q j).bind λI=>(gq j I).bind λJ=>some J
def aYN :=FZ func356 rfl a0o BI BZ CO λq j r h=>BL<|.f (C9 3 1)<|.aT<|Bj h λI J M L h=>AP 3<|.ca (a1D J).view<|.Y (x:=.aQ 1) (JR [BZ j,BZ I] (aA7 L))<|JQ
def a9J (j:Ad):AB Ac:=(cond (j.Kind==2) ((cond (j.Content.N==0) (some true) (some (j.Content.N==4))).bind λq=>(cond q (some (!(j.Key.toList==j.bG.toList))) (some false)).bind λI=>some I) ((cond (j.Kind==3) (some true) (some (j.Kind==4))).bind λJ=>some J))
def aib :=Dk func357 rfl a9J Cm Ai λI r h=>AZ<|Aa<|AZ<|BF h (λh=>AP 4<|AO h λj q h=>.mg 10 5 (Ai j) (.bi q)<|.a 1<|AO h λj q h=>.mg 17 5 (Ai j) (Cb q)<|.aW<|CV) λh=>AP 3<|AO h λj q h=>.mg 26 4 (Ai j) (.bi q)<|.aW<|CV
def xI (j:(AV->Int->AB AV))(q:Int)(I:AV):AB AV:=j I (Ar (q+1))
def a8v (j:(AV->Int->AB AV))(q:Int)(I:AV):AB AV:=j I (Ar (q+1))
def aF5 (q:AV)(Y:AV)(Z:(AV->Int->AB AV))(v3:Int)(J:(AV->Int->AB AV)):AV->Int->AB AV:=λI j=>(cond (j<(q.length:Int)) ((Aq q j).bind λL=>(Oq Y L).bind λM=>(cond M ((Aq q j).bind λO=>(YV I O).bind λU=>a8v J j U) (a8v J j I))) (xI Z v3 I))
def aVD (j:AV)(q:AV)(I:(AV->Int->AB AV))(J:Int):AV->Int->AB AV:=aS (aF5 j q I J) Aw
def aE8 (I:AV)(j:Aj)(Y:(AV->Int->AB AV)):AV->Int->AB AV:=λv2 q=>(cond (q<(I.length:Int)) ((Aq I q).bind λZ=>(JK j Z).bind λx9=>(a9J x9.1).bind λJ=>(cond J ((Aq I q).bind λL=>(YV v2 L).bind λM=>(Aq I q).bind λO=>(jG j [O]).bind λU=>aVD U I Y q M 0) (xI Y q v2))) (some v2))
def aSi (q:AV)(j:Aj):AV->Int->AB AV:=aS (aE8 q j) Aw
def a4I (q:Aj)(j:AV):AB AV:=(a0o q j).bind λI=>aSi I q [] 0
def aqO :=FZ func281 rfl a4I BI BZ CO λj aP0 r h=>BL<|.f (C9 3 1)<|.aT<|AO h λM J h=>AP 2<|.X (aYN J).view<|BL<|.Y (Gn DL zero3 [])<|Aa<|AZ<|Ak<|DJ (λJ q=>⟨Az 65 [(0,BI j),(5,BZ M),(6,.aQ 0),(7,AU q)],[(CO J)],0⟩) _ _ _ _ (Ag [AQ 1]) h<|λJ q I O U h=>Aa<|AP 2<|.Z (BK Ah M)<|Bg h (λh=>D9 (λ(Y:(AA Int))=>(λj M J Y=>⟨Az 65 [(0,BI j),(5,BZ M),(6,.aQ 0),(7,AU J)],[(CO Y)],0⟩) j M U Y) (λY=>xI q U Y) r (λY h=>a7O)<|λJ=>Ak<|Bj h λq I x7 Z h=>AP 3<|.p (BG Ah I)<|.a 1<|.X (KD Z)<|AO h λq I h=>AP 1<|.ca (aib I)<|.aT<|BF h (λh=>Bj h λq I x7 Z h=>AP 3<|.p (BG Ah I)<|.a 1<|.Y (x:=.aQ 2) (E5 [.ent 0] [.aQ 0,AU q] (nR Z))<|Bj h λq I O x7 h=>AP 3<|.p (BG Ah I)<|.a 1<|.p (Dj DL zero3 [Ah q])<|.X (aCX x7).view<|AZ<|Ak<|DJ (λJ q=>⟨Az 65 [(0,BI j),(5,BZ M),(6,.aQ 0),(7,AU U),(10,BZ O),(11,AU q)],[(CO J)],0⟩) _ _ _ _ (Ag [AQ 2]) h<|λq I x7 Z x9 h=>Aa<|AP 2<|.Z (BK Ah O)<|Bg h (λh=>D9 (λ(L:(AA Int))=>(λj M J q I L=>⟨Az 65 [(0,BI j),(5,BZ M),(6,.aQ 0),(7,AU J),(10,BZ q),(11,AU I)],[(CO L)],0⟩) j M U O x9 L) (λL=>a8v I x9 L) r (λL h=>Cc<|x7 _ _ _ (Ag [AQ 0]) h)<|λJ=>Ak<|Bj h λq I O U h=>AP 3<|.p (BG Ah I)<|.a 1<|.ca (Qc U)<|.aT<|BF h (λh=>Bj h λM q I O h=>CQ<|.a 3<|.p (BG Ah q)<|.a 1<|.f (x:=.aQ 1) (E5 [.ent 0] [.aQ 0,AU M] (nR O))<|.aN<|J I (Ag [AQ 1]) h) λh=>J Z (Ag [AQ 0]) h) λh=>CW<|J Z (Ag [AQ 0]) h) λh=>J O (Ag [AQ 0]) h) λh=>Hf
def aKA (q:AV)(j:AV)(k3:(Int->AB Ac)):Int->AB Ac:=λv2=>(cond (v2<(q.length:Int)) ((Aq q v2).bind λI=>(Oq j I).bind λJ=>(cond J (some false) (k3 (Ar (v2+1))))) (some true))
def aVs (q:AV)(j:AV):Int->AB Ac:=bg (aKA q j) Aw
def aB4 (I:Aj)(j:AV)(q:Int):AB Ac:=(jG I [q]).bind λJ=>aVs J j 0
def aYh :=JF func359 rfl aB4 BI BZ AU Ai λL j q r h=>AZ<|AO h λJ I h=>AP 2<|.p (Dj DL zero3 [Ah q])<|.X (aCX I).view<|Aa<|AZ<|Ak<|Dq (λI=>⟨Az 25 [(1,BZ j),(7,BZ J),(8,AU I)],[],0⟩) _ _ _ (Ag []) h<|λI O U M h=>Aa<|AP 2<|.Z (BK Ah J)<|Bg h (λh=>Aa<|Ak<|Bj h λJ I O M h=>AP 3<|.p (BG Ah I)<|.a 1<|.ca (Qc M)<|.aT<|BF h Bo λh=>Cc<|U _ _ (Ag []) h) λh=>Ei
def aDA (j:BX)(I:Int)(q:BH)(k2:(Int->AB BX)):Int->AB BX:=λJ=>(cond (J<(j.length:Int)) ((Aq j J).bind λx5=>(cond (x5.Kind<I) (some true) ((Aq j J).bind λx8=>(cond (x8.Kind==I) ((Aq j J).bind λL=>some (Op.bytesLess (L.Key.toList) (q.toList))) (some false)).bind λx9=>some x9)).bind λx6=>some x6) (some false)).bind λx3=>(cond x3 (k2 (Ar (J+1))) ((cond (J<(j.length:Int)) ((Aq j J).bind λM=>some (M.Kind==I)) (some false)).bind λO=>(cond O ((Aq j J).bind λU=>some (U.Key.toList==q.toList)) (some false)).bind λY=>(cond Y (some j) ((Gx j 0 J).bind λZ=>(CZ 32 [] Z).bind λx21=>(CZ 32 x21 [(⟨I,q,0⟩:BN)]).bind λZy=>(Gx j J ((j).length)).bind λx23=>(CZ 32 Zy x23).bind λx24=>some x24))))
def aUh (q:BX)(I:Int)(j:BH):Int->AB BX:=bg (aDA q I j) Aw
def XR (q:BX)(I:Int)(j:BH):AB BX:=aUh q I j 0
def xZ {eU ang Zz r}(h:XR eU ang Zz=some r):Dh 398 [.aQ 0,AU ang,CP Zz] [(Lc eU)] (.aQ 1) [.dead,(Lc r)]:=Dy func398 rfl<|BL<|.f (C9 147 3)<|.aT<|AZ<|Aa<|Ak<|Dq (λq=>⟨Az 81 [(0,.aQ 1),(1,AU ang),(2,CP Zz),(7,AU q)],[.dead,(Lc eU)],1⟩) _ _ _ (Ag [(0,false),AQ 0]) h<|λq k2 j I h=>Aa<|AP 2<|.p (Iy (k:=1) (e':=147) (s:=3) BQ eU A8 UH)<|.a 1<|AO h λq J h=>.mg 13 26 (Ai q) (.bi J (λh=>AO h λq j h=>.a 2<|.p (Ht (e':=147) (kd:=.i64) BQ j (k:=1) A8 UH Qk)<|.a 1<|.p (x:=(AU q.Kind)) (Jg (e:=147) (size:=3) (k:=1) (i:=(I).toNat) (off:=0) BQ A8 A8 (GV j).2 iU (DZ A8) (λ_=>rfl))<|.a 2<|AO h λq j h=>.mg 21 17 (Ai q) (.bi j (k2:=λh=>AO h λq j h=>.a 2<|.p (Ht (e':=147) (kd:=.i64) BQ j (k:=1) A8 UH Qk)<|.a 1<|.p (x:=(AU q.Kind)) (Jg (e:=147) (size:=3) (k:=1) (i:=(I).toNat) (off:=0) BQ A8 A8 (GV j).2 iU (DZ A8) (λ_=>rfl))<|.a 2<|AO h λq j h=>.mg 29 8 (Ai q) (.bi j (λh=>AO h λq j h=>.a 2<|.p (Ht (e':=147) (kd:=.i64) BQ j (k:=1) A8 UH Qk)<|.a 1<|.Z (x:=(CP q.Key)) (Jg (e:=147) (size:=3) (k:=1) (i:=(I).toNat) (off:=1) BQ A8 A8 (GV j).2 Zv (DZ A8) (λ_=>rfl))<|CU))<|.aW<|CU))<|.aW<|CU))<|.aT<|Bg h (λh=>Ak<|Cc<|j _ _ (Ag [(0,false),AQ 1]) h) λh=>CW<|Aa<|AP 2<|.p (Iy (k:=1) (e':=147) (s:=3) BQ eU A8 UH)<|.a 1<|AO h λq j h=>.mg 46 8 (Ai q) (.bi j (λh=>AO h λq j h=>.a 2<|.p (Ht (e':=147) (kd:=.i64) BQ j (k:=1) A8 UH Qk)<|.a 1<|.Z (x:=(AU q.Kind)) (Jg (e:=147) (size:=3) (k:=1) (i:=(I).toNat) (off:=0) BQ A8 A8 (GV j).2 iU (DZ A8) (λ_=>rfl))<|CU))<|.a 1<|AO h λq j h=>.mg 56 7 (Ai q) (Cb j (λe i=>by subst e;have h:=i;exact AO h λq j h=>.a 2<|.p (Ht (e':=147) (kd:=.i64) BQ j (k:=1) A8 UH Qk)<|.a 1<|.Z (x:=(CP q.Key)) (Jg (e:=147) (size:=3) (k:=1) (i:=(I).toNat) (off:=1) BQ A8 A8 (GV j).2 Zv (DZ A8) (λ_=>rfl))<|CU))<|.aT<|BF h (λh=>AZ<|nH) λh=>Bj h λq j I J h=>BL<|.f (Gn gX Qy [])<|.a 2<|.conv _ (IW (e:=147) (s:=3) 1 (xs:=List.map BQ eU) A8)<|.p (Ou BQ j (λ_=>rfl) JU UH Qk (λ_=>rfl) rfl)<|.Y (DX (k:=2) BQ J gX A8 (λ_=>rfl) Ba)<|AO h λq j h=>AP 4<|.p (Dj gX Qy [BQ (⟨ang,Zz,0⟩:BN)])<|.Y (DX (k:=3) BQ j gX A8 (λ_=>rfl) Ba)<|Bj h λq j I J h=>AP 3<|.p (Ou BQ j JU (λ_=>rfl) UH Qk (λ_=>rfl) rfl)<|.Y (DX (k:=4) BQ J gX A8 (λ_=>rfl) Ba)<|aXk
def aBX (j:BX):AB BX:=some j
def pK (j:Ad):AB BX:=(cond (j.Kind==1) (some []) ((XR [] 1 CS).bind λM=>(XR M 3 CS).bind λO=>(XR O 2 j.bG).bind λJ=>(cond (j.Kind != 2) (some J) ((XR J 2 j.Key).bind λL=>(cond (j.Content.N==3) (some true) (some (j.Content.N==1))).bind λU=>(cond U (some true) (some (j.Content.N==2))).bind λq=>(cond q ((XR L 4 CS).bind λI=>aBX I) (aBX L))))))
def aFm :=JM func326 rfl pK Cm Lc λq r h=>AP 1<|.f (C9 147 3)<|.aT<|Aa<|AZ<|BF h (λh=>BL<|.f (C9 147 3)<|.aT<|Jt) λh=>AO h λL M h=>BL<|.Y (x:=.aQ 2) (E5 [.nil 3] [.d (.lit (.slice none 0 0)),AU 1,CP CS] (xZ M) (hE:=(abx (t:=147)<|trivial)) (ha:=⟨.inr (.inl ⟨0,3,rfl,rfl,rfl⟩),.inl rfl,.inl rfl,trivial⟩))<|AO h λM j h=>AP 1<|.Y (x:=.aQ 3) (E5 [.ent 2] [.aQ 2,AU 3,CP CS] (xZ j))<|AO h λL j h=>AP 3<|.Y (x:=.aQ 4) (E5 [.ent 3] [.aQ 3,AU 2,CP q.bG] (xZ j))<|Aa<|AZ<|BF h (λh=>AZ<|a1E) λh=>AO h λM j h=>AP 3<|.Y (x:=.aQ 5) (E5 [.ent 4] [.aQ 4,AU 2,CP q.Key] (xZ j))<|D9 (λ(I:(AA BN))=>(λI=>⟨Az 39 [(3,.aQ 0)],[(Lc I)],0⟩) I) (λI=>aBX I) r (λI h=>AZ<|Py)<|λL=>AZ<|AP 2<|AO h λj J h=>.mg 28 3 (Ai j) (.bi J)<|.a 1<|AO h λj J h=>.mg 33 2 (Ai j) (Cb J)<|.aT<|BF h (λh=>AO h λj J h=>CQ<|.a 1<|.f (x:=.aQ 6) (E5 [.ent 5] [.aQ 5,AU 4,CP CS] (xZ J))<|.aN<|L j (Ag [AQ 6]) h) λh=>L M (Ag [AQ 5]) h
def a7x (k3:(Aj->Int->AB Aj))(v2:Int)(j:Aj):AB Aj:=k3 j (Ar (v2+1))
def aH8 (j:AV)(q:Aj)(k3:(Aj->Int->AB Aj)):Aj->Int->AB Aj:=λI v2=>(cond (v2<(j.length:Int)) ((Aq j v2).bind λM=>(JK q M).bind λL=>(cond L.2 ((CZ 376 I [L.1]).bind λJ=>a7x k3 v2 J) (a7x k3 v2 I))) (some I))
def aRs (j:AV)(q:Aj):Aj->Int->AB Aj:=aS (aH8 j q) Aw
def fQ (q:Aj)(j:AV):AB Aj:=aRs j q [] 0
def a95 :=FZ func249 rfl fQ BI BZ Et λq j r h=>BL<|.f (C9 56 29)<|.aT<|BL<|.f (C9 56 29)<|.aT<|Aa<|AZ<|Ak<|DJ (λI J=>⟨Az 30 [(0,BI q),(1,BZ j),(5,.aQ 0),(6,AU J)],[(Et I)],0⟩) _ _ _ _ (Ag [AQ 1]) h<|λI J M U O h=>Aa<|AP 2<|.Z (BK Ah j)<|Bg h (λh=>D9 (λ(L:(AA Ad))=>(λq j I L=>⟨Az 30 [(0,BI q),(1,BZ j),(5,.aQ 0),(6,AU I)],[(Et L)],0⟩) q j O L) (λL=>a7x J O L) r (λL h=>Oc)<|λI=>Ak<|Bj h λJ M O Y h=>AP 3<|.p (BG Ah M)<|.a 1<|.X (KD Y)<|AZ<|BF h (λh=>AO h λJ M h=>CQ<|.a 2<|.p (Dj Gl Jv [Au O.1])<|.f (DX (k:=0) Au M Gl A8 (λ_=>rfl) Ba)<|.aN<|I J (Ag [AQ 2]) h) λh=>I U (Ag [AQ 0]) h) λh=>Hf
def a92 (j:(Aj->Ac->Int->AB Aj))(J:Int)(q:Aj)(I:Ac):AB Aj:=j q I (Ar (J+1))
def aAC (O:Aj)(q:Int)(M:Aj)(j:(Aj->Ac->Int->AB Aj))(U:Ac)(I:Ac):AB Aj:=(cond I ((Aq O q).bind λJ=>(CZ 376 M [J]).bind λL=>a92 j q L true) (a92 j q M U))
def Rz (j:Aj)(x1:BX)(J:Int)(k5:(Aj->Int->AB Aj))(q:(Aj->Ac->Int->AB Aj)):Aj->Ac->Int->AB Aj:=λL M I=>(cond (I<(j.length:Int)) (some (!M)) (some false)).bind λO=>(cond O ((Aq j I).bind λU=>(Aq x1 J).bind λY=>(cond (U.Kind==Y.Kind) ((Aq j I).bind λZ=>(Aq x1 J).bind λD6=>aAC j I L q M (Z.Key.toList==D6.Key.toList)) (aAC j I L q M false))) (k5 L (Ar (J+1))))
def aNu (j:Aj)(q:BX)(I:Int)(J:(Aj->Int->AB Aj)):Aj->Ac->Int->AB Aj:=iM (Rz j q I J) Aw
def aG4 (j:BX)(J:Aj)(L:(Aj->Int->AB Aj)):Aj->Int->AB Aj:=λq I=>(cond (I<(j.length:Int)) (aNu J j I L q false 0) (some q))
def aR3 (j:BX)(q:Aj):Aj->Int->AB Aj:=aS (aG4 j q) Aw
def a0q (q:Aj)(j:Ad):AB Aj:=(pK j).bind λI=>(fQ q j.bQ).bind λJ=>aR3 I J [] 0
def aRQ :=FZ func253 rfl a0q BI Cm Et λeU FV r h=>AP 1<|.f (C9 56 29)<|.aT<|AO h λJ j h=>AP 1<|.X (aFm j).view<|AO h λj q h=>AP 3<|.X (a95 q).view<|BL<|.f (C9 56 29)<|.aT<|Aa<|AZ<|Ak<|DJ (λq I=>⟨Az 65 [(5,DU J),(6,BI j),(7,.aQ 0),(8,AU I)],[(Et q)],0⟩) _ _ _ _ (Ag [AQ 2]) h<|λq I U Z x7 h=>Aa<|AP 2<|.Z (BK BQ J)<|Bg h (λh=>Aa<|Ak<|AZ<|AZ<|Ak<|PO (λq I U=>⟨Az 65 [(5,DU J),(6,BI j),(7,.aQ 0),(8,AU x7),(9,Ai I),(10,AU U)],[(Et q)],0⟩) _ _ _ _ _ (Ag [AQ 0]) h<|λq I Z x8 x9 Y h=>Aa<|AP 2<|.p (BK Au j)<|.a 1<|AO h λq x11 h=>.mg 27 3 (Ai q) (.bi x11)<|.aT<|Bg h (λh=>Si (λ(L:(AA Ad)) (M:Ac)=>(λJ j q I L M=>⟨Az 65 [(5,DU J),(6,BI j),(7,.aQ 0),(8,AU q),(9,Ai M),(10,AU I)],[(Et L)],0⟩) J j x7 Y L M) (λL M=>a92 I Y L M) r (λL M h=>Cc<|Z _ _ _ _ (Ag [AQ 0]) h)<|λq=>Ak<|D9 (λ(O:Ac)=>(λJ j q I U Z O=>⟨Az 65 [(5,DU J),(6,BI j),(7,.aQ 0),(8,AU q),(9,Ai I),(10,AU U),(56,Ai O)],[(Et Z)],0⟩) J j x7 x9 Y x8 O) (λO=>aAC j Y x8 I x9 O) r (λO h=>BF h (λh=>Bj h λJ j I U h=>AP 3<|.p (BG Au j)<|.a 1<|.p (Dj Gl Jv [Au J])<|.Y (DX (k:=0) Au U Gl A8 (λ_=>rfl) Ba)<|Cc<|q I true (Ag [AQ 1]) h) λh=>q x8 x9 (Ag [AQ 0]) h)<|λJ=>Bj h λj q I U h=>Ed h (λj h=>Bj h λI Z x7 x8 h=>DR A8 A8 A8 (.a 2<|.p (BG Au q)<|.a 4<|.p (BG BQ U)<|.a 3<|.c (BM some j)<|.a 2<|.p (BG Au Z)<|.a 4<|.p (BG BQ x8)<|.a 4<|.nil _)<|J (I.Key.toList==x7.Key.toList) (Ag [AQ 0]) h) λj h=>DR A8 A8 A8 (.a 2<|.p (BG Au q)<|.a 4<|.p (BG BQ U)<|.a 3<|.c (BM some j)<|.a 12<|.nil _)<|J false (Ag [AQ 0]) h) λh=>CW<|yZ) λh=>Hf
def a4T :Ci:={ LD with kT:=50,oq:=50,gy:=50 }
def aAM (j:Ci):AB Ci:=some j
def aBy (j:BH):AB Ci:=(cond (!(j.toList==CS.toList)) (aAM ({ a4T with Users:=[(⟨j,100⟩:Ih)] })) (aAM a4T))
def anN :=Dk func268 rfl aBy CP Iz λj r h=>AZ<|AZ<|D9 (λ(q:Ci)=>(λq=>⟨Az 12 [(2,.ptr 0 0),(3,.ptr 1 0)],[.box (BD (FW LD)),.box (BD (FW q))],0⟩) q) (λq=>aAM q) r (λq h=>AZ<|ES<|aYF)<|λK2=>AZ<|BF h (λh=>CQ<|.a 2<|.p (Dj yc a1P [F5 (⟨j,100⟩:Ih)])<|.aN<|K2 ({ a4T with Users:=[(⟨j,100⟩:Ih)] }) (Ag [AQ 0,AQ 1]) h) λh=>K2 a4T (Ag [AQ 0,AQ 1]) h
def aA1 (j:(BH->Ac->Int->AB (Ci×BH)))(q:Int)(I:BH)(J:Ac):AB (Ci×BH):=j I J (Ar (q+1))
def aCI (j:Aj)(I:BH)(J:(Int->Ci->AB (Ci×BH))):Int->Ci->AB (Ci×BH):=λq L=>(bif q<(j.length:Int) then(Aq j q).bind λM=>(cond (M.Kind==3) ((Aq j q).bind λO=>some (O.Content.Levels,I)) (J (Ar (q+1)) L))else(aBy I).bind λU=>some (U,I))
def a7Z (j:Aj)(q:BH):Int->Ci->AB (Ci×BH):=aS (aCI j q) Aw
def S9 (j:Aj)(L:(BH->Ac->Int->AB (Ci×BH))):BH->Ac->Int->AB (Ci×BH):=λM v2 q=>(cond (q<(j.length:Int)) (some (!v2)) (some false)).bind λO=>(cond O ((Aq j q).bind λI=>(cond (I.Kind==1) ((Aq j q).bind λJ=>aA1 L q J.bG true) (aA1 L q M v2))) (a7Z j M 0 LD))
def aWj (j:Aj):BH->Ac->Int->AB (Ci×BH):=iM (S9 j) Aw
def jg (j:Aj):AB (Ci×BH):=aWj j CS false 0
def a5h :=Dk func189 rfl jg BI (λr=>.eu [Iz r.1,CP r.2]) λj r h=>AZ<|AZ<|AZ<|Aa<|AZ<|Ak<|PO (λq I J=>⟨Az 51 [(0,BI j),(2,.ptr 0 0),(4,CP q),(5,Ai I),(6,AU J)],[.box (BD (FW LD))],0⟩) _ _ _ _ _ (Ag [AQ 0]) h<|λq I J O Z U h=>Aa<|AP 2<|.p (BK Au j)<|.a 1<|AO h λq x7 h=>.mg 12 3 (Ai q) (.bi x7)<|.aT<|Bg h (λh=>Si (λ(L:BH) (M:Ac)=>(λj q L M=>⟨Az 51 [(0,BI j),(2,.ptr 0 0),(4,CP L),(5,Ai M),(6,AU q)],[.box (BD (FW LD))],0⟩) j U L M) (λL M=>aA1 I U L M) r (λL M h=>Cc<|J _ _ _ _ (Ag [AQ 0]) h)<|λq=>Ak<|AO h λI J h=>AP 2<|.Z (BG Au J)<|BF h (λh=>AO h λI J h=>AP 2<|.Z (BG Au J)<|Cc<|q I.bG true (Ag [AQ 0]) h) λh=>q O Z (Ag [AQ 0]) h) λh=>CW<|Aa<|AZ<|Ak<|DJ (λq I=>⟨Az 51 [(0,BI j),(2,.ptr 0 0),(4,CP O),(7,AU q)],[.box (BD (FW I))],0⟩) _ _ _ _ (Ag [AQ 0]) h<|λq I J Z U h=>Aa<|AP 2<|.Z (BK Au j)<|Bg h (λh=>Aa<|Ak<|AO h λq I h=>AP 2<|.Z (BG Au I)<|BF h (λh=>AO h λq I h=>AP 2<|.Z (BG Au I)<|ES<|by rw[←CM h];exact⟨[Iz q.Content.Levels,CP O],[],⟨⟨0,BD (FW q.Content.Levels),true,9,A8,A8,A8,jP,DZ A8,tX,A8⟩,FY A8,trivial⟩,A8,A8,A8⟩) λh=>oC) λh=>CW<|AO h λq I h=>AP 1<|.X (anN I)<|ES<|by rw[←CM h];exact⟨[Iz q,CP O],[],⟨⟨0,BD (FW q),true,9,A8,A8,A8,jP,DZ A8,tX,A8⟩,FY A8,trivial⟩,A8,A8,A8⟩
def aHT (j:Ci)(q:BH)(k2:(Int->AB Int)):Int->AB Int:=λI=>(cond (I<(j.Users.length:Int)) ((Aq j.Users I).bind λJ=>(cond (J.User.toList==q.toList) ((Aq j.Users I).bind λL=>some L.N) (k2 (Ar (I+1))))) (some j.User))
def aSc (q:Ci)(j:BH):Int->AB Int:=bg (aHT q j) Aw
def Rl (q:Ci)(j:BH):AB Int:=aSc q j 0
def Y9 :=Dc func191 rfl Rl Iz CP AU λq j r h=>AZ<|Aa<|AZ<|Ak<|Dq (λI=>⟨Az 29 [(1,CP j),(2,.ptr 0 0),(5,AU I)],[.box (BD (FW q))],0⟩) _ _ _ (Ag [AQ 0]) h<|λI J L M h=>Aa<|AP 3<|.Z (BK F5 q.Users)<|Bg h (λh=>Aa<|Ak<|AO h λI J h=>AP 3<|.Z (BG F5 J)<|BF h (λh=>AO h λI J h=>AP 3<|.Z (BG F5 J)<|CV) λh=>Xy) λh=>Ei
def zS (q:Aj)(j:Ad):AB Int:=(a0q q j).bind λI=>(jg I).bind λJ=>(Rl J.1 j.bG).bind λL=>some L
def aXD :=Dc func414 rfl zS BI Cm AU λq I r h=>AZ<|Bj h λJ j M L h=>AP 2<|.ca (aRQ j).view<|.X (a5h L)<|AO h λJ j h=>AP 3<|.X (Y9 j)<|CV
def a6c (I:Aj)(j:Ad)(q:Ad):AB Ac:=(zS I j).bind λJ=>(zS I q).bind λL=>(cond (J != L) (some (decide (J>L))) (cond (j.Time != q.Time) (some (decide (j.Time<q.Time))) (some (decide (j.Id<q.Id)))))
def aej :=JF func360 rfl a6c BI Cm Cm Ai λj q I r h=>AZ<|Bj h λM J O L h=>Ee A8 A8 A8 (.a 2<|.ca (aXD J)<|.a 2<|.ca (aXD L)<|.a 2<|.nil _)<|Aa<|AZ<|BF h Bo λh=>a1d
def aBE (j:(Ac->Int->AV->Ad->AB AV))(L:Int)(q:Ac)(I:AV)(J:Ad):AB AV:=j q (Ar (L+1)) I J
def aKY (v2:AV)(j:Aj)(k4:(AV->AV->AB AV))(q:(Ac->Int->AV->Ad->AB AV)):Ac->Int->AV->Ad->AB AV:=λO I L M=>(cond (I<(v2.length:Int)) ((Aq v2 I).bind λU=>(JK j U).bind λJ=>(Aq v2 I).bind λY=>(aB4 j v2 Y).bind λZ=>(cond Z ((cond (!O) (some true) ((a6c j J.1 M).bind λx24=>some x24)).bind λZy=>some Zy) (some false)).bind λO6=>(cond O6 (aBE q I true L J.1) (aBE q I O L M))) (cond (!O) (some L) ((CZ 8 L [M.Id]).bind λx27=>(gq v2 [M.Id]).bind λx28=>k4 x28 x27)))
def aXC (v2:AV)(j:Aj)(q:(AV->AV->AB AV)):Ac->Int->AV->Ad->AB AV:=X8 (aKY v2 j q) Aw
def ZE (j:Aj)(I:(AV->AV->AB AV)):AV->AV->AB AV:=λv2 q=>(cond ((v2.length:Int)>0) (aXC v2 j I false 0 q EI) (some q))
def aLZ (j:Aj):AV->AV->AB AV:=aS (ZE j) Aw
def aAB (q:Aj)(j:AV):AB AV:=(a0o q j).bind λI=>aLZ q I []
def aYf :=FZ func282 rfl aAB BI BZ CO λI Z r h=>BL<|.f (C9 3 1)<|.aT<|AO h λq j h=>AP 2<|.X (aYN j).view<|BL<|.Y (Gn DL zero3 [])<|Aa<|Ak<|DJ (λq j=>⟨Az 66 [(0,BI I),(5,BZ q),(6,.aQ 0)],[(CO j)],0⟩) _ _ _ _ (Ag [AQ 1]) h<|λq j J x4 U h=>Aa<|AP 1<|.Z (BK Ah x4)<|Bg h (λh=>Ak<|AZ<|AZ<|Aa<|AZ<|Ak<|Bl.X8 (λq j J U=>⟨Az 66 [(0,BI I),(5,BZ x4),(6,.aQ 0),(7,.ptr 1 0),(8,Ai q),(9,AU j)],[(CO J),.box (BD (Au U))],0⟩) _ _ _ _ _ _ (Ag [AQ 0,AQ 1]) h<|λq j U x6 Y x8 x9 h=>Aa<|AP 2<|.Z (BK Ah x4)<|Bg h (λh=>YO (λs=>∃(L:Ac) (M:(AA Int)) (O:Ad),Gt s ⟨Az 66 [(0,BI I),(5,BZ x4),(6,.aQ 0),(7,.ptr 1 0),(8,Ai L),(9,AU Y)],[(CO M),.box (BD (Au O))],0⟩/\aBE j Y L M O=some r) (by rintro s ⟨L,M,O,hs,h⟩;exact Nu hs<|Cc<|U _ _ _ _ _ (Ag [AQ 0,AQ 1]) h)<|λq=>Ak<|Bj h λj J U Y h=>AP 3<|.p (BG Ah J)<|.a 1<|.X (KD Y)<|Bj h λj J Y x10 h=>AP 4<|.p (BG Ah J)<|.a 1<|.ca (aYh x10)<|.a 1<|AO h λj J h=>.mg 42 8 (Ai j) (Cb J (λe i=>by subst e;have h:=i;exact .a 2<|AO h λq j h=>.mg 44 5 (Ai q) (.bi j (k2:=λh=>AO h λq j h=>.a 3<|.X (aej j)<|CU))<|.aW<|CU))<|.aT<|BF h (λh=>Cc<|q _ ⟨true,x8,U.1,Ag [AQ 0,AQ 1],h⟩) λh=>q _ ⟨x6,x8,x9,Ag [AQ 0,AQ 1],h⟩) λh=>CW<|Aa<|AZ<|BF h mX λh=>AO h λq j h=>AP 3<|.p (Dj DL zero3 [Ah x9.Id])<|.Y (DX (k:=0) Ah j DL A8 (λ_=>rfl) Ba)<|AO h λq j h=>CQ<|.a 3<|.p (Dj DL zero3 [Ah x9.Id])<|.ca (aA7 j).view<|.aN<|J _ _ _ (Ag [AQ 2]) h) λh=>Hf
def aEj (j:Aj)(I:Int)(q:BH)(k3:(Int->Ad->AB (Ad×Ac))):Int->Ad->AB (Ad×Ac):=λJ v2=>(cond (J<(j.length:Int)) ((Aq j J).bind λM=>(cond (M.Kind==I) ((Aq j J).bind λO=>some (O.Key.toList==q.toList)) (some false)).bind λU=>(cond U ((Aq j J).bind λL=>some (L,true)) (k3 (Ar (J+1)) v2))) (some (EI,false)))
def aY8 (q:Aj)(I:Int)(j:BH):Int->Ad->AB (Ad×Ac):=aS (aEj q I j) Aw
def a5W (q:Aj)(I:Int)(j:BH):AB (Ad×Ac):=aY8 q I j 0 EI
def acS :=JF func415 rfl a5W BI AU CP (λr=>.eu [Cm r.1,Ai r.2]) λJ L q r h=>AZ<|Aa<|AZ<|Ak<|DJ (λI j=>⟨Az 36 [(0,BI J),(1,AU L),(2,CP q),(6,.ptr 0 0),(8,AU I)],[.box (BD (Au j))],0⟩) _ _ _ _ (Ag [AQ 0]) h<|λI j O U Y h=>Aa<|AP 2<|.Z (BK Au J)<|Bg h (λh=>Aa<|Ak<|AO h λI j h=>AP 2<|.p (BG Au j)<|.a 4<|AO h λI j h=>.mg 22 8 (Ai I) (.bi j (λh=>AO h λI j h=>.a 2<|.Z (BG Au j)<|CU))<|.aT<|BF h (λh=>AO h λI j h=>AP 2<|.Z (BG Au j)<|ES<|by rw[←CM h];exact⟨[Cm I,Ai true],[],⟨⟨0,BD (Au I),true,29,A8,A8,A8,Fg,DZ A8,Ul,A8⟩,FY A8,trivial⟩,A8,A8,A8⟩) λh=>Cc<|O _ _ _ (Ag [AQ 0]) h) λh=>CW<|AZ<|ES<|by rw[←CM h];exact⟨[Cm EI,Ai false],[],⟨⟨0,BD (Au EI),true,29,A8,A8,A8,Fg,DZ A8,Ul,A8⟩,FY A8,trivial⟩,A8,A8,A8⟩
def a5P (j:(Aj->Int->AB Aj))(q:Int)(I:Aj):AB Aj:=j I (Ar (q+1))
def a3V (L:(Aj->Int->AB Aj))(M:Int)(q:Ac)(j:Aj)(I:Ad):AB Aj:=(cond q ((CZ 376 j [I]).bind λJ=>a5P L M J) (a5P L M j))
def aFa (q:BX)(I:BX)(x2:Aj)(J:Aj)(k5:(Aj->Int->AB Aj)):Aj->Int->AB Aj:=λU j=>(cond (j<(q.length:Int)) ((Aq q j).bind λx9=>(Aq q j).bind λY=>(Z5 I x9.Kind Y.Key).bind λL=>(Aq q j).bind λZ=>(Aq q j).bind λx13=>(a5W x2 Z.Kind x13.Key).bind λM=>(cond L.2 ((JK J L.1).bind λO=>a3V k5 j O.2 U O.1) (a3V k5 j M.2 U M.1))) (some U))
def aQh (I:BX)(j:BX)(J:Aj)(q:Aj):Aj->Int->AB Aj:=aS (aFa I j J q) Aw
def a96 (j:Aj)(I:BX)(q:Ad):AB Aj:=(pK q).bind λJ=>(fQ j q.bQ).bind λL=>aQh J I L j [] 0
def adD {j q kY r}(h:a96 j q kY=some r):Dh 361 [BI j,DU q,Cm kY] [] (.aQ 0) [(Et r)]:=Dy func361 rfl<|AP 1<|.f (C9 56 29)<|.aT<|AO h λL J h=>AP 1<|.X (aFm J).view<|AO h λJ I h=>AP 3<|.X (a95 I).view<|BL<|.f (C9 56 29)<|.aT<|Aa<|AZ<|Ak<|DJ (λI x4=>⟨Az 70 [(0,BI j),(1,DU q),(7,DU L),(8,BI J),(9,.aQ 0),(10,AU x4)],[(Et I)],0⟩) _ _ _ _ (Ag [AQ 2]) h<|λI x4 x5 x6 x7 h=>Aa<|AP 2<|.Z (BK BQ L)<|Bg h (λh=>D9 (λ(v7:(AA Ad))=>(λj q L J I v7=>⟨Az 70 [(0,BI j),(1,DU q),(7,DU L),(8,BI J),(9,.aQ 0),(10,AU I)],[(Et v7)],0⟩) j q L J x7 v7) (λv7=>a5P x4 x7 v7) r (λv7 h=>Cc<|x5 _ _ _ (Ag [AQ 0]) h)<|λI=>Ak<|Hr h λx5 x8 x9 Y x11 M h=>Ee A8 A8 A8 (.a 3<|.p (BG BQ x8)<|.a 4<|.p (BG BQ Y)<|.a 2<|.ca (a9H M)<|.a 5<|.nil _)<|Hr h λx5 x8 x9 Y M x13 h=>Uz [Qg 3 (Go.Op.indexAddr 25 (Go.Operand.tmp 44) (Go.Operand.tmp 45)) (λL J I=>Uw (k:=.i64) BQ x8 UH Qk A8 I),Qg 8 (Go.Op.indexAddr 25 (Go.Operand.tmp 49) (Go.Operand.tmp 50)) (λL J I=>Uw (k:=.i64) BQ Y UH Qk A8 I),ZI 11 (acS x13) alu] 208<|YO (λs=>∃(Z:Ac) (O:(AA Ad)) (U:Ad),Gt s ⟨Az 70 [(0,BI j),(1,DU q),(7,DU L),(8,BI J),(9,.aQ 0),(10,AU x7),(13,.ptr 1 0),(14,Ai Z)],[(Et O),.box (BD (Au U))],0⟩/\a3V x4 x7 Z O U=some r) (by rintro s ⟨Z,O,U,hs,h⟩;exact Nu hs<|AZ<|BF h (λh=>AO h λL J h=>CQ<|.a 2<|.p (Dj Gl Jv [Au U])<|.f (DX (k:=0) Au J Gl A8 (λ_=>rfl) Ba)<|.aN<|I L (Ag [AQ 2]) h) λh=>I O (Ag [AQ 0]) h)<|λL=>AZ<|BF h (λh=>AO h λJ I h=>CQ<|.a 2<|.ca (KD I)<|.aN<|L _ ⟨J.2,x6,J.1,Ag [AQ 0,AQ 1],h⟩) λh=>L _ ⟨M.2,x6,M.1,Ag [AQ 0,AQ 1],h⟩) λh=>Hf
def aEI (j:Aj)(k3:(Int->Ad->AB (Ad×Ac))):Int->Ad->AB (Ad×Ac):=λq v2=>(cond (q<(j.length:Int)) ((Aq j q).bind λI=>(cond (I.Kind==1) ((Aq j q).bind λJ=>some (J,true)) (k3 (Ar (q+1)) v2))) (some (EI,false)))
def aWW (j:Aj):Int->Ad->AB (Ad×Ac):=aS (aEI j) Aw
def zJ (j:Aj):AB (Ad×Ac):=aWW j 0 EI
def aVO :=Dk func328 rfl zJ BI (λr=>.eu [Cm r.1,Ai r.2]) λj r h=>AZ<|Aa<|AZ<|Ak<|DJ (λq I=>⟨Az 22 [(0,BI j),(2,.ptr 0 0),(4,AU q)],[.box (BD (Au I))],0⟩) _ _ _ _ (Ag [AQ 0]) h<|λq I L M O h=>Aa<|AP 2<|.Z (BK Au j)<|Bg h (λh=>Aa<|Ak<|AO h λq I h=>AP 2<|.Z (BG Au I)<|BF h (λh=>AO h λq I h=>AP 2<|.Z (BG Au I)<|ES<|a2y) λh=>WT) λh=>CW<|AZ<|ES<|a4R
def aKT (j:Aj)(q:BH)(k2:(Int->AB Ac)):Int->AB Ac:=λI=>(cond (I<(j.length:Int)) ((Aq j I).bind λJ=>(cond (J.Kind==2) ((Aq j I).bind λL=>some (L.Key.toList==q.toList)) (some false)).bind λM=>(cond M (some true) (k2 (Ar (I+1))))) (some false))
def aUz (q:Aj)(j:BH):Int->AB Ac:=bg (aKT q j) Aw
def a3i (q:Aj)(j:BH):AB Ac:=aUz q j 0
def aj8 :=Dc func435 rfl a3i BI CP Ai λq j r h=>AZ<|Aa<|AZ<|Ak<|Dq (λI=>⟨Az 27 [(0,BI q),(1,CP j),(5,AU I)],[],0⟩) _ _ _ (Ag []) h<|λI J L M h=>Aa<|AP 2<|.Z (BK Au q)<|Bg h (λh=>Aa<|Ak<|AO h λI J h=>AP 2<|.p (BG Au J)<|.a 3<|AO h λI J h=>.mg 18 8 (Ai I) (.bi J (λh=>AO h λI J h=>.a 2<|.Z (BG Au J)<|CU))<|sQ) λh=>Ei
def YZ (v2:Ac):AB Ac:=some v2
def aAg (j:Ad)(q:Aj):AB Ac:=(zJ q).bind λI=>(cond I.2 (cond ((j.bP.length:Int)==1) ((Aq j.bP 0).bind λL=>(cond (L==I.1.Id) (cond (j.bG.toList==I.1.bG.toList) (cond (j.Key.toList==I.1.bG.toList) (cond (j.Content.N==3) ((a3i q j.Key).bind λJ=>YZ (!J)) (YZ false)) (YZ false)) (YZ false)) (YZ false))) (YZ false)) (YZ false))
def agB :=Dc func399 rfl aAg Cm BI Ai λj jh r h=>AZ<|AO h λI q h=>AP 1<|.X (aVO q)<|D9 (λ(v2:Ac)=>(λv2=>⟨Az 55 [(4,Ai v2)],[],0⟩) v2) (λv2=>YZ v2) r (λv2 h=>CV)<|λI=>Ed h (λq h=>Ed h (λJ h=>AO h λL M h=>Ed h (λL h=>Ed h (λO h=>Ed h (λU h=>Ed h (λY h=>AO h λx9 Z h=>DR A8 A8 A8 (.a 1<|.c (BM some q)<|.a 2<|.p (BK Ah j.bP)<|.a 2<|.c (BM some J)<|.a 2<|.p (BG Ah M)<|.a 5<|.c (BM some L)<|.a 6<|.c (BM some O)<|.a 6<|.c (BM some U)<|.a 5<|.c (BM some Y)<|.a 3<|.ca (aj8 Z)<|.a 3<|.nil _)<|I (!x9) (Ag []) h) λY h=>DR A8 A8 A8 (.a 1<|.c (BM some q)<|.a 2<|.p (BK Ah j.bP)<|.a 2<|.c (BM some J)<|.a 2<|.p (BG Ah M)<|.a 5<|.c (BM some L)<|.a 6<|.c (BM some O)<|.a 6<|.c (BM some U)<|.a 5<|.c (BM some Y)<|.a 7<|.nil _)<|I false (Ag []) h) λU h=>DR A8 A8 A8 (.a 1<|.c (BM some q)<|.a 2<|.p (BK Ah j.bP)<|.a 2<|.c (BM some J)<|.a 2<|.p (BG Ah M)<|.a 5<|.c (BM some L)<|.a 6<|.c (BM some O)<|.a 6<|.c (BM some U)<|.a 13<|.nil _)<|I false (Ag []) h) λO h=>DR A8 A8 A8 (.a 1<|.c (BM some q)<|.a 2<|.p (BK Ah j.bP)<|.a 2<|.c (BM some J)<|.a 2<|.p (BG Ah M)<|.a 5<|.c (BM some L)<|.a 6<|.c (BM some O)<|.a 20<|.nil _)<|I false (Ag []) h) λL h=>DR A8 A8 A8 (.a 1<|.c (BM some q)<|.a 2<|.p (BK Ah j.bP)<|.a 2<|.c (BM some J)<|.a 2<|.p (BG Ah M)<|.a 5<|.c (BM some L)<|.a 27<|.nil _)<|I false (Ag []) h) λJ h=>DR A8 A8 A8 (.a 1<|.c (BM some q)<|.a 2<|.p (BK Ah j.bP)<|.a 2<|.c (BM some J)<|.a 36<|.nil _)<|I false (Ag []) h) λq h=>DR A8 A8 A8 (.a 1<|.c (BM some q)<|.a 42<|.nil _)<|I false (Ag []) h
def aJz (j:Aj)(q:BH)(k2:(Int->AB Int)):Int->AB Int:=λI=>(cond (I<(j.length:Int)) ((Aq j I).bind λJ=>(cond (J.Kind==2) ((Aq j I).bind λL=>some (L.Key.toList==q.toList)) (some false)).bind λM=>(cond M ((Aq j I).bind λO=>some O.Content.N) (k2 (Ar (I+1))))) (some 0))
def aRJ (q:Aj)(j:BH):Int->AB Int:=bg (aJz q j) Aw
def fM (q:Aj)(j:BH):AB Int:=aRJ q j 0
def a6Z :=Dc func248 rfl fM BI CP AU λq j r h=>AZ<|Aa<|AZ<|Ak<|Dq (λJ=>⟨Az 33 [(0,BI q),(1,CP j),(5,AU J)],[],0⟩) _ _ _ (Ag []) h<|λJ I L M h=>Aa<|AP 2<|.Z (BK Au q)<|Bg h (λh=>Aa<|Ak<|AO h λJ I h=>AP 2<|.p (BG Au I)<|.a 3<|AO h λJ I h=>.mg 18 8 (Ai J) (.bi I (λh=>AO h λJ I h=>.a 2<|.Z (BG Au I)<|CU))<|.aT<|BF h (λh=>AO h λJ I h=>AP 2<|.Z (BG Au I)<|CV) λh=>TD) λh=>Ei
def Xh (j:Int)(I:Int)(q:Ac):AB Ac:=(cond (j<0) (some true) (some (decide (j>4)))).bind λx1=>(cond x1 (some false) (cond (I==3) ((cond q (some (j != 4)) (some false)).bind λx5=>some x5) (cond (I==0) ((cond (j==1) (some true) (some (j==2))).bind λx8=>(cond x8 (some true) (some (j==3))).bind λJ=>(cond J (some true) ((cond (j==4) (some (!q)) (some false)).bind λL=>some L)).bind λM=>some M) (cond (I==2) ((cond q ((cond (j==0) (some true) (some (j==2))).bind λO=>some O) (some false)).bind λU=>some U) (cond (I==1) ((cond (!q) ((cond (j==0) (some true) (some (j==2))).bind λY=>(cond Y (some true) (some (j==1))).bind λZ=>some Z) (some false)).bind λZy=>some Zy) (cond (I==4) (some (!q)) (some false)))))))
def adT {aDD aKm aph r}(h:Xh aDD aKm aph=some r):Dh 400 [AU aDD,AU aKm,Ai aph] [] (Ai r) []:=by
 refine Dy func400 rfl ?_;unfold Xh at h;refine AZ<|Aa<|AP 2<|?_;obtain⟨x1,hx1,h⟩:=Du h;refine .mg 9 3 (Ai x1) ?_ ?_
 ·rcases Yf hx1 with⟨L,h⟩|⟨L,h⟩
  ·refine .c (BM some L)<|.aM 3 ?_;obtain rfl:=CM h;kernel_rfl
  refine .c (BM some L)<|.aM 3 ?_;obtain rfl:=CM h;kernel_rfl
 refine .aT<|Di h (λh=>?_) λh=>?_
 ·refine BL<|.aM 1 ?_;rw[←CM h];exact .ret (Ew [])
 refine FM<|Aa<|AZ<|Ak<|AZ<|Di h (λh=>?_) λh=>?_
 ·refine AP 2<|?_;obtain⟨x5,hx5,h⟩:=Du h;refine .mg 18 2 (Ai x5) ?_ ?_
  ·replace h:=hx5;cases aph with
   |true=>
    replace h:=Qu rfl h;refine .aM 3 ?_;obtain rfl:=CM h;kernel_rfl
   |false=>
    replace h:=RD rfl h;refine .aM 3 ?_;obtain rfl:=CM h;kernel_rfl
  refine .aM 1 ?_;rw[←CM h];exact .ret (Ew [])
 refine AZ<|Di h (λh=>?_) λh=>?_
 ·refine AP 2<|?_;obtain⟨x8,hx8,h⟩:=Du h;refine .mg 25 3 (Ai x8) ?_ ?_
  ·rcases Yf hx8 with⟨M,h⟩|⟨M,h⟩
   ·refine .c (BM some M)<|.aM 3 ?_;obtain rfl:=CM h;kernel_rfl
   refine .c (BM some M)<|.aM 3 ?_;obtain rfl:=CM h;kernel_rfl
  refine .a 1<|?_;obtain⟨O,U,h⟩:=Du h;refine .mg 30 2 (Ai O) ?_ ?_
  ·replace h:=U;cases x8 with
   |true=>
    replace h:=Qu rfl h;refine .aM 3 ?_;obtain rfl:=CM h;kernel_rfl
   |false=>
    replace h:=RD rfl h;refine .aM 3 ?_;obtain rfl:=CM h;kernel_rfl
  refine .a 1<|?_;obtain⟨x12,Y,h⟩:=Du h;refine .mg 34 6 (Ai x12) ?_ ?_
  ·replace h:=Y;cases O with
   |true=>
    replace h:=Qu rfl h;refine .aM 7 ?_;obtain rfl:=CM h;kernel_rfl
   |false=>
    replace h:=RD rfl h;refine .a 2<|?_;obtain⟨x14,Z,h⟩:=Du h;refine .mg 36 3 (Ai x14) ?_ ?_
    ·rcases Yf Z with⟨j,h⟩|⟨j,h⟩
     ·refine .c (BM some j)<|.aM 3 ?_;obtain rfl:=CM h;kernel_rfl
     refine .c (BM some j)<|.aM 3 ?_;obtain rfl:=CM h;kernel_rfl
    refine .aM 1 ?_;obtain rfl:=CM h;kernel_rfl
  refine .aM 1 ?_;rw[←CM h];exact .ret (Ew [])
 refine AZ<|Di h (λh=>?_) λh=>?_
 ·refine AP 2<|?_;obtain⟨x17,aJe,h⟩:=Du h;refine .mg 45 6 (Ai x17) ?_ ?_
  ·replace h:=aJe;cases aph with
   |true=>
    replace h:=Qu rfl h;refine .a 2<|?_;obtain⟨x19,aJf,h⟩:=Du h;refine .mg 47 3 (Ai x19) ?_ ?_
    ·rcases Yf aJf with⟨q,h⟩|⟨q,h⟩
     ·refine .c (BM some q)<|.aM 3 ?_;obtain rfl:=CM h;kernel_rfl
     refine .c (BM some q)<|.aM 3 ?_;obtain rfl:=CM h;kernel_rfl
    refine .aM 1 ?_;obtain rfl:=CM h;kernel_rfl
   |false=>
    replace h:=RD rfl h;refine .aM 7 ?_;obtain rfl:=CM h;kernel_rfl
  refine .aM 1 ?_;rw[←CM h];exact .ret (Ew [])
 refine AZ<|Di h (λh=>?_) λh=>?_
 ·refine AP 2<|?_;obtain⟨Zy,aJg,h⟩:=Du h;refine .mg 56 11 (Ai Zy) ?_ ?_
  ·rcases Yf aJg with⟨I,h⟩|⟨I,h⟩
   ·refine .c (BM some I)<|.a 2<|?_;obtain⟨x24,hx24,h⟩:=Du h;refine .mg 59 3 (Ai x24) ?_ ?_
    ·rcases Yf hx24 with⟨J,h⟩|⟨J,h⟩
     ·refine .c (BM some J)<|.aM 3 ?_;obtain rfl:=CM h;kernel_rfl
     refine .c (BM some J)<|.aM 3 ?_;obtain rfl:=CM h;kernel_rfl
    refine .a 1<|?_;obtain⟨D6,az1,h⟩:=Du h;refine .mg 64 2 (Ai D6) ?_ ?_
    ·replace h:=az1;cases x24 with
     |true=>
      replace h:=Qu rfl h;refine .aM 3 ?_;obtain rfl:=CM h;kernel_rfl
     |false=>
      replace h:=RD rfl h;refine .aM 3 ?_;obtain rfl:=CM h;kernel_rfl
    refine .aM 1 ?_;obtain rfl:=CM h;kernel_rfl
   refine .c (BM some I)<|.aM 11 ?_;obtain rfl:=CM h;kernel_rfl
  refine .aM 1 ?_;rw[←CM h];exact .ret (Ew [])
 refine AZ<|Di h (λh=>?_) λh=>?_
 ·refine BL<|.aM 3 ?_;rw[←CM h];exact .ret (Ew [])
 refine FM<|BL<|.aM 1 ?_;rw[←CM h];exact .ret (Ew [])
def aHV (j:Aj)(k2:(Int->AB (Int×Gj))):Int->AB (Int×Gj):=λq=>(cond (q<(j.length:Int)) ((Aq j q).bind λI=>(cond (I.Kind==4) ((Aq j q).bind λJ=>(Aq j q).bind λL=>(CZ 16 [] L.Content.Allow).bind λM=>some (J.Content.N,M)) (k2 (Ar (q+1))))) (some (0,[])))
def aVl (j:Aj):Int->AB (Int×Gj):=bg (aHV j) Aw
def aAD (j:Aj):AB (Int×Gj):=aVl j 0
def abz :=Dk func436 rfl aAD BI (λr=>.eu [AU r.1,Ia r.2]) λq r h=>AZ<|Aa<|AZ<|Ak<|Dq (λI=>⟨Az 31 [(0,BI q),(4,AU I)],[],0⟩) _ _ _ (Ag []) h<|λI j J L h=>Aa<|AP 2<|.Z (BK Au q)<|Bg h (λh=>Aa<|Ak<|AO h λI j h=>AP 2<|.Z (BG Au j)<|BF h (λh=>Hr h λI j J L M O h=>Uz [Qg 2 (Go.Op.indexAddr 22 (Go.Operand.tmp 17) (Go.Operand.tmp 18)) (λI es J=>Uw (k:=.i64) Au j Kv Fg A8 J),Wx 6 (Go.Op.buildSlice 46 0 #[]) [] [(WV [])] (λI j=>a6x O4 zero9 A8 A8 (DZ A8) [] [] A8 A8 A8 A8 j),Qg 9 (Go.Op.indexAddr 22 (Go.Operand.tmp 24) (Go.Operand.tmp 25)) (λI es j=>Uw (k:=.i64) Au L Kv Fg A8 j),Wx 13 (Go.Op.call { callee:=(Go.Callee.builtin Go.Builtin.append),args:= #[(Go.Operand.tmp 23),(Go.Operand.tmp 29)],argTypes:= #[46,46] }) [(WV [])] [.dead,.dead] (λI j=>CG.thaw (k:=1) (e:=9) (s:=1) (xs:=List.map DV M) (es:=[(WV [])]) (es':=[.dead,(WV M)]) (DX (k:=0) DV O O4 A8 (λ_=>rfl) Ba j) A8)] 137<|CV) λh=>Vd) λh=>Ei
def a8W (j:Int)(q:Int):AB Int:=(cond (q==3) (some true) (some (j==1))).bind λI=>(cond I (some 0) ((cond (q==1) ((cond (j==0) (some true) (some (j==2))).bind λJ=>(cond J (some true) (some (j==3))).bind λL=>some L) (some false)).bind λM=>(cond M (some 0) (some 21))))
def afx :=Dc func437 rfl a8W AU AU AU λI J r h=>AZ<|Aa<|AP 2<|AO h λj q h=>.mg 7 3 (Ai j) (.bi q)<|.aT<|BF h Bo λh=>Aa<|AP 2<|AO h λj q h=>.mg 13 11 (Ai j) (.bi q (λh=>.a 2<|AO h λj q h=>.mg 16 3 (Ai j) (.bi q)<|.a 1<|AO h λj q h=>.mg 21 2 (Ai j) (Cb q)<|.aW<|CU))<|.aT<|Ir
def aAZ (q:Int)(j:Int):AB Int:=(cond (q==2) ((cond (j==0) (some true) (some (j==2))).bind λI=>some I) (some false)).bind λJ=>(cond J (some 0) (some 21))
def anS :=Dc func438 rfl aAZ AU AU AU λj q r h=>AZ<|Aa<|AP 2<|AO h λI J h=>.mg 7 7 (Ai I) (.bi J (λh=>.a 2<|AO h λI J h=>.mg 10 3 (Ai I) (.bi J)<|.aW<|CU))<|.aT<|Ir
def a2h (q:Ad)(I:Aj)(j:Int):AB Int:=(aAD I).bind λJ=>(cond (q.Content.N==3) ((a8W J.1 j).bind λL=>some L) (cond (q.Content.N==2) ((aAZ J.1 j).bind λM=>some M) (some 0)))
def ak5 :=JF func401 rfl a2h Cm BI AU AU λJ L j r h=>AZ<|AO h λM q h=>AP 1<|.X (abz q)<|Aa<|AZ<|BF h (λh=>AO h λq I h=>AP 2<|.X (afx I)<|CV) λh=>Aa<|AZ<|BF h (λh=>AO h λq I h=>AP 2<|.X (anS I)<|CV) λh=>AZ<|CV
def aB2 (j:Ad)(I:Aj)(q:Int):AB Int:=(fM I j.bG).bind λx1=>(cond (x1 != 3) (some 18) ((jg I).bind λJ=>(Rl J.1 j.bG).bind λL=>(Rl J.1 j.Key).bind λx5=>(cond (j.Content.N==1) (some (decide (L<J.1.iJ))) (some false)).bind λx6=>(cond x6 (some 20) ((cond (j.Content.N==0) ((cond (q==4) (some (decide (L<J.1.oq))) (some false)).bind λM=>(cond M (some true) (some (decide (L<J.1.kT)))).bind λO=>(cond O (some true) (some (decide (x5>=L)))).bind λU=>some U) (some false)).bind λx9=>(cond x9 (some 20) ((cond (j.Content.N==4) ((cond (L<J.1.oq) (some true) (some (decide (x5>=L)))).bind λY=>some Y) (some false)).bind λZ=>(cond Z (some 20) (some 0))))))))
def apH :=JF func402 rfl aB2 Cm BI AU AU λJ L I r h=>AZ<|Aa<|AO h λq j h=>AP 3<|.X (a6Z j)<|BF h Bo λh=>AO h λq j h=>AP 1<|.X (a5h j)<|Bj h λj M U O h=>Ee A8 A8 A8 (.a 3<|.ca (Y9 M)<|.a 3<|.ca (Y9 O)<|.a 2<|.nil _)<|AZ<|Aa<|AP 2<|AO h λq j h=>.mg 35 5 (Ai q) (.bi j)<|.aT<|BF h Bo λh=>Aa<|AP 2<|AO h λq j h=>.mg 43 20 (Ai q) (.bi j (λh=>.a 2<|AO h λq j h=>.mg 46 5 (Ai q) (.bi j)<|.a 1<|AO h λq j h=>.mg 53 4 (Ai q) (Cb j)<|.a 1<|AO h λq j h=>.mg 59 3 (Ai q) (Cb j)<|.aW<|CU))<|.aT<|BF h Bo λh=>Aa<|AP 2<|AO h λq j h=>.mg 66 10 (Ai q) (.bi j (λh=>.a 4<|AO h λq j h=>.mg 71 4 (Ai q) (.bi j)<|.aW<|CU))<|.aT<|Ir
def a6y (j:Ad)(q:Aj):AB Int:=(aAg j q).bind λM=>(cond M (some 0) ((fM q j.Key).bind λI=>(cond (j.Key.toList==j.bG.toList) (some (I==4)) (some false)).bind λO=>(cond O (some 19) ((Xh I j.Content.N (j.Key.toList==j.bG.toList)).bind λU=>(cond (!U) (some 18) (cond (j.Key.toList==j.bG.toList) ((a2h j q I).bind λJ=>some J) ((aB2 j q I).bind λL=>some L)))))))
def aZE :=Dc func329 rfl a6y Cm BI AU λI J r h=>AZ<|Aa<|AO h λL j h=>AP 2<|.ca (agB j)<|.aT<|BF h Bo λh=>AO h λL j h=>AP 3<|.X (a6Z j)<|AZ<|Aa<|AP 1<|AO h λj q h=>.mg 20 3 (Ai j) (.bi q)<|.aT<|BF h Bo λh=>Aa<|AO h λj q h=>AP 5<|.X (adT q)<|BF h Bo λh=>Aa<|AZ<|BF h (λh=>AO h λj q h=>AP 3<|.X (ak5 q)<|CV) λh=>AO h λj q h=>AP 3<|.X (apH q)<|CV
def aIc (j:Ci)(q:Int)(k2:(Int->AB Int)):Int->AB Int:=λI=>(bif I<(j.Kinds.length:Int) then(Aq j.Kinds I).bind λJ=>(cond (J.Kind==q) ((Aq j.Kinds I).bind λL=>some L.N) (k2 (Ar (I+1))))else(Ug q).bind λM=>(cond M (some j.State) (some j.Message)))
def aNT (j:Ci)(q:Int):Int->AB Int:=bg (aIc j q) Aw
def qw (j:Ci)(q:Int):AB Int:=aNT j q 0
def aGz :=Dc func403 rfl qw Iz AU AU λj I r h=>AZ<|Aa<|AZ<|Ak<|Dq (λJ=>⟨Az 33 [(1,AU I),(2,.ptr 0 0),(5,AU J)],[.box (BD (FW j))],0⟩) _ _ _ (Ag [AQ 0]) h<|λJ q L M h=>Aa<|AP 3<|.Z (BK F8 j.Kinds)<|Bg h (λh=>Aa<|Ak<|AO h λJ q h=>AP 3<|.Z (BG F8 q)<|BF h (λh=>AO h λJ q h=>AP 3<|.Z (BG F8 q)<|CV) λh=>Xy) λh=>CW<|Aa<|AO h λJ q h=>AP 1<|.ca (ZA q)<|.aT<|Ir
def a6w (j:Ci):AB AV:=some [j.User,j.Message,j.State,j.iJ,j.kT,j.oq,j.gy]
def aYA :=JM func439 rfl a6w Iz CO λj r h=>AP 1<|.f (C9 3 1)<|.aT<|AP 14<|.Y (Gn DL zero3 [Ah j.User,Ah j.Message,Ah j.State,Ah j.iJ,Ah j.kT,Ah j.oq,Ah j.gy])<|Jt
def qE (j:Int)(I:Int)(q:Int):AB Ac:=(cond (j==I) (some true) ((cond (j<=q) (some (decide (I<=q))) (some false)).bind λJ=>some J)).bind λL=>some L
def aFd :=JF func440 rfl qE AU AU AU Ai λj I q r h=>AZ<|AP 3<|AO h λJ L h=>.mg 10 9 (Ai J) (.bi L (k2:=λh=>.a 3<|AO h λJ L h=>.mg 14 4 (Ai J) (.bi L)<|.aW<|CU))<|.aW<|CV
def sZ (q:Ci)(J:Ci)(I:BH)(j:BH):AB Ac:=(Rl q j).bind λM=>(Rl q I).bind λL=>(Rl J I).bind λO=>(qE L O M).bind λU=>(cond U ((cond (L==O) (some true) (some (I.toList==j.toList))).bind λY=>(cond Y (some true) (some (decide (L<M)))).bind λZ=>some Z) (some false)).bind λx5=>some x5
def aUH {jY aHa aNi DC r}(h:sZ jY aHa aNi DC=some r):Dh 441 [Iz jY,Iz aHa,CP aNi,CP DC] [] (Ai r) []:=Dy func441 rfl<|AZ<|Hr h λq j L I M J h=>Ee A8 A8 A8 (.a 2<|.ca (Y9 j)<|.a 2<|.ca (Y9 I)<|.a 2<|.ca (Y9 J)<|.a 3<|.nil _)<|AO h λj I h=>AP 3<|.ca (aFd I)<|.a 1<|AO h λq j h=>.mg 26 13 (Ai q) (Cb j (λe i=>by subst e;have h:=i;exact .a 3<|AO h λq j h=>.mg 29 4 (Ai q) (.bi j)<|.a 1<|AO h λq j h=>.mg 35 3 (Ai q) (Cb j)<|.aW<|CU))<|.aW<|CV
def a3Z (j:Ci)(q:Ci)(Y:Int)(J:(Int->AB Int))(L:Int)(I:Int):AB Int:=(qw j I).bind λM=>(qw q I).bind λO=>(qE M O Y).bind λU=>(cond (!U) (some 20) (J (Ar (L+1))))
def aCM (j:Ci)(I:Ci)(q:BH)(L:(Int->AB Int)):Int->AB Int:=λJ=>(cond (J<(j.Users.length:Int)) ((Aq j.Users J).bind λM=>(sZ I j M.User q).bind λO=>(cond (!O) (some 20) (L (Ar (J+1))))) (some 0))
def aD7 (q:Ci)(I:Ci)(j:BH):Int->AB Int:=bg (aCM q I j) Aw
def aIb (j:Ci)(I:Ci)(q:BH)(L:(Int->AB Int)):Int->AB Int:=λJ=>(cond (J<(j.Users.length:Int)) ((Aq j.Users J).bind λM=>(sZ j I M.User q).bind λO=>(cond (!O) (some 20) (L (Ar (J+1))))) (aD7 I j q 0))
def aCy (q:Ci)(I:Ci)(j:BH):Int->AB Int:=bg (aIb q I j) Aw
def aL0 (j:Ci)(q:Ci)(U:Int)(J:BH)(L:(Int->AB Int)):Int->AB Int:=λI=>(cond (I<(Ar ((j.Kinds.length:Int)+(q.Kinds.length:Int)))) (cond (I<(j.Kinds.length:Int)) ((Aq j.Kinds I).bind λM=>a3Z j q U L I M.Kind) ((Aq q.Kinds (Ar (I-(j.Kinds.length:Int)))).bind λO=>a3Z j q U L I O.Kind)) (aCy j q J 0))
def a5l (q:Ci)(I:Ci)(J:Int)(j:BH):Int->AB Int:=bg (aL0 q I J j) Aw
def aGN (L:AV)(O:AV)(M:Int)(q:Ci)(I:Ci)(j:BH)(U:(Int->AB Int)):Int->AB Int:=λJ=>(cond (J<(L.length:Int)) ((Aq L J).bind λY=>(Aq O J).bind λZ=>(qE Y Z M).bind λx9=>(cond (!x9) (some 20) (U (Ar (J+1))))) (a5l q I M j 0))
def aM4 (J:AV)(L:AV)(M:Int)(q:Ci)(I:Ci)(j:BH):Int->AB Int:=bg (aGN J L M q I j) Aw
def a7u (j:Ci)(I:Ci)(q:BH):AB Int:=(Rl j q).bind λJ=>(a6w j).bind λL=>(a6w I).bind λM=>aM4 L M J j I q 0
def akw :=JF func404 rfl a7u Iz Iz CP AU λj q I r h=>AZ<|AO h λM J h=>AP 2<|.X (Y9 J)<|Bj h λJ L Y U h=>Ee A8 A8 A8 (.a 1<|.ca (aYA L).view<|.a 1<|.ca (aYA U).view<|.a 2<|.nil _)<|Aa<|AZ<|Ak<|Dq (λL=>⟨Az 116 [(2,CP I),(3,.ptr 0 0),(4,.ptr 1 0),(7,AU M),(8,BZ J),(9,BZ Y),(10,AU L)],[.box (BD (FW j)),.box (BD (FW q))],0⟩) _ _ _ (Ag [AQ 0,AQ 1]) h<|λL Y U Z h=>Aa<|AP 2<|.Z (BK Ah J)<|Bg h (λh=>Aa<|Ak<|Hr h λJ L Y Z x7 x8 h=>Ee A8 A8 A8 (.a 2<|.p (BG Ah L)<|.a 3<|.p (BG Ah Z)<|.a 2<|.ca (aFd x8)<|.a 1<|.nil _)<|BF h Bo λh=>Cc<|U _ _ (Ag [AQ 0,AQ 1]) h) λh=>CW<|Aa<|AZ<|Ak<|Dq (λJ=>⟨Az 116 [(2,CP I),(3,.ptr 0 0),(4,.ptr 1 0),(7,AU M),(11,AU J)],[.box (BD (FW j)),.box (BD (FW q))],0⟩) _ _ _ (Ag [AQ 0,AQ 1]) h<|λJ L Y U h=>Aa<|AP 3<|.p (BK F8 j.Kinds)<|.a 2<|.Z (BK F8 q.Kinds)<|Bg h (λh=>Aa<|Ak<|AZ<|D9 (λ(O:Int)=>(λI M J j q O=>⟨Az 116 [(2,CP I),(3,.ptr 0 0),(4,.ptr 1 0),(7,AU M),(11,AU J),(12,AU O)],[.box (BD (FW j)),.box (BD (FW q))],0⟩) I M U j q O) (λO=>a3Z j q M L U O) r (λO h=>Hr h λJ L U Z x7 x8 h=>Ee A8 A8 A8 (.a 2<|.ca (aGz L)<|.a 2<|.ca (aGz Z)<|.a 1<|.ca (aFd x8)<|.a 1<|.nil _)<|BF h Bo λh=>Cc<|Y _ _ (Ag [AQ 0,AQ 1]) h)<|λM=>AP 3<|.Z (BK F8 j.Kinds)<|Di h (λh=>AO h λJ L h=>CQ<|.a 3<|.p (BG F8 L)<|.aN<|M J.Kind (Ag [AQ 0,AQ 1]) h) λh=>AO h λJ L h=>CQ<|.a 5<|.p (BK F8 j.Kinds)<|.a 1<|.p (BG F8 L)<|.aN<|M J.Kind (Ag [AQ 0,AQ 1]) h) λh=>CW<|Aa<|AZ<|Ak<|Dq (λM=>⟨Az 116 [(2,CP I),(3,.ptr 0 0),(4,.ptr 1 0),(13,AU M)],[.box (BD (FW j)),.box (BD (FW q))],0⟩) _ _ _ (Ag [AQ 0,AQ 1]) h<|λM J L Y h=>Aa<|AP 3<|.Z (BK F5 j.Users)<|Bg h (λh=>Aa<|Ak<|Bj h λM J Y U h=>Ee A8 A8 A8 (.a 5<|.p (BG F5 J)<|.a 3<|.ca (aUH U)<|.a 1<|.nil _)<|aLk) λh=>CW<|Aa<|AZ<|Ak<|Dq (λM=>⟨Az 116 [(2,CP I),(3,.ptr 0 0),(4,.ptr 1 0),(14,AU M)],[.box (BD (FW j)),.box (BD (FW q))],0⟩) _ _ _ (Ag [AQ 0,AQ 1]) h<|λM J L Y h=>Aa<|AP 3<|.Z (BK F5 q.Users)<|Bg h (λh=>Aa<|Ak<|Bj h λM J Y U h=>Ee A8 A8 A8 (.a 5<|.p (BG F5 J)<|.a 3<|.ca (aUH U)<|.a 1<|.nil _)<|aLk) λh=>Ei
def a5o (j:Ad)(q:Aj):AB Int:=(jg q).bind λI=>(Rl I.1 j.bG).bind λJ=>(qw I.1 j.Kind).bind λL=>(cond (J<L) (some 20) (cond (j.Kind==3) ((a7u I.1 j.Content.Levels j.bG).bind λM=>some M) (some 0)))
def abg :=Dc func330 rfl a5o Cm BI AU λI J r h=>AZ<|AO h λM j h=>AP 1<|.X (a5h j)<|Aa<|Bj h λj q O L h=>Ee A8 A8 A8 (.a 3<|.ca (Y9 q)<|.a 3<|.ca (aGz L)<|.a 1<|.nil _)<|BF h Bo λh=>Aa<|AZ<|BF h (λh=>AO h λj q h=>AP 6<|.X (akw q)<|CV) λh=>AZ<|CV
def a3Y (j:Ac):AB Int:=(cond j (some 0) (some 17))
def rG (j:Ad)(q:Aj):AB Int:=(zJ q).bind λM=>(cond (j.Kind==1) (cond (!M.2) ((qL j.bG).bind λO=>(qL j.Room).bind λU=>a3Y (O.toList==U.toList)) (a3Y false)) (cond (!M.2) (some 17) (cond (j.Kind==2) ((a6y j q).bind λI=>some I) ((fM q j.bG).bind λJ=>(cond (J != 3) (some 18) ((a5o j q).bind λL=>some L))))))
def aHW :=Dc func252 rfl rG Cm BI AU λJ L r h=>AZ<|AO h λq j h=>AP 1<|.X (aVO j)<|Aa<|AZ<|BF h (λh=>Aa<|D9 (λ(I:Ac)=>(λI=>⟨Az 42 [(25,Ai I)],[],0⟩) I) (λI=>a3Y I) r (λI h=>Ir)<|λq=>Ed h (λj h=>Bj h λM O U Y h=>DR A8 A8 A8 (.a 2<|.c (BM some j)<|.a 2<|.ca (a7o O)<|.a 2<|.ca (a7o Y)<|.a 2<|.nil _)<|q (M.toList==U.toList) (Ag []) h) λj h=>DR A8 A8 A8 (.a 2<|.c (BM some j)<|.a 8<|.nil _)<|q false (Ag []) h) λh=>Aa<|AZ<|BF h Bo λh=>Aa<|AZ<|BF h (λh=>AO h λq j h=>AP 2<|.X (aZE j)<|CV) λh=>Aa<|AO h λq j h=>AP 3<|.X (a6Z j)<|BF h Bo λh=>AO h λq j h=>AP 2<|.X (abg j)<|CV
def a3Q (I:Int)(q:BH)(J:Int)(j:BH):AB Ac:=(cond (I<J) (some true) ((cond (I==J) (some (Op.bytesLess (q.toList) (j.toList))) (some false)).bind λL=>some L)).bind λM=>some M
def afL {aJh aHb aNj az6 r}(h:a3Q aJh aHb aNj az6=some r):Dh 254 [AU aJh,CP aHb,AU aNj,CP az6] [] (Ai r) []:=Dy func254 rfl<|AZ<|AP 3<|AO h λj q h=>.mg 12 9 (Ai j) (.bi q (k2:=λh=>.a 3<|AO h λj q h=>.mg 16 4 (Ai j) (.bi q)<|.aW<|CU))<|.aW<|CV
def a8i (j:BX)(I:BX)(J:Int):AB BX:=(Gx j J ((j).length)).bind λL=>(CZ 32 I L).bind λq=>some q
def dA (k2:(Int->AB BX))(J:Int)(j:BX)(I:Int)(q:BH)(L:Int)(v3:Ac):AB BX:=(cond v3 (k2 (Ar (J+1))) ((Gx j 0 J).bind λx5=>(CZ 32 [] x5).bind λx6=>(CZ 32 x6 [(⟨I,q,L⟩:BN)]).bind λZ=>(cond (J<(j.length:Int)) ((Aq j J).bind λM=>some (M.Kind==I)) (some false)).bind λO=>(cond O ((Aq j J).bind λU=>some (U.Key.toList==q.toList)) (some false)).bind λY=>(cond Y (a8i j Z (Ar (J+1))) (a8i j Z J))))
def aL6 (q:BX)(I:Int)(j:BH)(J:Int)(k2:(Int->AB BX)):Int->AB BX:=λL=>(cond (L<(q.length:Int)) ((Aq q L).bind λM=>(Aq q L).bind λO=>(a3Q M.Kind O.Key I j).bind λU=>dA k2 L q I j J U) (dA k2 L q I j J false))
def aOJ (I:BX)(J:Int)(j:BH)(q:Int):Int->AB BX:=bg (aL6 I J j q) Aw
def dh (I:BX)(J:Int)(j:BH)(q:Int):AB BX:=aOJ I J j q 0
def aHh {j J q I r}(h:dh j J q I=some r):Dh 183 [DU j,AU J,CP q,AU I] [] (.aQ 0) [(Lc r)]:=Dy func183 rfl<|BL<|.f (C9 147 3)<|.aT<|AZ<|Aa<|Ak<|Dq (λL=>⟨Az 73 [(0,DU j),(1,AU J),(2,CP q),(3,AU I),(9,AU L)],[],0⟩) _ _ _ (Ag []) h<|λL M O U h=>Aa<|D9 (λ(Y:Ac)=>(λj J q I L Y=>⟨Az 73 [(0,DU j),(1,AU J),(2,CP q),(3,AU I),(9,AU L),(29,Ai Y)],[],0⟩) j J q I U Y) (λY=>dA M U j J q I Y) r (λY h=>Bg h (λh=>Ak<|a0Q) λh=>CW<|Bj h λL M O x5 h=>BL<|.f (Gn Mc Qy [])<|.a 2<|.p (Ou BQ M (λ_=>rfl) O5 ru Qk (λ_=>rfl) rfl)<|.Y (DX (k:=0) BQ x5 Mc A8 (λ_=>rfl) Ba)<|AO h λL M h=>AP 5<|.p (Dj Mc Qy [BQ (⟨J,q,I⟩:BN)])<|.Y (DX (k:=1) BQ M Mc A8 (λ_=>rfl) Ba)<|D9 (λ(Z:Int)=>(λj L Z=>⟨Az 73 [(0,DU j),(9,AU Z),(10,.aQ 0)],[(Lc L)],0⟩) j L Z) (λZ=>a8i j L Z) r (λZ h=>Bj h λL M O U h=>AP 3<|.p (Ou BQ M O5 (λ_=>rfl) ru Qk (λ_=>rfl) rfl)<|.Y (DX (k:=0) BQ U Mc A8 (λ_=>rfl) Ba)<|JQ)<|λL=>AP 2<|.p (BK BQ j)<|.a 1<|AO h λM O h=>.mg 48 8 (Ai M) (.bi O (λh=>AO h λL M h=>.a 2<|.Z (BG BQ M)<|CU))<|.a 1<|AO h λM O h=>.mg 58 7 (Ai M) (Cb O (λe i=>by subst e;have h:=i;exact AO h λL M h=>.a 2<|.Z (BG BQ M)<|CU))<|.aT<|BF h (λh=>Cc<|L (Ar (U+1)) (Ag [AQ 2]) h) λh=>L U (Ag [AQ 2]) h)<|λL=>Ed h (λM h=>Hr h λO U x5 x6 x7 x8 h=>DR A8 A8 A8 (.a 2<|.p (BK BQ j)<|.a 1<|.c (BM some M)<|.a 2<|.p (BG BQ U)<|.a 4<|.p (BG BQ x6)<|.a 4<|.ca (afL x8)<|.a 1<|.nil _)<|L x7 (Ag []) h) λM h=>DR A8 A8 A8 (.a 2<|.p (BK BQ j)<|.a 1<|.c (BM some M)<|.a 14<|.nil _)<|L false (Ag []) h
def aAt (j:(BX->Int->AB BX))(q:Int)(I:BX):AB BX:=j I (Ar (q+1))
def a0h (v2:BX)(j:(Ad×Ac))(J:(BX->Int->AB BX))(L:Int)(q:Ac):AB BX:=(cond q ((dh v2 j.1.Kind j.1.Key j.1.Id).bind λI=>aAt J L I) (aAt J L v2))
def aD1 (j:AV)(q:Aj)(L:(BX->Int->AB BX)):BX->Int->AB BX:=λv2 J=>(cond (J<(j.length:Int)) ((Aq j J).bind λY=>(JK q Y).bind λI=>(cond I.2 ((Ug I.1.Kind).bind λM=>(cond M ((a96 q v2 I.1).bind λO=>(rG I.1 O).bind λU=>a0h v2 I L J (U==0)) (a0h v2 I L J false))) (a0h v2 I L J false))) (some v2))
def aXp (j:AV)(q:Aj):BX->Int->AB BX:=aS (aD1 j q) Aw
def fA (q:Aj)(I:BX)(j:AV):AB BX:=(CZ 32 [] I).bind λJ=>aXp j q J 0
def aOT :=JF func283 rfl fA BI DU BZ DU λq L6 j r h=>AZ<|AO h λI J h=>BL<|.f (Gn Mc Qy [])<|.a 1<|.f (DX (k:=0) BQ J Mc A8 (λ_=>rfl) Ba)<|.conv _ (IW (e:=147) (s:=3) 1 (xs:=List.map BQ I) A8)<|.aW<|Aa<|AZ<|Ak<|DJ (λI J=>⟨Az 53 [(0,BI q),(2,BZ j),(7,DU I),(8,AU J)],[],0⟩) _ _ _ _ (Ag []) h<|λI J M Y U h=>Aa<|AP 2<|.Z (BK Ah j)<|Bg h (λh=>D9 (λ(O:(AA BN))=>(λq j I O=>⟨Az 53 [(0,BI q),(2,BZ j),(7,DU O),(8,AU I)],[],0⟩) q j U O) (λO=>aAt J U O) r (λO h=>a8K)<|λI=>Ak<|Bj h λM Z x7 x8 h=>AP 3<|.p (BG Ah Z)<|.a 1<|.X (KD x8)<|D9 (λ(L:Ac)=>(λq j I J M L=>⟨Az 53 [(0,BI q),(2,BZ j),(7,DU I),(8,AU J),(9,.ptr 0 0),(43,Ai L)],[.box (BD (Au M.1))],0⟩) q j Y U x7 L) (λL=>a0h Y x7 J U L) r (λL h=>BF h (λh=>AO h λJ M h=>CQ<|.a 7<|.ca (aHh M).view<|.aN<|I J (Ag []) h) λh=>I Y (Ag []) h)<|λI=>Ed h (λJ h=>AO h λx15 M h=>by cases x15 with |true=>exact(have h:=Qu rfl h;Bj h λU Z x8 x9 h=>DR A8 A8 A8 (.a 1<|.c (BM some J)<|.a 2<|.ca (ZA M)<|.a 6<|.ca (adD Z).view<|.ca (aHW x9)<|.a 2<|.nil _)<|I (x8==0) (Ag [AQ 0]) h)|false=>exact(have h:=RD rfl h;DR A8 A8 A8 (.a 1<|.c (BM some J)<|.a 2<|.ca (ZA M)<|.a 10<|.nil _)<|I false (Ag [AQ 0]) h)) λJ h=>DR A8 A8 A8 (.a 1<|.c (BM some J)<|.a 13<|.nil _)<|I false (Ag [AQ 0]) h) λh=>Ei
def aKU (j:Ad)(q:Aj)(k2:(Int->AB (Int×Ac))):Int->AB (Int×Ac):=λI=>(cond (I<(j.bQ.length:Int)) ((Aq j.bQ I).bind λL=>(JK q L).bind λJ=>(cond J.2 (some (J.1.Kind==3)) (some false)).bind λM=>(cond M ((Aq j.bQ I).bind λO=>some (O,true)) (k2 (Ar (I+1))))) (some (0,false)))
def aPv (j:Ad)(q:Aj):Int->AB (Int×Ac):=bg (aKU j q) Aw
def aBT (j:Aj)(q:Ad):AB (Int×Ac):=aPv q j 0
def aZ1 :=Dc func362 rfl aBT BI Cm (λr=>.eu [AU r.1,Ai r.2]) λJ j r h=>AZ<|Aa<|AZ<|Ak<|Dq (λq=>⟨Az 37 [(0,BI J),(3,.ptr 0 0),(6,AU q)],[.box (BD (Au j))],0⟩) _ _ _ (Ag [AQ 0]) h<|λq I L M h=>Aa<|AP 3<|.Z (BK Ah j.bQ)<|Bg h (λh=>Aa<|Ak<|Bj h λq I M O h=>AP 4<|.p (BG Ah I)<|.a 1<|.X (KD O)<|AP 1<|AO h λq I h=>.mg 27 4 (Ai q) (.bi I)<|.aT<|BF h (λh=>AO h λq I h=>AP 3<|.Z (BG Ah I)<|CV) λh=>Xy) λh=>Ei
def bn (j:Aj)(O:(AV->Int->Int->AB AV)):AV->Int->Int->AB AV:=λJ v2 L=>(cond (L<(j.length:Int)) ((JK j v2).bind λM=>(cond (!M.2) (some true) ((Oq J v2).bind λU=>some U)).bind λY=>(cond Y (some J) ((CZ 8 J [v2]).bind λq=>(aBT j M.1).bind λI=>(cond (!I.2) (some q) (O q I.1 (Ar (L+1))))))) (some J))
def aSQ (j:Aj):AV->Int->Int->AB AV:=iM (bn j) Aw
def a0U (q:Aj)(j:Int):AB AV:=aSQ q [] j 0
def aWO :=FZ func284 rfl a0U BI AU CO λq I r h=>BL<|.f (C9 3 1)<|.aT<|BL<|.Y (Gn DL zero3 [])<|AZ<|Aa<|AZ<|Ak<|PO (λJ j M=>⟨Az 49 [(0,BI q),(5,.aQ 0),(6,AU j),(7,AU M)],[(CO J)],0⟩) _ _ _ _ _ (Ag [AQ 1]) h<|λJ j M L O U h=>Aa<|AP 2<|.Z (BK Au q)<|Bg h (λh=>Aa<|Ak<|AO h λJ j h=>AP 2<|.X (KD j)<|Aa<|AP 2<|AO h λj U h=>.mg 28 4 (Ai j) (.bi U (k2:=λh=>AO h λJ j h=>.a 2<|.Z (x:=(Ai J)) (dw (eY:=[.aQ 0,AU O]) (fF:=[.d (.sl (List.map Ah L)),AU O]) (Qc j) aGZ rfl ⟨⟨3,1,_,A8,rfl⟩,rfl,trivial⟩ rfl)<|CU))<|.aT<|BF h mX λh=>AO h λj L h=>AP 2<|.p (Dj DL zero3 [Ah O])<|.Y (DX (k:=0) Ah L DL A8 (λ_=>rfl) Ba)<|AO h λj L h=>AP 2<|.X (aZ1 L)<|Aa<|AZ<|BF h (λh=>AZ<|Jt) λh=>Cc<|Cc<|M _ _ _ _ (Ag [AQ 2]) h) λh=>Hf
def aEY (j:AV)(q:Int)(k2:(Int->AB Int)):Int->AB Int:=λI=>(cond (I<(j.length:Int)) ((Aq j I).bind λJ=>(cond (J==q) (some I) (k2 (Ar (I+1))))) (some (j.length:Int)))
def aT4 (j:AV)(q:Int):Int->AB Int:=bg (aEY j q) Aw
def a2q (j:AV)(q:Int):AB Int:=aT4 j q 0
def ab4 :=Dc func443 rfl a2q BZ AU AU λj q r h=>AZ<|Aa<|AZ<|Ak<|Dq (λI=>⟨Az 21 [(0,BZ j),(1,AU q),(5,AU I)],[],0⟩) _ _ _ (Ag []) h<|λI J L M h=>Aa<|AP 2<|.Z (BK Ah j)<|Bg h (λh=>Aa<|Ak<|AO h λI J h=>AP 2<|.p (BG Ah J)<|zI) λh=>CW<|AP 1<|.Z (BK Ah j)<|CV
def aEk (q:AV)(j:AV)(k3:(Int->AB Int)):Int->AB Int:=λv2=>(cond (v2<(q.length:Int)) ((Aq q v2).bind λI=>(Oq j I).bind λJ=>(cond J ((Aq q v2).bind λL=>(a2q j L).bind λM=>some M) (k3 (Ar (v2+1))))) (some (j.length:Int)))
def aUv (q:AV)(j:AV):Int->AB Int:=bg (aEk q j) Aw
def wG (I:Aj)(j:AV)(q:Int):AB Int:=(a0U I q).bind λJ=>aUv J j 0
def aOl :=JF func416 rfl wG BI BZ AU AU λM j J r h=>AZ<|AO h λI q h=>AP 2<|.X (aWO q).view<|Aa<|AZ<|Ak<|Dq (λq=>⟨Az 32 [(1,BZ j),(7,BZ I),(8,AU q)],[],0⟩) _ _ _ (Ag []) h<|λq O L U h=>Aa<|AP 2<|.Z (BK Ah I)<|Bg h (λh=>Aa<|Ak<|Bj h λI q O U h=>AP 3<|.p (BG Ah q)<|.a 1<|.ca (Qc U)<|.aT<|BF h (λh=>Bj h λI q O L h=>AP 3<|.p (BG Ah q)<|.a 1<|.X (ab4 L)<|CV) λh=>TD) λh=>CW<|AP 1<|.Z (BK Ah j)<|CV
def a2l (q:Aj)(j:AV)(I:Int)(J:Int):AB Ac:=(wG q j I).bind λL=>(wG q j J).bind λM=>(cond (L != M) (some (decide (L>M))) ((JK q I).bind λO=>(JK q J).bind λU=>(cond (O.1.Time != U.1.Time) (some (decide (O.1.Time<U.1.Time))) (some (decide (I<J))))))
def ajF {eU aDE aNk aNl r}(h:a2l eU aDE aNk aNl=some r):Dh 363 [BI eU,BZ aDE,AU aNk,AU aNl] [] (Ai r) []:=Dy func363 rfl<|AZ<|Bj h λq j J I h=>AP 3<|.ca (aOl j)<|.a 3<|.X (aOl I)<|Aa<|AZ<|BF h Bo λh=>AO h λq j h=>AP 2<|.X (KD j)<|AO h λq j h=>AP 2<|.X (KD j)<|a1d
def zK (k3:(AV->Int->AB AV))(v2:Int)(j:AV):AB AV:=k3 j (Ar (v2+1))
def Fin (I:(Int->AB AV))(q:Int)(J:AV)(j:AV)(v2:Int)(k3:(AV->Int->AB AV))(L:Ac):AB AV:=(cond L (I (Ar (q+1))) ((Gx J q ((J).length)).bind λM=>(CZ 8 [] M).bind λO=>(Gx J 0 q).bind λU=>(Aq j v2).bind λY=>(CZ 8 U [Y]).bind λZ=>(CZ 8 Z O).bind λx23=>zK k3 v2 x23))
def aJx (M:AV)(j:AV)(v2:Int)(J:Aj)(q:AV)(k3:(AV->Int->AB AV))(L:(Int->AB AV)):Int->AB AV:=λI=>(cond (I<(M.length:Int)) ((Aq M I).bind λO=>(Aq j v2).bind λU=>(a2l J q O U).bind λY=>Fin L I M j v2 k3 Y) (Fin L I M j v2 k3 false))
def aS1 (J:AV)(q:AV)(v2:Int)(I:Aj)(j:AV)(k3:(AV->Int->AB AV)):Int->AB AV:=bg (aJx J q v2 I j k3) Aw
def aFh (j:AV)(I:Aj)(q:AV)(k3:(AV->Int->AB AV)):AV->Int->AB AV:=λJ v2=>(cond (v2<(j.length:Int)) ((Aq j v2).bind λO=>(JK I O).bind λU=>(cond (!U.2) (some true) ((Aq j v2).bind λL=>(Oq J L).bind λM=>some M)).bind λY=>(cond Y (zK k3 v2 J) (aS1 J j v2 I q k3 0))) (some J))
def aYI (q:AV)(I:Aj)(j:AV):AV->Int->AB AV:=aS (aFh q I j) Aw
def aAk (I:Aj)(j:AV)(q:AV):AB AV:=aYI q I j [] 0
def aZa {I j q r}(h:aAk I j q=some r):Dh 285 [BI I,BZ j,BZ q] [] (.aQ 0) [(CO r)]:=Dy func285 rfl<|BL<|.f (C9 3 1)<|.aT<|BL<|.Y (Gn DL zero3 [])<|Aa<|AZ<|Ak<|DJ (λL J=>⟨Az 76 [(0,BI I),(1,BZ j),(2,BZ q),(7,.aQ 0),(8,AU J)],[(CO L)],0⟩) _ _ _ _ (Ag [AQ 1]) h<|λL J M U O h=>Aa<|AP 2<|.Z (BK Ah q)<|Bg h (λh=>D9 (λ(v5:(AA Int))=>(λI j q L v5=>⟨Az 76 [(0,BI I),(1,BZ j),(2,BZ q),(7,.aQ 0),(8,AU L)],[(CO v5)],0⟩) I j q O v5) (λv5=>zK J O v5) r (λv5 h=>Oc)<|λL=>Ak<|Bj h λM Z x7 x8 h=>AP 3<|.p (BG Ah Z)<|.a 1<|.X (KD x8)<|Aa<|AP 2<|AO h λM Z h=>.mg 31 7 (Ai M) (.bi Z (k2:=λh=>Bj h λL J M O h=>.a 3<|.p (BG Ah J)<|.a 1<|.Z (x:=(Ai M)) (dw (eY:=[.aQ 0,AU L]) (fF:=[.d (.sl (List.map Ah U)),AU L]) (Qc O) aGZ rfl ⟨⟨3,1,_,A8,rfl⟩,rfl,trivial⟩ rfl)<|CU))<|.aT<|BF h (λh=>CW<|L U (Ag [AQ 0]) h) λh=>AZ<|Aa<|Ak<|Dq (λL=>⟨Az 76 [(0,BI I),(1,BZ j),(2,BZ q),(7,.aQ 0),(8,AU O),(11,AU L)],[(CO U)],0⟩) _ _ _ (Ag [AQ 0]) h<|λM Z x7 x8 h=>Aa<|D9 (λ(Y:Ac)=>(λI j q L J M Y=>⟨Az 76 [(0,BI I),(1,BZ j),(2,BZ q),(7,.aQ 0),(8,AU L),(11,AU J),(55,Ai Y)],[(CO M)],0⟩) I j q O x8 U Y) (λY=>Fin Z x8 U q O J Y) r (λY h=>Bg h (λh=>Ak<|Cc<|x7 _ _ (Ag [AQ 0]) h) λh=>CW<|Bj h λJ M O Z h=>BL<|.f (Gn DL zero3 [])<|.a 2<|.conv _ (IW (e:=3) (s:=1) 0 (xs:=List.map Ah U) A8)<|.p (Ou Ah M O5 (λ_=>rfl) JW Fl (λ_=>rfl) rfl)<|.f (DX (k:=1) Ah Z DL A8 (λ_=>rfl) Ba)<|.conv _ (IW (e:=3) (s:=1) 2 (xs:=List.map Ah O) A8)<|.aW<|Hr h λJ M U O Z x7 h=>AO h λJ x8 h=>Bl.aMu [Qg 3 (Go.Op.slice 24 (Go.Operand.tmp 63) none (some (Go.Operand.tmp 64)) (some (Go.Operand.tmp 65))) (λL J U=>aG0 Ah M JW Fl (λ_=>rfl) U),Qg 6 (Go.Op.indexAddr 24 (Go.Operand.tmp 67) (Go.Operand.tmp 68)) (λL J M=>Uw (k:=.i64) Ah O JW Fl A8 M),Qg 8 (Go.Op.buildSlice 24 1 #[(0,(Go.Operand.tmp 70))]) (λL J M=>aBa DL zero3 A8 A8 (DZ A8) [AU U] [Ah U] A8 A8 A8 A8 M),Wx 9 (Go.Op.call { callee:=(Go.Callee.builtin Go.Builtin.append),args:= #[(Go.Operand.tmp 66),(Go.Operand.tmp 71)],argTypes:= #[24,24] }) [.dead,.dead,.dead] [.dead,.dead,.dead,(CO Z)] (λL J=>aeB Ah x7 O5 DL (λ_=>rfl) Ba J),Wx 11 (Go.Op.call { callee:=(Go.Callee.builtin Go.Builtin.append),args:= #[(Go.Operand.tmp 72),(Go.Operand.tmp 73)],argTypes:= #[24,24] }) [.dead,.dead,.dead,(CO Z)] [.dead,.dead,.dead,.dead,(CO J)] (λL J=>DX (k:=3) Ah x8 DL A8 (λ_=>rfl) Ba J)] 129<|L J (Ag [AQ 4]) h)<|λL=>Ed h (λJ h=>Hr h λM O Z x7 x9 x10 h=>DR A8 A8 A8 (.a 2<|.p (Iy (k:=0) (e':=3) (s:=1) Ah U A8 JW)<|.a 1<|.c (BM some J)<|.a 4<|.p (Ht (e':=3) (kd:=.i64) Ah O (k:=0) A8 JW Fl)<|.p (x:=(AU M)) (Jg (e:=3) (size:=1) (k:=0) (i:=(x8).toNat) (off:=0) Ah A8 A8 (GV O).2 Fl (DZ A8) (λ_=>rfl))<|.a 2<|.p (BG Ah x7)<|.a 1<|.ca (ajF x10)<|.a 1<|.nil _)<|L x9 (Ag [AQ 0]) h) λJ h=>DR A8 A8 A8 (.a 2<|.p (Iy (k:=0) (e':=3) (s:=1) Ah U A8 JW)<|.a 1<|.c (BM some J)<|.a 12<|.nil _)<|L false (Ag [AQ 0]) h) λh=>Hf
def aGe (I:(Int->Q5->AB Q5)):Int->Q5->AB Q5:=λq j=>(cond (q<(j.Same.length:Int)) ((Aq j.Same q).bind λJ=>(Aq j.Same q).bind λL=>(Aq j.Same q).bind λM=>(dh j.Last J.Kind L.Key M.Id).bind λO=>I (Ar (q+1)) ({ j with Last:=O })) (some j))
def aOj  :Int->Q5->AB Q5:=aS (aGe) Aw
def a09 (M:AV)(O:AV)(j:Aj)(q:(BX×AV))(I:AV)(J:BX)(U:AV):AB Q5:=(gq M O).bind λY=>(aAk j U Y).bind λL=>(fA j (({ { { { YF with Same:=q.1 }with Power:=I }with First:=J }with Others:=L }).First) (({ { { { YF with Same:=q.1 }with Power:=I }with First:=J }with Others:=L }).Others)).bind λZ=>aOj 0 ({ Same:=q.1,Power:=I,First:=J,Others:=L,Last:=Z }:Q5)
def a7r (j:Aj)(q:G9):AB Q5:=(a0u q).bind λI=>(a2S j q).bind λM=>(a4I j M).bind λO=>(aAB j O).bind λJ=>(fA j (({ { YF with Same:=I.1 }with Power:=J }).Same) (({ { YF with Same:=I.1 }with Power:=J }).Power)).bind λU=>(Z5 (({ { { YF with Same:=I.1 }with Power:=J }with First:=U }).First) 3 CS).bind λL=>(cond L.2 ((a0U j L.1).bind λY=>a09 M O j I J U Y) (a09 M O j I J U []))
def akb :=Dc func217 rfl a7r BI JL (λr=>.d (dP r)) λI q r h=>AZ<|AZ<|AO h λJ j h=>AP 1<|.f (x:=.eu [.aQ 2,.aQ 3]) (E5 [] [JL q] (aUg j))<|.a 2<|.conv _ (IW (e:=147) (s:=3) 2 (xs:=List.map BQ J.1) A8)<|.a 1<|.conv _ (IW (e:=3) (s:=1) 3 (xs:=List.map Ah J.2) A8)<|.aW<|AO h λj M h=>AP 2<|.X (ao5 M).view<|AO h λM O h=>AP 2<|.X (aqO O).view<|AO h λO L h=>AP 2<|.X (aYf L).view<|AO h λL Y h=>AP 5<|.X (aOT Y)<|AZ<|D9 (λ(U:(AA Int))=>(λI J j M O L U=>⟨Az 89 [(0,BI I),(4,.ptr 0 0),(5,.ptr 1 0),(6,BZ J),(7,BZ j),(8,BZ U)],[.box (BD (dP YF)),.box (BD (dP ({ { { YF with Same:=M.1 }with Power:=O }with First:=L })))],0⟩) I j M J O L U) (λU=>a09 j M I J O L U) r (λU h=>Bj h λJ O L Y h=>AP 4<|.ca (aA7 O).view<|.X (aZa Y).view<|AO h λJ j h=>AP 5<|.X (aOT j)<|Aa<|AZ<|Ak<|DJ (λJ j=>⟨Az 89 [(4,.ptr 0 0),(5,.ptr 1 0),(11,AU J)],[.box (BD (dP YF)),.box (BD (dP j))],0⟩) _ _ _ _ (Ag [AQ 0,AQ 1]) h<|λJ j M O L h=>Aa<|AP 3<|.Z (BK BQ L.Same)<|Bg h (λh=>Aa<|Ak<|Hr h λJ j O Y x7 x8 h=>AO h λx9 x10 h=>DR A8 A8 A8 (.a 5<|.p (BG BQ j)<|.a 5<|.p (BG BQ Y)<|.a 5<|.p (BG BQ x8)<|.a 2<|.ca (aHh x10).view<|.a 2<|.nil _)<|aGA) λh=>CW<|AZ<|ES<|by rw[←CM h];exact⟨[.d (dP L)],[],⟨⟨0,BD (dP L),true,5,A8,A8,A8,aWY,DZ A8,O5,A8⟩,trivial⟩,A8,A8,A8⟩)<|λZ=>AO h λJ j h=>AP 2<|.X (a9H j)<|AZ<|BF h (λh=>AO h λj M h=>CQ<|.a 2<|.ca (aWO M).view<|.aN<|Z j (Ag [AQ 0,AQ 1]) h) λh=>Z [] (Ag [AQ 0,AQ 1]) h
def yX (q:Aj)(j:G9):AB BX:=(cond ((j.length:Int)==0) (some []) (cond ((j.length:Int)==1) ((Aq j 0).bind λI=>some I) ((a7r q j).bind λJ=>some J.Last)))
def aUJ :=Dc func161 rfl yX BI JL DU λI j r h=>AZ<|Aa<|AP 1<|.Z (BK (BR BQ) j)<|BF h Bo λh=>Aa<|AP 1<|.Z (BK (BR BQ) j)<|BF h (λh=>AO h λJ q h=>AP 1<|.Z (BG (BR BQ) q)<|CV) λh=>AO h λJ q h=>AP 2<|.X (akb q)<|CV
def a1i (j:BX)(I:Int)(q:BH)(k2:(Int->AB Ac)):Int->AB Ac:=λJ=>(cond (J<(j.length:Int)) ((Aq j J).bind λL=>(cond (L.Kind==I) ((Aq j J).bind λM=>some (M.Key.toList==q.toList)) (some false)).bind λO=>(cond O (some true) (k2 (Ar (J+1))))) (some false))
def aCz (q:BX)(I:Int)(j:BH):Int->AB Ac:=bg (a1i q I j) Aw
def ZK (q:BX)(I:Int)(j:BH):AB Ac:=aCz q I j 0
def aA0 :=JF func327 rfl ZK DU AU CP Ai λq L j r h=>AZ<|Aa<|AZ<|Ak<|Dq (λI=>⟨Az 30 [(0,DU q),(1,AU L),(2,CP j),(7,AU I)],[],0⟩) _ _ _ (Ag []) h<|λI J M O h=>Aa<|AP 2<|.Z (BK BQ q)<|Bg h (λh=>Aa<|Ak<|AO h λI J h=>AP 2<|.p (BG BQ J)<|.a 4<|AO h λI J h=>.mg 21 8 (Ai I) (.bi J (λh=>AO h λI J h=>.a 2<|.Z (BG BQ J)<|CU))<|.aT<|BF h Bo λh=>qO) λh=>Ei
def a2F (U:Aj)(j:Int)(q:BX)(I:(BX->Int->AB Int))(J:Ac):AB Int:=(cond J (some 16) ((Aq U j).bind λL=>(Aq U j).bind λM=>(CZ 32 q [(⟨L.Kind,M.Key,0⟩:BN)]).bind λO=>I O (Ar (j+1))))
def aCi (I:Aj)(M:BX)(J:Ad)(L:(BX->Int->AB Int)):BX->Int->AB Int:=λq j=>(bif j<(I.length:Int) then(Aq I j).bind λO=>(Aq I j).bind λU=>(ZK M O.Kind U.Key).bind λY=>(cond (!Y) (a2F I j q L true) ((Aq I j).bind λZ=>(Aq I j).bind λx29=>(ZK q Z.Kind x29.Key).bind λZp=>a2F I j q L Zp))else(cond (J.Kind != 1) ((ZK q 1 CS).bind λx33=>some (!x33)) (some false)).bind λx31=>(cond x31 (some 16) (some 0)))
def aHe (I:Aj)(q:BX)(j:Ad):BX->Int->AB Int:=aS (aCi I q j) Aw
def aL9 (q:Aj)(j:Ad)(M:(Int->AB Int)):Int->AB Int:=λI=>(bif I<(q.length:Int) then(Aq q I).bind λJ=>(cond (!(J.Room.toList==j.Room.toList)) (some 13) (M (Ar (I+1))))else(pK j).bind λL=>aHe q L j [] 0)
def aK8 (q:Aj)(j:Ad):Int->AB Int:=bg (aL9 q j) Aw
def aJw (j:Ad)(q:Aj)(k2:(Int->AB Int)):Int->AB Int:=λI=>(bif I<(j.bQ.length:Int) then(Aq j.bQ I).bind λJ=>(JK q J).bind λL=>(cond (!L.2) (some 14) (k2 (Ar (I+1))))else(fQ q j.bQ).bind λM=>aK8 M j 0)
def aTC (j:Ad)(q:Aj):Int->AB Int:=bg (aJw j q) Aw
def aAO (j:Aj)(q:Ad):AB Int:=aTC q j 0
def aoL :=Dc func251 rfl aAO BI Cm AU λY j r h=>AZ<|Aa<|AZ<|Ak<|Dq (λq=>⟨Az 107 [(0,BI Y),(3,.ptr 0 0),(5,AU q)],[.box (BD (Au j))],0⟩) _ _ _ (Ag [AQ 0]) h<|λq I M J h=>Aa<|AP 3<|.Z (BK Ah j.bQ)<|Bg h (λh=>Aa<|Ak<|Bj h λq I J Z h=>AP 4<|.p (BG Ah I)<|.a 1<|.X (KD Z)<|AZ<|a7p) λh=>CW<|AO h λq I h=>AP 3<|.X (a95 I).view<|Aa<|AZ<|Ak<|Dq (λI=>⟨Az 107 [(3,.ptr 0 0),(8,BI q),(9,AU I)],[.box (BD (Au j))],0⟩) _ _ _ (Ag [AQ 0]) h<|λI M J Z h=>Aa<|AP 2<|.Z (BK Au q)<|Bg h (λh=>Aa<|Ak<|AO h λq I h=>Ee A8 A8 A8 (.a 2<|.p (BG Au I)<|.a 5<|.nil _)<|a3e) λh=>CW<|AO h λI M h=>AP 1<|.X (aFm M).view<|BL<|.f (C9 147 3)<|.aT<|Aa<|AZ<|Ak<|DJ (λM J=>⟨Az 107 [(3,.ptr 0 0),(8,BI q),(10,DU I),(11,.aQ 1),(12,AU J)],[.box (BD (Au j)),(Lc M)],0⟩) _ _ _ _ (Ag [AQ 0,AQ 1]) h<|λM J Z O U h=>Aa<|AP 2<|.Z (BK Au q)<|Bg h (λh=>Aa<|Ak<|Aa<|D9 (λ(L:Ac)=>(λq I M j J L=>⟨Az 107 [(3,.ptr 0 0),(8,BI q),(10,DU I),(11,.aQ 1),(12,AU M),(84,Ai L)],[.box (BD (Au j)),(Lc J)],0⟩) q I U j O L) (λL=>a2F q U O J L) r (λL h=>BF h Bo λh=>Hr h λq I M J O U h=>DR A8 A8 A8 (.a 3<|.p (BG Au I)<|.a 4<|.p (BG Au J)<|.a 3<|.p (Dj gX Qy [BQ (⟨q.Kind,M.Key,0⟩:BN)])<|.f (DX (k:=1) BQ U gX A8 (λ_=>rfl) Ba)<|.a 1<|.nil _)<|Cc<|Z _ _ _ (Ag [AQ 0,AQ 2]) h)<|λq=>Hr h λM J Z U x8 x9 h=>Ed h (λO h=>DR A8 A8 A8 (.a 3<|.p (BG Au J)<|.a 4<|.p (BG Au U)<|.a 2<|.ca (aA0 x9)<|.a 1<|.c (BM some O)<|.a 13<|.nil _)<|q true (Ag [AQ 0,AQ 1]) h) λx10 h=>Hr h λx11 x12 x13 x14 x15 x16 h=>DR A8 A8 A8 (.a 3<|.p (BG Au J)<|.a 4<|.p (BG Au U)<|.a 2<|.ca (aA0 x9)<|.a 1<|.c (BM some x10)<|.a 3<|.p (BG Au x12)<|.a 4<|.p (BG Au x14)<|.a 2<|.p (x:=(Ai x15)) (dw (eY:=[.aQ 1,AU x11.Kind,CP x13.Key]) (fF:=[.d (.sl (List.map BQ O)),AU x11.Kind,CP x13.Key]) (aA0 x16) aLN rfl ⟨⟨147,3,_,A8,rfl⟩,rfl,rfl,trivial⟩ rfl)<|.a 1<|.nil _)<|q x15 (Ag [AQ 0,AQ 1]) h) λh=>CW<|Aa<|AP 3<|AO h λq I h=>.mg 102 4 (Ai q) (.bi I (λh=>AO h λq I h=>.a 1<|.Z (x:=(Ai q)) (dw (eY:=[.aQ 1,AU 1,CP CS]) (fF:=[.d (.sl (List.map BQ O)),AU 1,CP CS]) (aA0 I) aLN rfl ⟨⟨147,3,_,A8,rfl⟩,rfl,rfl,trivial⟩ rfl)<|CU))<|.aT<|Ir
def a9I (k3:(Aj->Int->AB Aj))(v2:Int)(j:Aj):AB Aj:=k3 j (Ar (v2+1))
def aKP (j:BX)(q:Aj)(k3:(Aj->Int->AB Aj)):Aj->Int->AB Aj:=λI v2=>(cond (v2<(j.length:Int)) ((Aq j v2).bind λM=>(JK q M.Id).bind λL=>(cond L.2 ((CZ 376 I [L.1]).bind λJ=>a9I k3 v2 J) (a9I k3 v2 I))) (some I))
def aUk (j:BX)(q:Aj):Aj->Int->AB Aj:=aS (aKP j q) Aw
def uQ (j:Aj)(q:BX):AB Aj:=aUk q j [] 0
def aST :=FZ func190 rfl uQ BI DU Et λq j r h=>BL<|.f (C9 56 29)<|.aT<|BL<|.Y (Gn Gl Jv [])<|Aa<|AZ<|Ak<|DJ (λI J=>⟨Az 32 [(0,BI q),(1,DU j),(5,.aQ 0),(6,AU J)],[(Et I)],0⟩) _ _ _ _ (Ag [AQ 1]) h<|λI J M U O h=>Aa<|AP 2<|.Z (BK BQ j)<|Bg h (λh=>D9 (λ(L:(AA Ad))=>(λq j I L=>⟨Az 32 [(0,BI q),(1,DU j),(5,.aQ 0),(6,AU I)],[(Et L)],0⟩) q j O L) (λL=>a9I J O L) r (λL h=>Oc)<|λI=>Ak<|Bj h λJ M O Y h=>AP 3<|.p (BG BQ M)<|.a 2<|.X (KD Y)<|AZ<|BF h (λh=>AO h λJ M h=>CQ<|.a 2<|.p (Dj Gl Jv [Au O.1])<|.f (DX (k:=0) Au M Gl A8 (λ_=>rfl) Ba)<|.aN<|I J (Ag [AQ 2]) h) λh=>I U (Ag [AQ 0]) h) λh=>Hf
def aiu (j:FP)(q:Int)(k3:(Int->Io->AB (Io×Ac))):Int->Io->AB (Io×Ac):=λI v2=>(cond (I<(j.length:Int)) ((Aq j I).bind λJ=>(cond (J.Id==q) ((Aq j I).bind λL=>some (L,true)) (k3 (Ar (I+1)) v2))) (some (Wh,false)))
def alP (q:FP)(j:Int):Int->Io->AB (Io×Ac):=aS (aiu q j) Aw
def aB3 (q:FP)(j:Int):AB (Io×Ac):=alP q j 0 Wh
def aMS {aAb kZ r}(h:aB3 aAb kZ=some r):Dh 106 [.aQ 0,AU kZ] [(Qs aAb)] (.eu [YU r.1,Ai r.2]) [(Qs aAb)]:=Dy func106 rfl<|AZ<|Aa<|AZ<|Ak<|DJ (λj q=>⟨Az 25 [(0,.aQ 0),(1,AU kZ),(4,.ptr 1 0),(6,AU j)],[(Qs aAb),.box (BD (Lj q))],1⟩) _ _ _ _ (Ag [AQ 0,AQ 1]) h<|λj q L J M h=>Aa<|AP 2<|.Z (Iy (k:=0) (e':=141) (s:=4) Lj aAb A8 a2Q)<|Bg h (λh=>Aa<|Ak<|AO h λj q h=>AP 2<|.p (Ht (e':=141) (kd:=.i64) Lj q (k:=0) A8 a2Q Zq)<|.a 1<|.Z (x:=(AU j.Id)) (Jg (e:=141) (size:=4) (k:=0) (i:=(J).toNat) (off:=0) Lj A8 A8 (GV q).2 Fl (DZ A8) (λ_=>rfl))<|BF h (λh=>AO h λj q h=>AP 2<|.p (Ht (e':=141) (kd:=.i64) Lj q (k:=0) A8 a2Q Zq)<|.Z (x:=(YU j)) (Jg (e:=141) (size:=4) (k:=0) (i:=(J).toNat) (off:=0) Lj A8 A8 (GV q).2 Zq (DZ A8) aCn rfl)<|ES<|by rw[←CM h];exact⟨[YU j,Ai true],[AQ 0],⟨⟨1,BD (Lj j),true,4,A8,A8,A8,Zq,DZ A8,aCn,A8⟩,FY A8,trivial⟩,A8,A8,A8⟩) λh=>uU) λh=>CW<|AZ<|ES<|by rw[←CM h];exact⟨[YU Wh,Ai false],[AQ 0],⟨⟨1,BD (Lj Wh),true,4,A8,A8,A8,Zq,DZ A8,aCn,A8⟩,FY A8,trivial⟩,A8,A8,A8⟩
def aBA (j:(Int->Int->AB Int))(q:Int)(I:Int):AB Int:=j I (Ar (q+1))
def aJN (q:Ad)(I:FP)(J:Aj)(j:BX)(k5:(Int->Int->AB Int)):Int->Int->AB Int:=λL M=>(cond (M<(q.bQ.length:Int)) ((Aq q.bQ M).bind λx9=>(aB3 I x9).bind λO=>(cond (L==0) (some (O.1.Err != 0)) (some false)).bind λU=>(cond U (aBA k5 M 16) (aBA k5 M L))) (cond (L != 0) (some L) ((uQ J j).bind λY=>(rG q Y).bind λZ=>some Z)))
def aMM (q:Ad)(I:FP)(J:Aj)(j:BX):Int->Int->AB Int:=aS (aJN q I J j) Aw
def a04 (q:Ad)(I:FP)(J:Aj)(j:BX)(v2:Int):AB Int:=aMM q I J j v2 0
def a0N (I:Aj)(J:FP)(q:Ad)(j:BX):AB Int:=(aAO I q).bind λO=>(cond (O==0) ((a0q I q).bind λL=>(rG q L).bind λM=>a04 q J I j M) (a04 q J I j O))
def agc {J q I j r}(h:a0N J q I j=some r):Dh 181 [BI J,.aQ 0,Cm I,DU j] [(Qs q)] (AU r) [(Qs q)]:=Dy func181 rfl<|AZ<|AO h λM L h=>AP 2<|.X (aoL L)<|D9 (λ(v2:Int)=>(λJ j q I v2=>⟨Az 55 [(0,BI J),(1,.aQ 0),(3,DU j),(6,.ptr 1 0),(9,AU v2)],[(Qs q),.box (BD (Au I))],1⟩) J j q I v2) (λv2=>a04 I q J j v2) r (λv2 h=>Aa<|AZ<|Ak<|DJ (λM L=>⟨Az 55 [(0,BI J),(1,.aQ 0),(3,DU j),(6,.ptr 1 0),(9,AU M),(10,AU L)],[(Qs q),.box (BD (Au I))],1⟩) _ _ _ _ (Ag [AQ 0,AQ 1]) h<|λM L O Z U h=>Aa<|AP 3<|.Z (BK Ah I.bQ)<|Bg h (λh=>D9 (λ(Y:Int)=>(λJ j M q I Y=>⟨Az 55 [(0,BI J),(1,.aQ 0),(3,DU j),(6,.ptr 1 0),(9,AU Y),(10,AU M)],[(Qs q),.box (BD (Au I))],1⟩) J j U q I Y) (λY=>aBA L U Y) r (λY h=>rW)<|λM=>Ak<|Bj h λL O U x6 h=>AP 4<|.p (BG Ah O)<|.a 1<|.Y (x:=.eu [YU U.1,Ai U.2]) (E5 [.ent 0] [.aQ 0,AU L] (aMS x6))<|AP 2<|AO h λL O h=>.mg 42 4 (Ai L) (.bi O)<|.aT<|BF h (λh=>Cc<|M 16 (Ag [AQ 0,AQ 1]) h) λh=>M Z (Ag [AQ 0,AQ 1]) h) λh=>CW<|Aa<|AZ<|BF h mX λh=>Bj h λM L O Z h=>Ee A8 A8 A8 (.a 3<|.ca (aST L).view<|.ca (aHW Z)<|.a 1<|.nil _)<|Py)<|λL=>AZ<|BF h (λh=>Bj h λM O Z U h=>DR A8 A8 A8 (.a 3<|.ca (aRQ O).view<|.ca (aHW U)<|.a 1<|.nil _)<|L Z (Ag [AQ 0,AQ 1]) h) λh=>L M (Ag [AQ 0,AQ 1]) h
def wQ (J:(FP->Int->AB FP))(L:Int)(j:FP)(q:Io):AB FP:=(CZ 64 j [q]).bind λI=>J I (Ar (L+1))
def tZ (J:Aj)(L:(Ad×Ac))(Y:(FP->Int->AB FP))(Z:Int)(I:FP)(j:Io):AB FP:=(a0N J I L.1 j.Before).bind λq=>(cond ((({ { j with Err:=q }with After:=({ j with Err:=q }).Before }).Err)==0) ((Ug L.1.Kind).bind λM=>some M) (some false)).bind λO=>(cond O ((dh (({ { j with Err:=q }with After:=({ j with Err:=q }).Before }).Before) L.1.Kind L.1.Key L.1.Id).bind λU=>wQ Y Z I ({ { { j with Err:=q }with After:=({ j with Err:=q }).Before }with After:=U })) (wQ Y Z I ({ { j with Err:=q }with After:=({ j with Err:=q }).Before })))
def aKh (I:(Ad×Ac))(j:Aj)(k4:(FP->Int->AB FP))(v3:Int)(J:(G9->Int->FP->AB FP)):G9->Int->FP->AB FP:=λL M q=>(cond (M<(I.1.bP.length:Int)) ((Aq I.1.bP M).bind λO=>(aB3 q O).bind λU=>(CZ 24 L [U.1.After]).bind λY=>J Y (Ar (M+1)) q) (cond ((L.length:Int)>0) ((yX j L).bind λZ=>tZ j I k4 v3 q ({ (⟨I.1.Id,[],[],0⟩:Io)with Before:=Z })) (tZ j I k4 v3 q (⟨I.1.Id,[],[],0⟩:Io))))
def aLj (q:(Ad×Ac))(j:Aj)(I:(FP->Int->AB FP))(J:Int):G9->Int->FP->AB FP:=iM (aKh q j I J) Aw
def aI3 (I:AV)(j:Aj)(J:(FP->Int->AB FP)):FP->Int->AB FP:=λv2 q=>(cond (q<(I.length:Int)) ((Aq I q).bind λL=>(JK j L).bind λM=>aLj M j J q [] 0 v2) (some v2))
def aRB (q:AV)(j:Aj):FP->Int->AB FP:=aS (aI3 q j) Aw
def yx (j:Aj):AB FP:=(zy j).bind λq=>aRB q j [] 0
def aMT :=JM func125 rfl yx BI Qs λj r h=>BL<|.f (C9 141 4)<|.aT<|BL<|.f (C9 141 4)<|.aT<|AO h λJ q h=>AP 1<|.X (aLw q).view<|Aa<|AZ<|Ak<|DJ (λq L=>⟨Az 95 [(0,BI j),(3,.aQ 0),(4,BZ J),(5,AU L)],[(Qs q)],0⟩) _ _ _ _ (Ag [AQ 1]) h<|λq L Y x5 x6 h=>Aa<|AP 2<|.Z (BK Ah J)<|Bg h (λh=>Aa<|Ak<|Bj h λq x5 Z x8 h=>AP 3<|.p (BG Ah x5)<|.a 1<|.X (KD x8)<|BL<|.f (C9 26 1)<|.aT<|Aa<|AZ<|Ak<|PO (λq L Y=>⟨Az 95 [(0,BI j),(3,.aQ 0),(4,BZ J),(5,AU x6),(6,.ptr 1 0),(8,.aQ 2),(9,AU L)],[(Qs Y),.box (BD (Au Z.1)),.arr 26 1 (List.map (BR BQ) q)],0⟩) _ _ _ _ _ (Ag [AQ 0,AQ 1,AQ 2]) h<|λq x5 x8 x9 x10 x11 h=>Aa<|AP 3<|.Z (BK Ah Z.1.bP)<|Bg h (λh=>Aa<|Ak<|Bj h λJ q L Y h=>AP 4<|.p (BG Ah q)<|.a 1<|.Y (x:=.eu [YU L.1,Ai L.2]) (E5 [.ent 0] [.aQ 0,AU J] (aMS Y))<|AO h λJ q h=>CQ<|.a 3<|.p (Dj Zl zero26 [(BR BQ) L.1.After])<|.f (DX (k:=2) (BR BQ) q Zl A8 (λ_=>rfl) Ba)<|.aN<|Cc<|x8 _ _ _ _ (Ag [AQ 0,AQ 1,AQ 4]) h) λh=>CW<|AZ<|Si (λ(M:(AA Io)) (I:Io)=>(λj J q L M I=>⟨Az 95 [(0,BI j),(3,.aQ 0),(4,BZ J),(5,AU q),(6,.ptr 1 0),(12,.ptr 2 0)],[(Qs M),.box (BD (Au L.1)),.box (BD (Lj I))],0⟩) j J x6 Z M I) (λM I=>tZ j Z L x6 M I) r (λM I h=>AO h λq x5 h=>AP 5<|.Y (x:=(AU q)) (E5 [.ent 0] [BI j,.aQ 0,Cm Z.1,DU I.Before] (agc x5))<|AZ<|Si (λ(U:(AA Io)) (O:Io)=>(λj J q U O=>⟨Az 95 [(0,BI j),(3,.aQ 0),(4,BZ J),(5,AU q),(12,.ptr 1 0)],[(Qs U),.box (BD (Lj O))],0⟩) j J x6 U O) (λU O=>wQ L x6 U O) r (λU O h=>AO h λJ q h=>CQ<|.a 2<|.p (Dj aY2 aK6 [Lj O])<|.f (DX (k:=0) Lj q aY2 A8 (λ_=>rfl) Ba)<|.aN<|Cc<|Y _ _ _ (Ag [AQ 2]) h)<|λJ=>AP 3<|AO h λL Y h=>.mg 75 4 (Ai L) (.bi Y (λh=>AO h λJ q h=>.a 2<|.X (ZA q)<|CU))<|.aT<|BF h (λh=>AO h λL Y h=>CQ<|.a 8<|.ca (aHh Y).view<|.aN<|J M ({ { { I with Err:=q }with After:=({ I with Err:=q }).Before }with After:=L }) (Ag [AQ 0,AQ 2]) h) λh=>J M ({ { I with Err:=q }with After:=({ I with Err:=q }).Before }) (Ag [AQ 0,AQ 2]) h)<|λJ=>AP 1<|.Z (Iy (k:=2) (e':=26) (s:=1) (BR BQ) x9 A8 aEv)<|BF h (λh=>AO h λq L h=>CQ<|.a 2<|.conv _ (IW (e:=26) (s:=1) 2 (xs:=List.map (BR BQ) x9) A8)<|.ca (aUJ L)<|.aN<|J x11 ({ (⟨Z.1.Id,[],[],0⟩:Io)with Before:=q }) (Ag [AQ 0,AQ 1,AQ 3]) h) λh=>J x11 (⟨Z.1.Id,[],[],0⟩:Io) (Ag [AQ 0,AQ 1,AQ 3]) h) λh=>Hf
def ZV (j:(Int->Int->AB Int))(q:Int)(I:Int):AB Int:=j I (Ar (q+1))
def aEq (j:Aj)(U:FP)(M:(Int->Int->AB Int)):Int->Int->AB Int:=λv2 q=>(cond (q<(j.length:Int)) ((Aq j q).bind λY=>(U9 U Y.Id).bind λO=>(Aq j q).bind λI=>(cond (I.Kind==1) (some O.2) (some false)).bind λJ=>(cond J (some (O.1.Err==0)) (some false)).bind λL=>(cond L (ZV M q (Ar (v2+1))) (ZV M q v2))) (some v2))
def aYE (j:Aj)(q:FP):Int->Int->AB Int:=aS (aEq j q) Aw
def a8D (j:Aj):AB Int:=(yx j).bind λq=>aYE j q 0 0
def aiX :=Dk func105 rfl a8D BI AU λj r h=>AZ<|AO h λI J h=>AP 1<|.X (aMT J).view<|AZ<|Aa<|AZ<|Ak<|DJ (λJ q=>⟨Az 43 [(0,BI j),(3,MR I),(4,AU J),(5,AU q)],[],0⟩) _ _ _ _ (Ag []) h<|λJ q M U O h=>Aa<|AP 2<|.Z (BK Au j)<|Bg h (λh=>D9 (λ(L:Int)=>(λj I J L=>⟨Az 43 [(0,BI j),(3,MR I),(4,AU L),(5,AU J)],[],0⟩) j I O L) (λL=>ZV q O L) r (λL h=>a8K)<|λJ=>Ak<|Bj h λq M O Y h=>AP 3<|.p (BG Au M)<|.a 2<|.X (ZU Y)<|AO h λI q h=>AP 2<|.p (BG Au q)<|.a 3<|AO h λI q h=>.mg 32 2 (Ai I) (.bi q)<|.a 1<|AO h λI q h=>.mg 36 3 (Ai I) (Cb q)<|.aT<|BF h (λh=>Cc<|J (Ar (U+1)) (Ag []) h) λh=>J U (Ag []) h) λh=>Ei
def aFJ (j:Aj):AB Ac:=(NS j).bind λq=>(cond (q==0) ((a05 j).bind λI=>some (I==0)) (some false)).bind λJ=>some J
def abr :=Dk func124 rfl aFJ BI Ai λI r h=>AZ<|AO h λq j h=>AP 1<|.ca (aOU j)<|.a 1<|AO h λq j h=>.mg 6 4 (Ai q) (.bi j (λh=>AO h λq j h=>.a 1<|.X (aPD j)<|CU))<|.aW<|CV
def WS (j:Aj):AB FP:=(aFJ j).bind λq=>(cond (!q) (some []) ((yx j).bind λI=>some I))
def lJ :=JM func77 rfl WS BI Qs λj r h=>BL<|.f (C9 141 4)<|.aT<|Aa<|AO h λI q h=>AP 1<|.X (abr q)<|BF h (λh=>BL<|.f (C9 141 4)<|.aT<|JQ) λh=>AO h λI q h=>AP 1<|.Y (x:=.aQ 1) (JR [BI j] (aMT q))<|JQ
def VG (j:Bv)(q:Int)(k3:(Int->DN->AB (DN×Ac))):Int->DN->AB (DN×Ac):=λI v2=>(cond (I<(j.Rows.length:Int)) ((Aq j.Rows I).bind λJ=>(cond (J.Id==q) ((Aq j.Rows I).bind λL=>some (L,true)) (k3 (Ar (I+1)) v2))) (some (LK,false)))
def aVR (q:Bv)(j:Int):Int->DN->AB (DN×Ac):=aS (VG q j) Aw
def eS (q:Bv)(j:Int):AB (DN×Ac):=aVR q j 0 LK
def a4L :=Dc func42 rfl eS FC AU (λr=>.eu [Rw r.1,Ai r.2]) λj q r h=>AZ<|Aa<|AZ<|Ak<|DJ (λI J=>⟨Az 28 [(1,AU q),(2,.ptr 0 0),(4,.ptr 1 0),(6,AU I)],[.box (BD (EG j)),.box (BD (D5 J))],0⟩) _ _ _ _ (Ag [AQ 0,AQ 1]) h<|λI J M O U h=>Aa<|AP 3<|.Z (BK D5 j.Rows)<|Bg h (λh=>Aa<|Ak<|AO h λI J h=>AP 3<|.Z (BG D5 J)<|BF h (λh=>AO h λI J h=>AP 3<|.Z (BG D5 J)<|ES<|by rw[←CM h];exact⟨[Rw I,Ai true],[],⟨⟨1,BD (D5 I),true,4,A8,A8,A8,Oe,DZ A8,JU,A8⟩,FY A8,trivial⟩,A8,A8,A8⟩) λh=>aGA) λh=>CW<|AZ<|ES<|by rw[←CM h];exact⟨[Rw LK,Ai false],[],⟨⟨1,BD (D5 LK),true,4,A8,A8,A8,Oe,DZ A8,JU,A8⟩,FY A8,trivial⟩,A8,A8,A8⟩
def aDo (j:AV)(I:Bv)(q:Int)(k2:(Int->AB Ac)):Int->AB Ac:=λJ=>(cond (J<(j.length:Int)) ((Aq j J).bind λM=>(eS I M).bind λL=>(cond (!L.2) (some true) (some (decide (L.1.Pos>=q)))).bind λO=>(cond O (some false) (k2 (Ar (J+1))))) (some true))
def aY1 (j:AV)(I:Bv)(q:Int):Int->AB Ac:=bg (aDo j I q) Aw
def a0V (I:Bv)(j:AV)(q:Int):AB Ac:=aY1 j I q 0
def ahi :=JF func107 rfl a0V FC BZ AU Ai λJ j q r h=>AZ<|Aa<|AZ<|Ak<|Dq (λI=>⟨Az 33 [(1,BZ j),(2,AU q),(3,.ptr 0 0),(7,AU I)],[.box (BD (EG J))],0⟩) _ _ _ (Ag [AQ 0]) h<|λI L O M h=>Aa<|AP 2<|.Z (BK Ah j)<|Bg h (λh=>Aa<|Ak<|Bj h λI L M U h=>Uz [Qg 3 (Go.Op.indexAddr 24 (Go.Operand.tmp 18) (Go.Operand.tmp 19)) (λI O M=>Uw (k:=.i64) Ah L JW Fl A8 M),ZI 5 (a4L U) alI] 36<|AP 2<|AO h λI L h=>.mg 27 5 (Ai I) (.bi L)<|.aT<|BF h Bo λh=>Cc<|O _ _ (Ag [AQ 0]) h) λh=>Ei
end
end Go.Proofs.YteiakhlfaaifnaaGreat
