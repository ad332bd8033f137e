/- The data of the program, typed; facts on its types (printed by gogen.py). No condition. -/
import Derived.Test.YtmegkokogomfnaaGreatHandE
import Derived.Test.YtmegkokogomfnaaGreatAvZ
import Derived.Test.YtmegkokogomfnaaGreatProg
namespace Go.Proofs.YtmegkokogomfnaaGreat
open Go.RowKit
def s0 : ByteArray := ⟨#[]⟩
def eK (k : IntKind) (n : Int) : D := .lit (.int k n)
def s__3a : ByteArray := ⟨#[58]⟩
def s__40_21 : ByteArray := ⟨#[64, 33]⟩
def s_hi : ByteArray := ⟨#[104, 105]⟩
def s__21r_3aa : ByteArray := ⟨#[33, 114, 58, 97]⟩
def s__40bob_3ab : ByteArray := ⟨#[64, 98, 111, 98, 58, 98]⟩
def s__21 : ByteArray := ⟨#[33]⟩
def s__40 : ByteArray := ⟨#[64]⟩
def s_x : ByteArray := ⟨#[120]⟩
def s_b : ByteArray := ⟨#[98]⟩
def s__40bob_3ax : ByteArray := ⟨#[64, 98, 111, 98, 58, 120]⟩
def s_Text : ByteArray := ⟨#[84, 101, 120, 116]⟩
def s_N : ByteArray := ⟨#[78]⟩
def s_Via : ByteArray := ⟨#[86, 105, 97]⟩
def s_Levels : ByteArray := ⟨#[76, 101, 118, 101, 108, 115]⟩
def s_Allow : ByteArray := ⟨#[65, 108, 108, 111, 119]⟩
def s_Deny : ByteArray := ⟨#[68, 101, 110, 121]⟩
def s_Target : ByteArray := ⟨#[84, 97, 114, 103, 101, 116]⟩
def s_Thread : ByteArray := ⟨#[84, 104, 114, 101, 97, 100]⟩
structure ApiLevel where
  User : ByteArray
  N : Int
def eApiLevel (x : ApiLevel) : D := .agg [eS x.User, eI x.N]
def zApiLevel : ApiLevel := ⟨s0, 0⟩
instance : Inhabited ApiLevel := ⟨zApiLevel⟩
structure ApiKindLevel where
  Kind : Int
  N : Int
def eApiKindLevel (x : ApiKindLevel) : D := .agg [eI x.Kind, eI x.N]
def zApiKindLevel : ApiKindLevel := ⟨0, 0⟩
instance : Inhabited ApiKindLevel := ⟨zApiKindLevel⟩
structure ApiLevels where
  Users : (List ApiLevel)
  Kinds : (List ApiKindLevel)
  User : Int
  Message : Int
  State : Int
  Invite : Int
  Kick : Int
  Ban : Int
  Redact : Int
def eApiLevels (x : ApiLevels) : D := .agg [(eL eApiLevel) x.Users, (eL eApiKindLevel) x.Kinds, eI x.User, eI x.Message, eI x.State, eI x.Invite, eI x.Kick, eI x.Ban, eI x.Redact]
def zApiLevels : ApiLevels := ⟨[], [], 0, 0, 0, 0, 0, 0, 0⟩
instance : Inhabited ApiLevels := ⟨zApiLevels⟩
structure ApiContent where
  Text : ByteArray
  N : Int
  Target : Int
  Thread : Bool
  Via : ByteArray
  Allow : (List ByteArray)
  Deny : (List ByteArray)
  Levels : ApiLevels
def eApiContent (x : ApiContent) : D := .agg [eS x.Text, eI x.N, eI x.Target, eB x.Thread, eS x.Via, (eL eS) x.Allow, (eL eS) x.Deny, (eL eApiLevel) x.Levels.Users, (eL eApiKindLevel) x.Levels.Kinds, eI x.Levels.User, eI x.Levels.Message, eI x.Levels.State, eI x.Levels.Invite, eI x.Levels.Kick, eI x.Levels.Ban, eI x.Levels.Redact]
def zApiContent : ApiContent := ⟨s0, 0, 0, false, s0, [], [], zApiLevels⟩
instance : Inhabited ApiContent := ⟨zApiContent⟩
structure ApiSig where
  Server : ByteArray
  Sum : Int
def eApiSig (x : ApiSig) : D := .agg [eS x.Server, eI x.Sum]
def zApiSig : ApiSig := ⟨s0, 0⟩
instance : Inhabited ApiSig := ⟨zApiSig⟩
structure ApiEvent where
  Id : Int
  Room : ByteArray
  Sender : ByteArray
  Kind : Int
  State : Bool
  Key : ByteArray
  Time : Int
  Depth : Int
  Prev : (List Int)
  Auth : (List Int)
  Content : ApiContent
  Hash : Int
  Sig : ApiSig
def eApiEvent (x : ApiEvent) : D := .agg [eI x.Id, eS x.Room, eS x.Sender, eI x.Kind, eB x.State, eS x.Key, eI x.Time, eI x.Depth, (eL eI) x.Prev, (eL eI) x.Auth, eS x.Content.Text, eI x.Content.N, eI x.Content.Target, eB x.Content.Thread, eS x.Content.Via, (eL eS) x.Content.Allow, (eL eS) x.Content.Deny, (eL eApiLevel) x.Content.Levels.Users, (eL eApiKindLevel) x.Content.Levels.Kinds, eI x.Content.Levels.User, eI x.Content.Levels.Message, eI x.Content.Levels.State, eI x.Content.Levels.Invite, eI x.Content.Levels.Kick, eI x.Content.Levels.Ban, eI x.Content.Levels.Redact, eI x.Hash, eS x.Sig.Server, eI x.Sig.Sum]
def zApiEvent : ApiEvent := ⟨0, s0, s0, 0, false, s0, 0, 0, [], [], zApiContent, 0, zApiSig⟩
instance : Inhabited ApiEvent := ⟨zApiEvent⟩
structure ApiRow where
  Pos : Int
  Id : Int
  Status : Int
  Gone : Bool
def eApiRow (x : ApiRow) : D := .agg [eI x.Pos, eI x.Id, eI x.Status, eB x.Gone]
def zApiRow : ApiRow := ⟨0, 0, 0, false⟩
instance : Inhabited ApiRow := ⟨zApiRow⟩
structure ApiEntry where
  Kind : Int
  Key : ByteArray
  Id : Int
def eApiEntry (x : ApiEntry) : D := .agg [eI x.Kind, eS x.Key, eI x.Id]
def zApiEntry : ApiEntry := ⟨0, s0, 0⟩
instance : Inhabited ApiEntry := ⟨zApiEntry⟩
structure ApiReceipt where
  User : ByteArray
  Thread : Int
  Id : Int
  Time : Int
def eApiReceipt (x : ApiReceipt) : D := .agg [eS x.User, eI x.Thread, eI x.Id, eI x.Time]
def zApiReceipt : ApiReceipt := ⟨s0, 0, 0, 0⟩
instance : Inhabited ApiReceipt := ⟨zApiReceipt⟩
structure ApiTyping where
  User : ByteArray
  Until : Int
def eApiTyping (x : ApiTyping) : D := .agg [eS x.User, eI x.Until]
def zApiTyping : ApiTyping := ⟨s0, 0⟩
instance : Inhabited ApiTyping := ⟨zApiTyping⟩
structure ApiRoom where
  Id : ByteArray
  Events : (List ApiEvent)
  Rows : (List ApiRow)
  Waiting : (List ApiEvent)
  Heads : (List Int)
  State : (List ApiEntry)
  Next : Int
  Receipts : (List ApiReceipt)
  Typing : (List ApiTyping)
def eApiRoom (x : ApiRoom) : D := .agg [eS x.Id, (eL eApiEvent) x.Events, (eL eApiRow) x.Rows, (eL eApiEvent) x.Waiting, (eL eI) x.Heads, (eL eApiEntry) x.State, eI x.Next, (eL eApiReceipt) x.Receipts, (eL eApiTyping) x.Typing]
def zApiRoom : ApiRoom := ⟨s0, [], [], [], [], [], 0, [], []⟩
instance : Inhabited ApiRoom := ⟨zApiRoom⟩
structure ApiQueue where
  To : ByteArray
  Next : Int
  Events : (List ApiEvent)
  Open : (List ApiEvent)
  Fails : Int
  At : Int
def eApiQueue (x : ApiQueue) : D := .agg [eS x.To, eI x.Next, (eL eApiEvent) x.Events, (eL eApiEvent) x.Open, eI x.Fails, eI x.At]
def zApiQueue : ApiQueue := ⟨s0, 0, [], [], 0, 0⟩
instance : Inhabited ApiQueue := ⟨zApiQueue⟩
structure ApiPacket where
  From : ByteArray
  To : ByteArray
  Kind : Int
  N : Int
  Room : ByteArray
  Events : (List ApiEvent)
  Ids : (List Int)
  Auth : (List ApiEvent)
  User : ByteArray
  Err : Int
def eApiPacket (x : ApiPacket) : D := .agg [eS x.From, eS x.To, eI x.Kind, eI x.N, eS x.Room, (eL eApiEvent) x.Events, (eL eI) x.Ids, (eL eApiEvent) x.Auth, eS x.User, eI x.Err]
def zApiPacket : ApiPacket := ⟨s0, s0, 0, 0, s0, [], [], [], s0, 0⟩
instance : Inhabited ApiPacket := ⟨zApiPacket⟩
structure ApiDevice where
  Id : ByteArray
  Key : Int
  Signed : Bool
def eApiDevice (x : ApiDevice) : D := .agg [eS x.Id, eI x.Key, eB x.Signed]
def zApiDevice : ApiDevice := ⟨s0, 0, false⟩
instance : Inhabited ApiDevice := ⟨zApiDevice⟩
structure ApiKeys where
  User : ByteArray
  Master : Int
  Pos : Int
  Devices : (List ApiDevice)
def eApiKeys (x : ApiKeys) : D := .agg [eS x.User, eI x.Master, eI x.Pos, (eL eApiDevice) x.Devices]
def zApiKeys : ApiKeys := ⟨s0, 0, 0, []⟩
instance : Inhabited ApiKeys := ⟨zApiKeys⟩
structure ApiOneTime where
  User : ByteArray
  Device : ByteArray
  Next : Int
  Left : Int
def eApiOneTime (x : ApiOneTime) : D := .agg [eS x.User, eS x.Device, eI x.Next, eI x.Left]
def zApiOneTime : ApiOneTime := ⟨s0, s0, 0, 0⟩
instance : Inhabited ApiOneTime := ⟨zApiOneTime⟩
structure ApiBucket where
  Left : Int
  At : Int
  Most : Int
  Every : Int
def eApiBucket (x : ApiBucket) : D := .agg [eI x.Left, eI x.At, eI x.Most, eI x.Every]
def zApiBucket : ApiBucket := ⟨0, 0, 0, 0⟩
instance : Inhabited ApiBucket := ⟨zApiBucket⟩
structure ApiLimit where
  User : ByteArray
  Bucket : ApiBucket
def eApiLimit (x : ApiLimit) : D := .agg [eS x.User, eI x.Bucket.Left, eI x.Bucket.At, eI x.Bucket.Most, eI x.Bucket.Every]
def zApiLimit : ApiLimit := ⟨s0, zApiBucket⟩
instance : Inhabited ApiLimit := ⟨zApiLimit⟩
structure ApiMedia where
  Server : ByteArray
  Name : ByteArray
  Size : Int
  At : Int
  Is : Int
def eApiMedia (x : ApiMedia) : D := .agg [eS x.Server, eS x.Name, eI x.Size, eI x.At, eI x.Is]
def zApiMedia : ApiMedia := ⟨s0, s0, 0, 0, 0⟩
instance : Inhabited ApiMedia := ⟨zApiMedia⟩
structure ApiServer where
  Name : ByteArray
  Rooms : (List ApiRoom)
  Queues : (List ApiQueue)
  Users : (List ByteArray)
  Pending : (List ApiPacket)
  Keys : (List ApiKeys)
  Stream : Int
  OneTime : (List ApiOneTime)
  Limits : (List ApiLimit)
  Media : (List ApiMedia)
  Down : Bool
  Now : Int
def eApiServer (x : ApiServer) : D := .agg [eS x.Name, (eL eApiRoom) x.Rooms, (eL eApiQueue) x.Queues, (eL eS) x.Users, (eL eApiPacket) x.Pending, (eL eApiKeys) x.Keys, eI x.Stream, (eL eApiOneTime) x.OneTime, (eL eApiLimit) x.Limits, (eL eApiMedia) x.Media, eB x.Down, eI x.Now]
def zApiServer : ApiServer := ⟨s0, [], [], [], [], [], 0, [], [], [], false, 0⟩
instance : Inhabited ApiServer := ⟨zApiServer⟩
structure ApiDeed where
  Kind : Int
  To : ByteArray
  Event : ApiEvent
def eApiDeed (x : ApiDeed) : D := .agg [eI x.Kind, eS x.To, eI x.Event.Id, eS x.Event.Room, eS x.Event.Sender, eI x.Event.Kind, eB x.Event.State, eS x.Event.Key, eI x.Event.Time, eI x.Event.Depth, (eL eI) x.Event.Prev, (eL eI) x.Event.Auth, eS x.Event.Content.Text, eI x.Event.Content.N, eI x.Event.Content.Target, eB x.Event.Content.Thread, eS x.Event.Content.Via, (eL eS) x.Event.Content.Allow, (eL eS) x.Event.Content.Deny, (eL eApiLevel) x.Event.Content.Levels.Users, (eL eApiKindLevel) x.Event.Content.Levels.Kinds, eI x.Event.Content.Levels.User, eI x.Event.Content.Levels.Message, eI x.Event.Content.Levels.State, eI x.Event.Content.Levels.Invite, eI x.Event.Content.Levels.Kick, eI x.Event.Content.Levels.Ban, eI x.Event.Content.Levels.Redact, eI x.Event.Hash, eS x.Event.Sig.Server, eI x.Event.Sig.Sum]
def zApiDeed : ApiDeed := ⟨0, s0, zApiEvent⟩
instance : Inhabited ApiDeed := ⟨zApiDeed⟩
structure EventWriter where
  b_ : (List Int)
def eEventWriter (x : EventWriter) : D := .agg [(eL eU8) x.b_]
def zEventWriter : EventWriter := ⟨[]⟩
instance : Inhabited EventWriter := ⟨zEventWriter⟩
structure ContentField where
  bit_ : Int
  check_ : Nat
def eContentField (x : ContentField) : D := .agg [eI x.bit_, eFn x.check_]
def zContentField : ContentField := ⟨0, 0⟩
instance : Inhabited ContentField := ⟨zContentField⟩
theorem fld43_10 : FieldOk Tryz.prog 43 10 10 := field_of (by kernel_rfl)
theorem ty39 : Ty Tryz.prog 39 true 16 := ty_of (by kernel_rfl)
theorem zero39 : (Tryz.prog.info? 39).bind (·.zero) = some (.agg #[.string s0, .int .i64 0, .int .i64 0, .bool false, .string s0, .slice none 0 0, .slice none 0 0, .slice none 0 0, .slice none 0 0, .int .i64 0, .int .i64 0, .int .i64 0, .int .i64 0, .int .i64 0, .int .i64 0, .int .i64 0]) := by kernel_rfl
theorem fld43_8 : FieldOk Tryz.prog 43 8 8 := field_of (by kernel_rfl)
theorem ty33 : Ty Tryz.prog 33 false 1 := ty_of (by kernel_rfl)
theorem und33 : Tryz.prog.underlying 33 = some (.slice 3) := by kernel_rfl
theorem fld43_9 : FieldOk Tryz.prog 43 9 9 := field_of (by kernel_rfl)
theorem fld39_5 : FieldOk Tryz.prog 39 5 5 := field_of (by kernel_rfl)
theorem ty24 : Ty Tryz.prog 24 false 1 := ty_of (by kernel_rfl)
theorem und24 : Tryz.prog.underlying 24 = some (.slice 9) := by kernel_rfl
theorem fld39_6 : FieldOk Tryz.prog 39 6 6 := field_of (by kernel_rfl)
theorem fld39_7 : FieldOk Tryz.prog 39 7 7 := field_of (by kernel_rfl)
theorem fld37_0 : FieldOk Tryz.prog 37 0 0 := field_of (by kernel_rfl)
theorem ty34 : Ty Tryz.prog 34 false 1 := ty_of (by kernel_rfl)
theorem und34 : Tryz.prog.underlying 34 = some (.slice 71) := by kernel_rfl
theorem fld37_1 : FieldOk Tryz.prog 37 1 1 := field_of (by kernel_rfl)
theorem ty35 : Ty Tryz.prog 35 false 1 := ty_of (by kernel_rfl)
theorem und35 : Tryz.prog.underlying 35 = some (.slice 108) := by kernel_rfl
theorem fld43_1 : FieldOk Tryz.prog 43 1 1 := field_of (by kernel_rfl)
theorem ty9 : Ty Tryz.prog 9 false 1 := ty_of (by kernel_rfl)
theorem und9 : Tryz.prog.underlying 9 = some (.string) := by kernel_rfl
theorem fld43_2 : FieldOk Tryz.prog 43 2 2 := field_of (by kernel_rfl)
theorem fld43_5 : FieldOk Tryz.prog 43 5 5 := field_of (by kernel_rfl)
theorem fld39_0 : FieldOk Tryz.prog 39 0 0 := field_of (by kernel_rfl)
theorem fld39_4 : FieldOk Tryz.prog 39 4 4 := field_of (by kernel_rfl)
theorem fld43_12 : FieldOk Tryz.prog 43 12 27 := field_of (by kernel_rfl)
theorem fld41_0 : FieldOk Tryz.prog 41 0 0 := field_of (by kernel_rfl)
theorem ty71 : Ty Tryz.prog 71 true 2 := ty_of (by kernel_rfl)
theorem fld71_0 : FieldOk Tryz.prog 71 0 0 := field_of (by kernel_rfl)
theorem fld31_0 : FieldOk Tryz.prog 31 0 0 := field_of (by kernel_rfl)
theorem fld45_1 : FieldOk Tryz.prog 45 1 1 := field_of (by kernel_rfl)
theorem fld45_2 : FieldOk Tryz.prog 45 2 2 := field_of (by kernel_rfl)
theorem ty43 : Ty Tryz.prog 43 true 29 := ty_of (by kernel_rfl)
theorem ent14 : entersB Tryz.prog 14 = true := by kernel_rfl
theorem ent108 : entersB Tryz.prog 108 = true := by kernel_rfl
theorem ent106 : entersB Tryz.prog 106 = true := by kernel_rfl
theorem ent107 : entersB Tryz.prog 107 = true := by kernel_rfl
theorem ent63 : entersB Tryz.prog 63 = true := by kernel_rfl
theorem fld45_0 : FieldOk Tryz.prog 45 0 0 := field_of (by kernel_rfl)
theorem ty3 : Ty Tryz.prog 3 false 1 := ty_of (by kernel_rfl)
theorem ent35 : entersB Tryz.prog 35 = true := by kernel_rfl
theorem ent151 : entersB Tryz.prog 151 = true := by kernel_rfl
theorem ent111 : entersB Tryz.prog 111 = true := by kernel_rfl
theorem ent109 : entersB Tryz.prog 109 = true := by kernel_rfl
theorem ent65 : entersB Tryz.prog 65 = true := by kernel_rfl
theorem ent66 : entersB Tryz.prog 66 = true := by kernel_rfl
theorem ent64 : entersB Tryz.prog 64 = true := by kernel_rfl
theorem ent38 : entersB Tryz.prog 38 = true := by kernel_rfl
theorem el78 : El Tryz.prog 78 5 1 1 := el_of (by kernel_rfl)
theorem zero5 : (Tryz.prog.info? 5).bind (·.zero) = some (.int .u8 0) := by kernel_rfl
theorem und78 : Tryz.prog.underlying 78 = some (.slice 5) := by kernel_rfl
theorem und5 : Tryz.prog.underlying 5 = some (.int .u8) := by kernel_rfl
theorem zero43 : (Tryz.prog.info? 43).bind (·.zero) = some (.agg #[.int .i64 0, .string s0, .string s0, .int .i64 0, .bool false, .string s0, .int .i64 0, .int .i64 0, .slice none 0 0, .slice none 0 0, .string s0, .int .i64 0, .int .i64 0, .bool false, .string s0, .slice none 0 0, .slice none 0 0, .slice none 0 0, .slice none 0 0, .int .i64 0, .int .i64 0, .int .i64 0, .int .i64 0, .int .i64 0, .int .i64 0, .int .i64 0, .int .i64 0, .string s0, .int .i64 0]) := by kernel_rfl
theorem ent37 : entersB Tryz.prog 37 = true := by kernel_rfl
theorem ent36 : entersB Tryz.prog 36 = true := by kernel_rfl
theorem und3 : Tryz.prog.underlying 3 = some (.int .i64) := by kernel_rfl
theorem und124 : Tryz.prog.underlying 124 = some (.int .u64) := by kernel_rfl
theorem ent116 : entersB Tryz.prog 116 = true := by kernel_rfl
theorem ent115 : entersB Tryz.prog 115 = true := by kernel_rfl
theorem ent114 : entersB Tryz.prog 114 = true := by kernel_rfl
theorem ent117 : entersB Tryz.prog 117 = true := by kernel_rfl
theorem ent78 : entersB Tryz.prog 78 = true := by kernel_rfl
theorem fld39_1 : FieldOk Tryz.prog 39 1 1 := field_of (by kernel_rfl)
theorem ent79 : entersB Tryz.prog 79 = true := by kernel_rfl
theorem fld39_2 : FieldOk Tryz.prog 39 2 2 := field_of (by kernel_rfl)
theorem fld39_3 : FieldOk Tryz.prog 39 3 3 := field_of (by kernel_rfl)
theorem ty4 : Ty Tryz.prog 4 false 1 := ty_of (by kernel_rfl)
theorem ent80 : entersB Tryz.prog 80 = true := by kernel_rfl
theorem ent81 : entersB Tryz.prog 81 = true := by kernel_rfl
theorem ty37 : Ty Tryz.prog 37 true 9 := ty_of (by kernel_rfl)
theorem zero37 : (Tryz.prog.info? 37).bind (·.zero) = some (.agg #[.slice none 0 0, .slice none 0 0, .int .i64 0, .int .i64 0, .int .i64 0, .int .i64 0, .int .i64 0, .int .i64 0, .int .i64 0]) := by kernel_rfl
theorem zero71 : (Tryz.prog.info? 71).bind (·.zero) = some (.agg #[.string s0, .int .i64 0]) := by kernel_rfl
theorem fld71_1 : FieldOk Tryz.prog 71 1 1 := field_of (by kernel_rfl)
theorem ty108 : Ty Tryz.prog 108 true 2 := ty_of (by kernel_rfl)
theorem zero108 : (Tryz.prog.info? 108).bind (·.zero) = some (.agg #[.int .i64 0, .int .i64 0]) := by kernel_rfl
theorem fld108_0 : FieldOk Tryz.prog 108 0 0 := field_of (by kernel_rfl)
theorem ty32 : Ty Tryz.prog 32 false 1 := ty_of (by kernel_rfl)
theorem fld108_1 : FieldOk Tryz.prog 108 1 1 := field_of (by kernel_rfl)
theorem fld37_2 : FieldOk Tryz.prog 37 2 2 := field_of (by kernel_rfl)
theorem fld37_3 : FieldOk Tryz.prog 37 3 3 := field_of (by kernel_rfl)
theorem fld37_4 : FieldOk Tryz.prog 37 4 4 := field_of (by kernel_rfl)
theorem fld37_5 : FieldOk Tryz.prog 37 5 5 := field_of (by kernel_rfl)
theorem fld37_6 : FieldOk Tryz.prog 37 6 6 := field_of (by kernel_rfl)
theorem fld37_7 : FieldOk Tryz.prog 37 7 7 := field_of (by kernel_rfl)
theorem fld37_8 : FieldOk Tryz.prog 37 8 8 := field_of (by kernel_rfl)
theorem zero109 : (Tryz.prog.info? 109).bind (·.zero) = some (.agg #[.int .i64 0, .int .i64 0, .int .i64 0, .int .i64 0, .int .i64 0, .int .i64 0, .int .i64 0]) := by kernel_rfl
theorem arr109 : ArrOk Tryz.prog 109 1 (.agg #[.int .i64 0, .int .i64 0, .int .i64 0, .int .i64 0, .int .i64 0, .int .i64 0, .int .i64 0]) := arr_of (by kernel_rfl) zero109 (by kernel_rfl)
theorem und109 : Tryz.prog.underlying 109 = some (.array 7 3) := by kernel_rfl
theorem ty5 : Ty Tryz.prog 5 false 1 := ty_of (by kernel_rfl)
theorem ent68 : entersB Tryz.prog 68 = true := by kernel_rfl
theorem ent67 : entersB Tryz.prog 67 = true := by kernel_rfl
theorem ent43 : entersB Tryz.prog 43 = true := by kernel_rfl
theorem ent40 : entersB Tryz.prog 40 = true := by kernel_rfl
theorem el24 : El Tryz.prog 24 9 1 16 := el_of (by kernel_rfl)
theorem el34 : El Tryz.prog 34 71 2 24 := el_of (by kernel_rfl)
theorem el35 : El Tryz.prog 35 108 2 16 := el_of (by kernel_rfl)
theorem ent124 : entersB Tryz.prog 124 = true := by kernel_rfl
theorem ent99 : entersB Tryz.prog 99 = true := by kernel_rfl
theorem ent100 : entersB Tryz.prog 100 = true := by kernel_rfl
theorem ent101 : entersB Tryz.prog 101 = true := by kernel_rfl
theorem fld43_3 : FieldOk Tryz.prog 43 3 3 := field_of (by kernel_rfl)
theorem ent58 : entersB Tryz.prog 58 = true := by kernel_rfl
theorem zero93 : (Tryz.prog.info? 93).bind (·.zero) = some (.agg #[.slice none 0 0]) := by kernel_rfl
theorem st93 : StructOk Tryz.prog 93 [(0, 1)] (.agg #[.slice none 0 0]) := struct_of (by kernel_rfl) zero93 (by kernel_rfl)
theorem fld43_0 : FieldOk Tryz.prog 43 0 0 := field_of (by kernel_rfl)
theorem el33 : El Tryz.prog 33 3 1 8 := el_of (by kernel_rfl)
theorem zero3 : (Tryz.prog.info? 3).bind (·.zero) = some (.int .i64 0) := by kernel_rfl
theorem fld93_0 : FieldOk Tryz.prog 93 0 0 := field_of (by kernel_rfl)
theorem ty78 : Ty Tryz.prog 78 false 1 := ty_of (by kernel_rfl)
theorem ent70 : entersB Tryz.prog 70 = true := by kernel_rfl
theorem ent69 : entersB Tryz.prog 69 = true := by kernel_rfl
theorem zero9 : (Tryz.prog.info? 9).bind (·.zero) = some (.string s0) := by kernel_rfl
theorem ent72 : entersB Tryz.prog 72 = true := by kernel_rfl
theorem ent71 : entersB Tryz.prog 71 = true := by kernel_rfl
theorem fld43_4 : FieldOk Tryz.prog 43 4 4 := field_of (by kernel_rfl)
theorem el125 : El Tryz.prog 125 4 1 1 := el_of (by kernel_rfl)
theorem zero4 : (Tryz.prog.info? 4).bind (·.zero) = some (.bool false) := by kernel_rfl
theorem und125 : Tryz.prog.underlying 125 = some (.slice 4) := by kernel_rfl
theorem ent74 : entersB Tryz.prog 74 = true := by kernel_rfl
theorem ent73 : entersB Tryz.prog 73 = true := by kernel_rfl
theorem fld43_6 : FieldOk Tryz.prog 43 6 6 := field_of (by kernel_rfl)
theorem fld43_7 : FieldOk Tryz.prog 43 7 7 := field_of (by kernel_rfl)
theorem el126 : El Tryz.prog 126 33 1 24 := el_of (by kernel_rfl)
theorem zero33 : (Tryz.prog.info? 33).bind (·.zero) = some (.slice none 0 0) := by kernel_rfl
theorem und126 : Tryz.prog.underlying 126 = some (.slice 33) := by kernel_rfl
theorem ent152 : entersB Tryz.prog 152 = true := by kernel_rfl
theorem ent112 : entersB Tryz.prog 112 = true := by kernel_rfl
theorem ent76 : entersB Tryz.prog 76 = true := by kernel_rfl
theorem ent75 : entersB Tryz.prog 75 = true := by kernel_rfl
theorem fld43_11 : FieldOk Tryz.prog 43 11 26 := field_of (by kernel_rfl)
theorem fld41_1 : FieldOk Tryz.prog 41 1 1 := field_of (by kernel_rfl)
theorem ent39 : entersB Tryz.prog 39 = true := by kernel_rfl
theorem zero41 : (Tryz.prog.info? 41).bind (·.zero) = some (.agg #[.string s0, .int .i64 0]) := by kernel_rfl
theorem st41 : StructOk Tryz.prog 41 [(0, 1), (1, 1)] (.agg #[.string s0, .int .i64 0]) := struct_of (by kernel_rfl) zero41 (by kernel_rfl)
theorem ty41 : Ty Tryz.prog 41 true 2 := ty_of (by kernel_rfl)
theorem ent41 : entersB Tryz.prog 41 = true := by kernel_rfl
theorem ent22 : entersB Tryz.prog 22 = true := by kernel_rfl
theorem ent20 : entersB Tryz.prog 20 = true := by kernel_rfl
theorem zero57 : (Tryz.prog.info? 57).bind (·.zero) = some (.agg #[.string s0, .string s0, .int .i64 0, .int .i64 0, .string s0, .slice none 0 0, .slice none 0 0, .slice none 0 0, .string s0, .int .i64 0]) := by kernel_rfl
theorem el52 : El Tryz.prog 52 43 29 376 := el_of (by kernel_rfl)
theorem st57 : StructOk Tryz.prog 57 [(0, 1), (1, 1), (2, 1), (3, 1), (4, 1), (5, 1), (6, 1), (7, 1), (8, 1), (9, 1)] (.agg #[.string s0, .string s0, .int .i64 0, .int .i64 0, .string s0, .slice none 0 0, .slice none 0 0, .slice none 0 0, .string s0, .int .i64 0]) := struct_of (by kernel_rfl) zero57 (by kernel_rfl)
theorem ty57 : Ty Tryz.prog 57 true 10 := ty_of (by kernel_rfl)
theorem ent113 : entersB Tryz.prog 113 = true := by kernel_rfl
theorem ent77 : entersB Tryz.prog 77 = true := by kernel_rfl
theorem ent42 : entersB Tryz.prog 42 = true := by kernel_rfl
theorem ty31 : Ty Tryz.prog 31 true 12 := ty_of (by kernel_rfl)
theorem ty45 : Ty Tryz.prog 45 true 31 := ty_of (by kernel_rfl)
theorem ent15 : entersB Tryz.prog 15 = true := by kernel_rfl
theorem ent18 : entersB Tryz.prog 18 = true := by kernel_rfl
theorem ent17 : entersB Tryz.prog 17 = true := by kernel_rfl
theorem ent16 : entersB Tryz.prog 16 = true := by kernel_rfl
theorem el25 : El Tryz.prog 25 57 10 160 := el_of (by kernel_rfl)
theorem ent19 : entersB Tryz.prog 19 = true := by kernel_rfl
theorem ent21 : entersB Tryz.prog 21 = true := by kernel_rfl
theorem ent82 : entersB Tryz.prog 82 = true := by kernel_rfl
theorem ent44 : entersB Tryz.prog 44 = true := by kernel_rfl
theorem ent49 : entersB Tryz.prog 49 = true := by kernel_rfl
theorem ent84 : entersB Tryz.prog 84 = true := by kernel_rfl
theorem ent48 : entersB Tryz.prog 48 = true := by kernel_rfl
theorem ent46 : entersB Tryz.prog 46 = true := by kernel_rfl
theorem ent45 : entersB Tryz.prog 45 = true := by kernel_rfl
theorem ent120 : entersB Tryz.prog 120 = true := by kernel_rfl
theorem ent88 : entersB Tryz.prog 88 = true := by kernel_rfl
theorem ent89 : entersB Tryz.prog 89 = true := by kernel_rfl
theorem ent90 : entersB Tryz.prog 90 = true := by kernel_rfl
theorem ent118 : entersB Tryz.prog 118 = true := by kernel_rfl
theorem ent119 : entersB Tryz.prog 119 = true := by kernel_rfl
theorem ent87 : entersB Tryz.prog 87 = true := by kernel_rfl
theorem ent86 : entersB Tryz.prog 86 = true := by kernel_rfl
theorem ent83 : entersB Tryz.prog 83 = true := by kernel_rfl
theorem ent52 : entersB Tryz.prog 52 = true := by kernel_rfl
theorem st39 : StructOk Tryz.prog 39 [(0, 1), (1, 1), (2, 1), (3, 1), (4, 1), (5, 1), (6, 1), (7, 9)] (.agg #[.string s0, .int .i64 0, .int .i64 0, .bool false, .string s0, .slice none 0 0, .slice none 0 0, .slice none 0 0, .slice none 0 0, .int .i64 0, .int .i64 0, .int .i64 0, .int .i64 0, .int .i64 0, .int .i64 0, .int .i64 0]) := struct_of (by kernel_rfl) zero39 (by kernel_rfl)
theorem ent62 : entersB Tryz.prog 62 = true := by kernel_rfl
theorem ent91 : entersB Tryz.prog 91 = true := by kernel_rfl
theorem ent51 : entersB Tryz.prog 51 = true := by kernel_rfl
theorem ent53 : entersB Tryz.prog 53 = true := by kernel_rfl
theorem ent47 : entersB Tryz.prog 47 = true := by kernel_rfl
theorem ent29 : entersB Tryz.prog 29 = true := by kernel_rfl
theorem ent85 : entersB Tryz.prog 85 = true := by kernel_rfl
theorem ent50 : entersB Tryz.prog 50 = true := by kernel_rfl
theorem ent23 : entersB Tryz.prog 23 = true := by kernel_rfl
theorem ent24 : entersB Tryz.prog 24 = true := by kernel_rfl
theorem ent26 : entersB Tryz.prog 26 = true := by kernel_rfl
theorem ent25 : entersB Tryz.prog 25 = true := by kernel_rfl
theorem ent27 : entersB Tryz.prog 27 = true := by kernel_rfl
theorem ent28 : entersB Tryz.prog 28 = true := by kernel_rfl
theorem und4 : Tryz.prog.underlying 4 = some (.bool) := by kernel_rfl
theorem ent104 : entersB Tryz.prog 104 = true := by kernel_rfl
theorem ent105 : entersB Tryz.prog 105 = true := by kernel_rfl
theorem ent31 : entersB Tryz.prog 31 = true := by kernel_rfl
theorem ent61 : entersB Tryz.prog 61 = true := by kernel_rfl
theorem und52 : Tryz.prog.underlying 52 = some (.slice 43) := by kernel_rfl
theorem ent54 : entersB Tryz.prog 54 = true := by kernel_rfl
theorem und25 : Tryz.prog.underlying 25 = some (.slice 57) := by kernel_rfl
theorem fld57_0 : FieldOk Tryz.prog 57 0 0 := field_of (by kernel_rfl)
theorem fld57_1 : FieldOk Tryz.prog 57 1 1 := field_of (by kernel_rfl)
theorem fld57_2 : FieldOk Tryz.prog 57 2 2 := field_of (by kernel_rfl)
theorem ty55 : Ty Tryz.prog 55 false 1 := ty_of (by kernel_rfl)
theorem fld57_3 : FieldOk Tryz.prog 57 3 3 := field_of (by kernel_rfl)
theorem fld57_4 : FieldOk Tryz.prog 57 4 4 := field_of (by kernel_rfl)
theorem fld57_8 : FieldOk Tryz.prog 57 8 8 := field_of (by kernel_rfl)
theorem fld57_9 : FieldOk Tryz.prog 57 9 9 := field_of (by kernel_rfl)
theorem ty47 : Ty Tryz.prog 47 false 1 := ty_of (by kernel_rfl)
theorem fld57_5 : FieldOk Tryz.prog 57 5 5 := field_of (by kernel_rfl)
theorem ty52 : Ty Tryz.prog 52 false 1 := ty_of (by kernel_rfl)
theorem ent30 : entersB Tryz.prog 30 = true := by kernel_rfl
theorem fld57_6 : FieldOk Tryz.prog 57 6 6 := field_of (by kernel_rfl)
theorem fld57_7 : FieldOk Tryz.prog 57 7 7 := field_of (by kernel_rfl)
theorem st43 : StructOk Tryz.prog 43 [(0, 1), (1, 1), (2, 1), (3, 1), (4, 1), (5, 1), (6, 1), (7, 1), (8, 1), (9, 1), (10, 16), (26, 1), (27, 2)] (.agg #[.int .i64 0, .string s0, .string s0, .int .i64 0, .bool false, .string s0, .int .i64 0, .int .i64 0, .slice none 0 0, .slice none 0 0, .string s0, .int .i64 0, .int .i64 0, .bool false, .string s0, .slice none 0 0, .slice none 0 0, .slice none 0 0, .slice none 0 0, .int .i64 0, .int .i64 0, .int .i64 0, .int .i64 0, .int .i64 0, .int .i64 0, .int .i64 0, .int .i64 0, .string s0, .int .i64 0]) := struct_of (by kernel_rfl) zero43 (by kernel_rfl)
theorem ent153 : entersB Tryz.prog 153 = true := by kernel_rfl
theorem ent121 : entersB Tryz.prog 121 = true := by kernel_rfl
theorem ent122 : entersB Tryz.prog 122 = true := by kernel_rfl
theorem ent123 : entersB Tryz.prog 123 = true := by kernel_rfl
theorem ent154 : entersB Tryz.prog 154 = true := by kernel_rfl
theorem ent155 : entersB Tryz.prog 155 = true := by kernel_rfl
theorem ent158 : entersB Tryz.prog 158 = true := by kernel_rfl
theorem ent125 : entersB Tryz.prog 125 = true := by kernel_rfl
theorem ent156 : entersB Tryz.prog 156 = true := by kernel_rfl
theorem ent157 : entersB Tryz.prog 157 = true := by kernel_rfl
theorem ent126 : entersB Tryz.prog 126 = true := by kernel_rfl
theorem zero132 : (Tryz.prog.info? 132).bind (·.zero) = some (.agg #[.int .i64 0, .nilFunc]) := by kernel_rfl
theorem st132 : StructOk Tryz.prog 132 [(0, 1), (1, 1)] (.agg #[.int .i64 0, .nilFunc]) := struct_of (by kernel_rfl) zero132 (by kernel_rfl)
theorem el133 : El Tryz.prog 133 132 2 16 := el_of (by kernel_rfl)
theorem und133 : Tryz.prog.underlying 133 = some (.slice 132) := by kernel_rfl
theorem ty132 : Ty Tryz.prog 132 true 2 := ty_of (by kernel_rfl)
theorem fld132_0 : FieldOk Tryz.prog 132 0 0 := field_of (by kernel_rfl)
theorem fld132_1 : FieldOk Tryz.prog 132 1 1 := field_of (by kernel_rfl)
theorem ty115 : Ty Tryz.prog 115 false 1 := ty_of (by kernel_rfl)
theorem ent133 : entersB Tryz.prog 133 = true := by kernel_rfl
theorem ent127 : entersB Tryz.prog 127 = true := by kernel_rfl
theorem ent128 : entersB Tryz.prog 128 = true := by kernel_rfl
theorem ent129 : entersB Tryz.prog 129 = true := by kernel_rfl
theorem ent130 : entersB Tryz.prog 130 = true := by kernel_rfl
theorem ent131 : entersB Tryz.prog 131 = true := by kernel_rfl
theorem ent132 : entersB Tryz.prog 132 = true := by kernel_rfl
theorem ent134 : entersB Tryz.prog 134 = true := by kernel_rfl
theorem ent92 : entersB Tryz.prog 92 = true := by kernel_rfl
theorem ent93 : entersB Tryz.prog 93 = true := by kernel_rfl
theorem ent94 : entersB Tryz.prog 94 = true := by kernel_rfl
theorem ent95 : entersB Tryz.prog 95 = true := by kernel_rfl
def qApiLevel (x y : ApiLevel) : Bool := (x.User.toList == y.User.toList && (x.N == y.N && true))
theorem qApiLevel_ok71 (x y : ApiLevel) : EqOk Tryz.prog 2 71 [.string x.User, .int .i64 x.N] [.string y.User, .int .i64 y.N] (qApiLevel x y) := ⟨fun d w => eqS_of (by kernel_rfl) (by kernel_rfl) (by kernel_rfl) (l := [(9, 0), (3, 1)]) (by kernel_rfl) (eqF_cons (part_leaf ty9 (by kernel_rfl) w) (part_leaf ty9 (by kernel_rfl) w) (run_equalIn_string w _ _ _ _ und9) <| eqF_cons (part_leaf ty3 (by kernel_rfl) w) (part_leaf ty3 (by kernel_rfl) w) (run_equalIn_int w _ _ .i64 _ _ _ und3) <| eqF_nil _ _ _ _)⟩
theorem eqg71 : Program.eqGuardType Tryz.prog (Program.depth Tryz.prog) 71 = false := by kernel_rfl
theorem und32 : Tryz.prog.underlying 32 = some (.int .i64) := by kernel_rfl
def qApiKindLevel (x y : ApiKindLevel) : Bool := (x.Kind == y.Kind && (x.N == y.N && true))
theorem qApiKindLevel_ok108 (x y : ApiKindLevel) : EqOk Tryz.prog 2 108 [.int .i64 x.Kind, .int .i64 x.N] [.int .i64 y.Kind, .int .i64 y.N] (qApiKindLevel x y) := ⟨fun d w => eqS_of (by kernel_rfl) (by kernel_rfl) (by kernel_rfl) (l := [(32, 0), (3, 1)]) (by kernel_rfl) (eqF_cons (part_leaf ty32 (by kernel_rfl) w) (part_leaf ty32 (by kernel_rfl) w) (run_equalIn_int w _ _ .i64 _ _ _ und32) <| eqF_cons (part_leaf ty3 (by kernel_rfl) w) (part_leaf ty3 (by kernel_rfl) w) (run_equalIn_int w _ _ .i64 _ _ _ und3) <| eqF_nil _ _ _ _)⟩
theorem eqg108 : Program.eqGuardType Tryz.prog (Program.depth Tryz.prog) 108 = false := by kernel_rfl
theorem ent96 : entersB Tryz.prog 96 = true := by kernel_rfl
theorem ent97 : entersB Tryz.prog 97 = true := by kernel_rfl
theorem ent98 : entersB Tryz.prog 98 = true := by kernel_rfl
theorem ent55 : entersB Tryz.prog 55 = true := by kernel_rfl
theorem ent56 : entersB Tryz.prog 56 = true := by kernel_rfl
theorem ent57 : entersB Tryz.prog 57 = true := by kernel_rfl
def qApiSig (x y : ApiSig) : Bool := (x.Server.toList == y.Server.toList && (x.Sum == y.Sum && true))
theorem qApiSig_ok41 (x y : ApiSig) : EqOk Tryz.prog 2 41 [.string x.Server, .int .i64 x.Sum] [.string y.Server, .int .i64 y.Sum] (qApiSig x y) := ⟨fun d w => eqS_of (by kernel_rfl) (by kernel_rfl) (by kernel_rfl) (l := [(9, 0), (3, 1)]) (by kernel_rfl) (eqF_cons (part_leaf ty9 (by kernel_rfl) w) (part_leaf ty9 (by kernel_rfl) w) (run_equalIn_string w _ _ _ _ und9) <| eqF_cons (part_leaf ty3 (by kernel_rfl) w) (part_leaf ty3 (by kernel_rfl) w) (run_equalIn_int w _ _ .i64 _ _ _ und3) <| eqF_nil _ _ _ _)⟩
theorem eqg41 : Program.eqGuardType Tryz.prog (Program.depth Tryz.prog) 41 = false := by kernel_rfl
theorem ent33 : entersB Tryz.prog 33 = true := by kernel_rfl
theorem zero31 : (Tryz.prog.info? 31).bind (·.zero) = some (.agg #[.string s0, .slice none 0 0, .slice none 0 0, .slice none 0 0, .slice none 0 0, .slice none 0 0, .int .i64 0, .slice none 0 0, .slice none 0 0, .slice none 0 0, .bool false, .int .i64 0]) := by kernel_rfl
theorem st31 : StructOk Tryz.prog 31 [(0, 1), (1, 1), (2, 1), (3, 1), (4, 1), (5, 1), (6, 1), (7, 1), (8, 1), (9, 1), (10, 1), (11, 1)] (.agg #[.string s0, .slice none 0 0, .slice none 0 0, .slice none 0 0, .slice none 0 0, .slice none 0 0, .int .i64 0, .slice none 0 0, .slice none 0 0, .slice none 0 0, .bool false, .int .i64 0]) := struct_of (by kernel_rfl) zero31 (by kernel_rfl)
theorem ent32 : entersB Tryz.prog 32 = true := by kernel_rfl
theorem zero45 : (Tryz.prog.info? 45).bind (·.zero) = some (.agg #[.int .i64 0, .string s0, .int .i64 0, .string s0, .string s0, .int .i64 0, .bool false, .string s0, .int .i64 0, .int .i64 0, .slice none 0 0, .slice none 0 0, .string s0, .int .i64 0, .int .i64 0, .bool false, .string s0, .slice none 0 0, .slice none 0 0, .slice none 0 0, .slice none 0 0, .int .i64 0, .int .i64 0, .int .i64 0, .int .i64 0, .int .i64 0, .int .i64 0, .int .i64 0, .int .i64 0, .string s0, .int .i64 0]) := by kernel_rfl
theorem st45 : StructOk Tryz.prog 45 [(0, 1), (1, 1), (2, 29)] (.agg #[.int .i64 0, .string s0, .int .i64 0, .string s0, .string s0, .int .i64 0, .bool false, .string s0, .int .i64 0, .int .i64 0, .slice none 0 0, .slice none 0 0, .string s0, .int .i64 0, .int .i64 0, .bool false, .string s0, .slice none 0 0, .slice none 0 0, .slice none 0 0, .slice none 0 0, .int .i64 0, .int .i64 0, .int .i64 0, .int .i64 0, .int .i64 0, .int .i64 0, .int .i64 0, .int .i64 0, .string s0, .int .i64 0]) := struct_of (by kernel_rfl) zero45 (by kernel_rfl)
theorem ent7 : entersB Tryz.prog 7 = true := by kernel_rfl
theorem ent12 : entersB Tryz.prog 12 = true := by kernel_rfl
theorem ent6 : entersB Tryz.prog 6 = true := by kernel_rfl
theorem ent8 : entersB Tryz.prog 8 = true := by kernel_rfl
theorem ent9 : entersB Tryz.prog 9 = true := by kernel_rfl
theorem ent10 : entersB Tryz.prog 10 = true := by kernel_rfl
theorem ent137 : entersB Tryz.prog 137 = true := by kernel_rfl
theorem ent135 : entersB Tryz.prog 135 = true := by kernel_rfl
theorem ent136 : entersB Tryz.prog 136 = true := by kernel_rfl
theorem ent138 : entersB Tryz.prog 138 = true := by kernel_rfl
theorem ent139 : entersB Tryz.prog 139 = true := by kernel_rfl
theorem ent168 : entersB Tryz.prog 168 = true := by kernel_rfl
theorem st37 : StructOk Tryz.prog 37 [(0, 1), (1, 1), (2, 1), (3, 1), (4, 1), (5, 1), (6, 1), (7, 1), (8, 1)] (.agg #[.slice none 0 0, .slice none 0 0, .int .i64 0, .int .i64 0, .int .i64 0, .int .i64 0, .int .i64 0, .int .i64 0, .int .i64 0]) := struct_of (by kernel_rfl) zero37 (by kernel_rfl)
theorem ent159 : entersB Tryz.prog 159 = true := by kernel_rfl
theorem ent160 : entersB Tryz.prog 160 = true := by kernel_rfl
theorem ent161 : entersB Tryz.prog 161 = true := by kernel_rfl
theorem ent164 : entersB Tryz.prog 164 = true := by kernel_rfl
theorem ent140 : entersB Tryz.prog 140 = true := by kernel_rfl
theorem ent162 : entersB Tryz.prog 162 = true := by kernel_rfl
theorem ent163 : entersB Tryz.prog 163 = true := by kernel_rfl
theorem ent141 : entersB Tryz.prog 141 = true := by kernel_rfl
theorem ent142 : entersB Tryz.prog 142 = true := by kernel_rfl
theorem ent143 : entersB Tryz.prog 143 = true := by kernel_rfl
theorem ent144 : entersB Tryz.prog 144 = true := by kernel_rfl
theorem ent145 : entersB Tryz.prog 145 = true := by kernel_rfl
theorem ent146 : entersB Tryz.prog 146 = true := by kernel_rfl
theorem ent147 : entersB Tryz.prog 147 = true := by kernel_rfl
theorem ent148 : entersB Tryz.prog 148 = true := by kernel_rfl
theorem ent149 : entersB Tryz.prog 149 = true := by kernel_rfl
theorem ent102 : entersB Tryz.prog 102 = true := by kernel_rfl
theorem ent103 : entersB Tryz.prog 103 = true := by kernel_rfl
theorem ent59 : entersB Tryz.prog 59 = true := by kernel_rfl
theorem ent60 : entersB Tryz.prog 60 = true := by kernel_rfl
theorem ent34 : entersB Tryz.prog 34 = true := by kernel_rfl
theorem ent11 : entersB Tryz.prog 11 = true := by kernel_rfl
theorem ent13 : entersB Tryz.prog 13 = true := by kernel_rfl
instance kn : Kn Tryz.prog where
  und := [(9, .string), (5, .int .u8), (3, .int .i64), (124, .int .u64), (4, .bool), (32, .int .i64)]
  hund := ⟨und9, und5, und3, und124, und4, und32, trivial⟩
  ty := [(39, true, 16), (33, false, 1), (24, false, 1), (34, false, 1), (35, false, 1), (9, false, 1), (71, true, 2), (43, true, 29), (3, false, 1), (4, false, 1), (37, true, 9), (108, true, 2), (32, false, 1), (5, false, 1), (78, false, 1), (41, true, 2), (57, true, 10), (31, true, 12), (45, true, 31), (55, false, 1), (47, false, 1), (52, false, 1), (132, true, 2), (115, false, 1)]
  hty := ⟨ty39, ty33, ty24, ty34, ty35, ty9, ty71, ty43, ty3, ty4, ty37, ty108, ty32, ty5, ty78, ty41, ty57, ty31, ty45, ty55, ty47, ty52, ty132, ty115, trivial⟩
  fld := [((43, 10), 10), ((43, 8), 8), ((43, 9), 9), ((39, 5), 5), ((39, 6), 6), ((39, 7), 7), ((37, 0), 0), ((37, 1), 1), ((43, 1), 1), ((43, 2), 2), ((43, 5), 5), ((39, 0), 0), ((39, 4), 4), ((43, 12), 27), ((41, 0), 0), ((71, 0), 0), ((31, 0), 0), ((45, 1), 1), ((45, 2), 2), ((45, 0), 0), ((39, 1), 1), ((39, 2), 2), ((39, 3), 3), ((71, 1), 1), ((108, 0), 0), ((108, 1), 1), ((37, 2), 2), ((37, 3), 3), ((37, 4), 4), ((37, 5), 5), ((37, 6), 6), ((37, 7), 7), ((37, 8), 8), ((43, 3), 3), ((43, 0), 0), ((93, 0), 0), ((43, 4), 4), ((43, 6), 6), ((43, 7), 7), ((43, 11), 26), ((41, 1), 1), ((57, 0), 0), ((57, 1), 1), ((57, 2), 2), ((57, 3), 3), ((57, 4), 4), ((57, 8), 8), ((57, 9), 9), ((57, 5), 5), ((57, 6), 6), ((57, 7), 7), ((132, 0), 0), ((132, 1), 1)]
  hfld := ⟨fld43_10, fld43_8, fld43_9, fld39_5, fld39_6, fld39_7, fld37_0, fld37_1, fld43_1, fld43_2, fld43_5, fld39_0, fld39_4, fld43_12, fld41_0, fld71_0, fld31_0, fld45_1, fld45_2, fld45_0, fld39_1, fld39_2, fld39_3, fld71_1, fld108_0, fld108_1, fld37_2, fld37_3, fld37_4, fld37_5, fld37_6, fld37_7, fld37_8, fld43_3, fld43_0, fld93_0, fld43_4, fld43_6, fld43_7, fld43_11, fld41_1, fld57_0, fld57_1, fld57_2, fld57_3, fld57_4, fld57_8, fld57_9, fld57_5, fld57_6, fld57_7, fld132_0, fld132_1, trivial⟩
  part := []
  hpart := trivial
  zero := [(39, .agg #[.string s0, .int .i64 0, .int .i64 0, .bool false, .string s0, .slice none 0 0, .slice none 0 0, .slice none 0 0, .slice none 0 0, .int .i64 0, .int .i64 0, .int .i64 0, .int .i64 0, .int .i64 0, .int .i64 0, .int .i64 0]), (5, .int .u8 0), (43, .agg #[.int .i64 0, .string s0, .string s0, .int .i64 0, .bool false, .string s0, .int .i64 0, .int .i64 0, .slice none 0 0, .slice none 0 0, .string s0, .int .i64 0, .int .i64 0, .bool false, .string s0, .slice none 0 0, .slice none 0 0, .slice none 0 0, .slice none 0 0, .int .i64 0, .int .i64 0, .int .i64 0, .int .i64 0, .int .i64 0, .int .i64 0, .int .i64 0, .int .i64 0, .string s0, .int .i64 0]), (37, .agg #[.slice none 0 0, .slice none 0 0, .int .i64 0, .int .i64 0, .int .i64 0, .int .i64 0, .int .i64 0, .int .i64 0, .int .i64 0]), (71, .agg #[.string s0, .int .i64 0]), (108, .agg #[.int .i64 0, .int .i64 0]), (109, .agg #[.int .i64 0, .int .i64 0, .int .i64 0, .int .i64 0, .int .i64 0, .int .i64 0, .int .i64 0]), (93, .agg #[.slice none 0 0]), (3, .int .i64 0), (9, .string s0), (4, .bool false), (33, .slice none 0 0), (41, .agg #[.string s0, .int .i64 0]), (57, .agg #[.string s0, .string s0, .int .i64 0, .int .i64 0, .string s0, .slice none 0 0, .slice none 0 0, .slice none 0 0, .string s0, .int .i64 0]), (132, .agg #[.int .i64 0, .nilFunc]), (31, .agg #[.string s0, .slice none 0 0, .slice none 0 0, .slice none 0 0, .slice none 0 0, .slice none 0 0, .int .i64 0, .slice none 0 0, .slice none 0 0, .slice none 0 0, .bool false, .int .i64 0]), (45, .agg #[.int .i64 0, .string s0, .int .i64 0, .string s0, .string s0, .int .i64 0, .bool false, .string s0, .int .i64 0, .int .i64 0, .slice none 0 0, .slice none 0 0, .string s0, .int .i64 0, .int .i64 0, .bool false, .string s0, .slice none 0 0, .slice none 0 0, .slice none 0 0, .slice none 0 0, .int .i64 0, .int .i64 0, .int .i64 0, .int .i64 0, .int .i64 0, .int .i64 0, .int .i64 0, .int .i64 0, .string s0, .int .i64 0])]
  hzero := ⟨⟨zero39, by kernel_rfl⟩, ⟨zero5, by kernel_rfl⟩, ⟨zero43, by kernel_rfl⟩, ⟨zero37, by kernel_rfl⟩, ⟨zero71, by kernel_rfl⟩, ⟨zero108, by kernel_rfl⟩, ⟨zero109, by kernel_rfl⟩, ⟨zero93, by kernel_rfl⟩, ⟨zero3, by kernel_rfl⟩, ⟨zero9, by kernel_rfl⟩, ⟨zero4, by kernel_rfl⟩, ⟨zero33, by kernel_rfl⟩, ⟨zero41, by kernel_rfl⟩, ⟨zero57, by kernel_rfl⟩, ⟨zero132, by kernel_rfl⟩, ⟨zero31, by kernel_rfl⟩, ⟨zero45, by kernel_rfl⟩, trivial⟩
  st := [(93, [(0, 1)], .agg #[.slice none 0 0]), (41, [(0, 1), (1, 1)], .agg #[.string s0, .int .i64 0]), (57, [(0, 1), (1, 1), (2, 1), (3, 1), (4, 1), (5, 1), (6, 1), (7, 1), (8, 1), (9, 1)], .agg #[.string s0, .string s0, .int .i64 0, .int .i64 0, .string s0, .slice none 0 0, .slice none 0 0, .slice none 0 0, .string s0, .int .i64 0]), (39, [(0, 1), (1, 1), (2, 1), (3, 1), (4, 1), (5, 1), (6, 1), (7, 9)], .agg #[.string s0, .int .i64 0, .int .i64 0, .bool false, .string s0, .slice none 0 0, .slice none 0 0, .slice none 0 0, .slice none 0 0, .int .i64 0, .int .i64 0, .int .i64 0, .int .i64 0, .int .i64 0, .int .i64 0, .int .i64 0]), (43, [(0, 1), (1, 1), (2, 1), (3, 1), (4, 1), (5, 1), (6, 1), (7, 1), (8, 1), (9, 1), (10, 16), (26, 1), (27, 2)], .agg #[.int .i64 0, .string s0, .string s0, .int .i64 0, .bool false, .string s0, .int .i64 0, .int .i64 0, .slice none 0 0, .slice none 0 0, .string s0, .int .i64 0, .int .i64 0, .bool false, .string s0, .slice none 0 0, .slice none 0 0, .slice none 0 0, .slice none 0 0, .int .i64 0, .int .i64 0, .int .i64 0, .int .i64 0, .int .i64 0, .int .i64 0, .int .i64 0, .int .i64 0, .string s0, .int .i64 0]), (132, [(0, 1), (1, 1)], .agg #[.int .i64 0, .nilFunc]), (31, [(0, 1), (1, 1), (2, 1), (3, 1), (4, 1), (5, 1), (6, 1), (7, 1), (8, 1), (9, 1), (10, 1), (11, 1)], .agg #[.string s0, .slice none 0 0, .slice none 0 0, .slice none 0 0, .slice none 0 0, .slice none 0 0, .int .i64 0, .slice none 0 0, .slice none 0 0, .slice none 0 0, .bool false, .int .i64 0]), (45, [(0, 1), (1, 1), (2, 29)], .agg #[.int .i64 0, .string s0, .int .i64 0, .string s0, .string s0, .int .i64 0, .bool false, .string s0, .int .i64 0, .int .i64 0, .slice none 0 0, .slice none 0 0, .string s0, .int .i64 0, .int .i64 0, .bool false, .string s0, .slice none 0 0, .slice none 0 0, .slice none 0 0, .slice none 0 0, .int .i64 0, .int .i64 0, .int .i64 0, .int .i64 0, .int .i64 0, .int .i64 0, .int .i64 0, .int .i64 0, .string s0, .int .i64 0]), (37, [(0, 1), (1, 1), (2, 1), (3, 1), (4, 1), (5, 1), (6, 1), (7, 1), (8, 1)], .agg #[.slice none 0 0, .slice none 0 0, .int .i64 0, .int .i64 0, .int .i64 0, .int .i64 0, .int .i64 0, .int .i64 0, .int .i64 0])]
  hst := ⟨st93, st41, st57, st39, st43, st132, st31, st45, st37, trivial⟩
  arr := [(109, 1, .agg #[.int .i64 0, .int .i64 0, .int .i64 0, .int .i64 0, .int .i64 0, .int .i64 0, .int .i64 0])]
  harr := ⟨arr109, trivial⟩
end Go.Proofs.YtmegkokogomfnaaGreat
