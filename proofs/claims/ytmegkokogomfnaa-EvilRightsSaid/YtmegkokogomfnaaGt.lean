/- The data of the program, typed; facts on its types (printed by gogen.py). No condition. -/
import Derived.Test.YtmegkokogomfnaaHandE
import Derived.Test.YtmegkokogomfnaaAvZ
import Derived.Test.YtmegkokogomfnaaProg
namespace Go.Proofs.Ytmegkokogomfnaa
open Go.RowKit
def s0 : ByteArray := ⟨#[]⟩
def eK (k : IntKind) (n : Int) : D := .lit (.int k n)
def s_hi : ByteArray := ⟨#[104, 105]⟩
def s__21r_3aa : ByteArray := ⟨#[33, 114, 58, 97]⟩
def s__40bob_3ab : ByteArray := ⟨#[64, 98, 111, 98, 58, 98]⟩
def s__3a : ByteArray := ⟨#[58]⟩
def s__40_21 : ByteArray := ⟨#[64, 33]⟩
def s__21 : ByteArray := ⟨#[33]⟩
def s__40 : ByteArray := ⟨#[64]⟩
def s_x : ByteArray := ⟨#[120]⟩
def s_b : ByteArray := ⟨#[98]⟩
def s__40bob_3ax : ByteArray := ⟨#[64, 98, 111, 98, 58, 120]⟩
structure ApiLevel where
  User : ByteArray
  N : Int
def eApiLevel (x : ApiLevel) : D := .agg [eS x.User, eI x.N]
def zApiLevel : ApiLevel := ⟨s0, 0⟩
instance : Inhabited ApiLevel := ⟨zApiLevel⟩
structure ApiKindLevel where
  Kind : Int
  N : Int
def eApiKindLevel (x : ApiKindLevel) : D := .agg [eI x.Kind, eI x.N]
def zApiKindLevel : ApiKindLevel := ⟨0, 0⟩
instance : Inhabited ApiKindLevel := ⟨zApiKindLevel⟩
structure ApiLevels where
  Users : (List ApiLevel)
  Kinds : (List ApiKindLevel)
  User : Int
  Message : Int
  State : Int
  Invite : Int
  Kick : Int
  Ban : Int
  Redact : Int
def eApiLevels (x : ApiLevels) : D := .agg [(eL eApiLevel) x.Users, (eL eApiKindLevel) x.Kinds, eI x.User, eI x.Message, eI x.State, eI x.Invite, eI x.Kick, eI x.Ban, eI x.Redact]
def zApiLevels : ApiLevels := ⟨[], [], 0, 0, 0, 0, 0, 0, 0⟩
instance : Inhabited ApiLevels := ⟨zApiLevels⟩
structure ApiContent where
  Text : ByteArray
  N : Int
  Target : Int
  Thread : Bool
  Via : ByteArray
  Allow : (List ByteArray)
  Deny : (List ByteArray)
  Levels : ApiLevels
def eApiContent (x : ApiContent) : D := .agg [eS x.Text, eI x.N, eI x.Target, eB x.Thread, eS x.Via, (eL eS) x.Allow, (eL eS) x.Deny, (eL eApiLevel) x.Levels.Users, (eL eApiKindLevel) x.Levels.Kinds, eI x.Levels.User, eI x.Levels.Message, eI x.Levels.State, eI x.Levels.Invite, eI x.Levels.Kick, eI x.Levels.Ban, eI x.Levels.Redact]
def zApiContent : ApiContent := ⟨s0, 0, 0, false, s0, [], [], zApiLevels⟩
instance : Inhabited ApiContent := ⟨zApiContent⟩
structure ApiSig where
  Server : ByteArray
  Sum : Int
def eApiSig (x : ApiSig) : D := .agg [eS x.Server, eI x.Sum]
def zApiSig : ApiSig := ⟨s0, 0⟩
instance : Inhabited ApiSig := ⟨zApiSig⟩
structure ApiEvent where
  Id : Int
  Room : ByteArray
  Sender : ByteArray
  Kind : Int
  State : Bool
  Key : ByteArray
  Time : Int
  Depth : Int
  Prev : (List Int)
  Auth : (List Int)
  Content : ApiContent
  Hash : Int
  Sig : ApiSig
def eApiEvent (x : ApiEvent) : D := .agg [eI x.Id, eS x.Room, eS x.Sender, eI x.Kind, eB x.State, eS x.Key, eI x.Time, eI x.Depth, (eL eI) x.Prev, (eL eI) x.Auth, eS x.Content.Text, eI x.Content.N, eI x.Content.Target, eB x.Content.Thread, eS x.Content.Via, (eL eS) x.Content.Allow, (eL eS) x.Content.Deny, (eL eApiLevel) x.Content.Levels.Users, (eL eApiKindLevel) x.Content.Levels.Kinds, eI x.Content.Levels.User, eI x.Content.Levels.Message, eI x.Content.Levels.State, eI x.Content.Levels.Invite, eI x.Content.Levels.Kick, eI x.Content.Levels.Ban, eI x.Content.Levels.Redact, eI x.Hash, eS x.Sig.Server, eI x.Sig.Sum]
def zApiEvent : ApiEvent := ⟨0, s0, s0, 0, false, s0, 0, 0, [], [], zApiContent, 0, zApiSig⟩
instance : Inhabited ApiEvent := ⟨zApiEvent⟩
structure ApiRow where
  Pos : Int
  Id : Int
  Status : Int
  Gone : Bool
def eApiRow (x : ApiRow) : D := .agg [eI x.Pos, eI x.Id, eI x.Status, eB x.Gone]
def zApiRow : ApiRow := ⟨0, 0, 0, false⟩
instance : Inhabited ApiRow := ⟨zApiRow⟩
structure ApiEntry where
  Kind : Int
  Key : ByteArray
  Id : Int
def eApiEntry (x : ApiEntry) : D := .agg [eI x.Kind, eS x.Key, eI x.Id]
def zApiEntry : ApiEntry := ⟨0, s0, 0⟩
instance : Inhabited ApiEntry := ⟨zApiEntry⟩
structure ApiReceipt where
  User : ByteArray
  Thread : Int
  Id : Int
  Time : Int
def eApiReceipt (x : ApiReceipt) : D := .agg [eS x.User, eI x.Thread, eI x.Id, eI x.Time]
def zApiReceipt : ApiReceipt := ⟨s0, 0, 0, 0⟩
instance : Inhabited ApiReceipt := ⟨zApiReceipt⟩
structure ApiTyping where
  User : ByteArray
  Until : Int
def eApiTyping (x : ApiTyping) : D := .agg [eS x.User, eI x.Until]
def zApiTyping : ApiTyping := ⟨s0, 0⟩
instance : Inhabited ApiTyping := ⟨zApiTyping⟩
structure ApiRoom where
  Id : ByteArray
  Events : (List ApiEvent)
  Rows : (List ApiRow)
  Waiting : (List ApiEvent)
  Heads : (List Int)
  State : (List ApiEntry)
  Next : Int
  Receipts : (List ApiReceipt)
  Typing : (List ApiTyping)
def eApiRoom (x : ApiRoom) : D := .agg [eS x.Id, (eL eApiEvent) x.Events, (eL eApiRow) x.Rows, (eL eApiEvent) x.Waiting, (eL eI) x.Heads, (eL eApiEntry) x.State, eI x.Next, (eL eApiReceipt) x.Receipts, (eL eApiTyping) x.Typing]
def zApiRoom : ApiRoom := ⟨s0, [], [], [], [], [], 0, [], []⟩
instance : Inhabited ApiRoom := ⟨zApiRoom⟩
structure ApiQueue where
  To : ByteArray
  Next : Int
  Events : (List ApiEvent)
  Open : (List ApiEvent)
  Fails : Int
  At : Int
def eApiQueue (x : ApiQueue) : D := .agg [eS x.To, eI x.Next, (eL eApiEvent) x.Events, (eL eApiEvent) x.Open, eI x.Fails, eI x.At]
def zApiQueue : ApiQueue := ⟨s0, 0, [], [], 0, 0⟩
instance : Inhabited ApiQueue := ⟨zApiQueue⟩
structure ApiPacket where
  From : ByteArray
  To : ByteArray
  Kind : Int
  N : Int
  Room : ByteArray
  Events : (List ApiEvent)
  Ids : (List Int)
  Auth : (List ApiEvent)
  User : ByteArray
  Err : Int
def eApiPacket (x : ApiPacket) : D := .agg [eS x.From, eS x.To, eI x.Kind, eI x.N, eS x.Room, (eL eApiEvent) x.Events, (eL eI) x.Ids, (eL eApiEvent) x.Auth, eS x.User, eI x.Err]
def zApiPacket : ApiPacket := ⟨s0, s0, 0, 0, s0, [], [], [], s0, 0⟩
instance : Inhabited ApiPacket := ⟨zApiPacket⟩
structure ApiDevice where
  Id : ByteArray
  Key : Int
  Signed : Bool
def eApiDevice (x : ApiDevice) : D := .agg [eS x.Id, eI x.Key, eB x.Signed]
def zApiDevice : ApiDevice := ⟨s0, 0, false⟩
instance : Inhabited ApiDevice := ⟨zApiDevice⟩
structure ApiKeys where
  User : ByteArray
  Master : Int
  Pos : Int
  Devices : (List ApiDevice)
def eApiKeys (x : ApiKeys) : D := .agg [eS x.User, eI x.Master, eI x.Pos, (eL eApiDevice) x.Devices]
def zApiKeys : ApiKeys := ⟨s0, 0, 0, []⟩
instance : Inhabited ApiKeys := ⟨zApiKeys⟩
structure ApiOneTime where
  User : ByteArray
  Device : ByteArray
  Next : Int
  Left : Int
def eApiOneTime (x : ApiOneTime) : D := .agg [eS x.User, eS x.Device, eI x.Next, eI x.Left]
def zApiOneTime : ApiOneTime := ⟨s0, s0, 0, 0⟩
instance : Inhabited ApiOneTime := ⟨zApiOneTime⟩
structure ApiBucket where
  Left : Int
  At : Int
  Most : Int
  Every : Int
def eApiBucket (x : ApiBucket) : D := .agg [eI x.Left, eI x.At, eI x.Most, eI x.Every]
def zApiBucket : ApiBucket := ⟨0, 0, 0, 0⟩
instance : Inhabited ApiBucket := ⟨zApiBucket⟩
structure ApiLimit where
  User : ByteArray
  Bucket : ApiBucket
def eApiLimit (x : ApiLimit) : D := .agg [eS x.User, eI x.Bucket.Left, eI x.Bucket.At, eI x.Bucket.Most, eI x.Bucket.Every]
def zApiLimit : ApiLimit := ⟨s0, zApiBucket⟩
instance : Inhabited ApiLimit := ⟨zApiLimit⟩
structure ApiMedia where
  Server : ByteArray
  Name : ByteArray
  Size : Int
  At : Int
  Is : Int
def eApiMedia (x : ApiMedia) : D := .agg [eS x.Server, eS x.Name, eI x.Size, eI x.At, eI x.Is]
def zApiMedia : ApiMedia := ⟨s0, s0, 0, 0, 0⟩
instance : Inhabited ApiMedia := ⟨zApiMedia⟩
structure ApiServer where
  Name : ByteArray
  Rooms : (List ApiRoom)
  Queues : (List ApiQueue)
  Users : (List ByteArray)
  Pending : (List ApiPacket)
  Keys : (List ApiKeys)
  Stream : Int
  OneTime : (List ApiOneTime)
  Limits : (List ApiLimit)
  Media : (List ApiMedia)
  Down : Bool
  Now : Int
def eApiServer (x : ApiServer) : D := .agg [eS x.Name, (eL eApiRoom) x.Rooms, (eL eApiQueue) x.Queues, (eL eS) x.Users, (eL eApiPacket) x.Pending, (eL eApiKeys) x.Keys, eI x.Stream, (eL eApiOneTime) x.OneTime, (eL eApiLimit) x.Limits, (eL eApiMedia) x.Media, eB x.Down, eI x.Now]
def zApiServer : ApiServer := ⟨s0, [], [], [], [], [], 0, [], [], [], false, 0⟩
instance : Inhabited ApiServer := ⟨zApiServer⟩
structure ApiDeed where
  Kind : Int
  To : ByteArray
  Event : ApiEvent
def eApiDeed (x : ApiDeed) : D := .agg [eI x.Kind, eS x.To, eI x.Event.Id, eS x.Event.Room, eS x.Event.Sender, eI x.Event.Kind, eB x.Event.State, eS x.Event.Key, eI x.Event.Time, eI x.Event.Depth, (eL eI) x.Event.Prev, (eL eI) x.Event.Auth, eS x.Event.Content.Text, eI x.Event.Content.N, eI x.Event.Content.Target, eB x.Event.Content.Thread, eS x.Event.Content.Via, (eL eS) x.Event.Content.Allow, (eL eS) x.Event.Content.Deny, (eL eApiLevel) x.Event.Content.Levels.Users, (eL eApiKindLevel) x.Event.Content.Levels.Kinds, eI x.Event.Content.Levels.User, eI x.Event.Content.Levels.Message, eI x.Event.Content.Levels.State, eI x.Event.Content.Levels.Invite, eI x.Event.Content.Levels.Kick, eI x.Event.Content.Levels.Ban, eI x.Event.Content.Levels.Redact, eI x.Event.Hash, eS x.Event.Sig.Server, eI x.Event.Sig.Sum]
def zApiDeed : ApiDeed := ⟨0, s0, zApiEvent⟩
instance : Inhabited ApiDeed := ⟨zApiDeed⟩
structure EventWriter where
  b_ : (List Int)
def eEventWriter (x : EventWriter) : D := .agg [(eL eU8) x.b_]
def zEventWriter : EventWriter := ⟨[]⟩
instance : Inhabited EventWriter := ⟨zEventWriter⟩
structure ContentField where
  bit_ : Int
  check_ : Nat
def eContentField (x : ContentField) : D := .agg [eI x.bit_, eFn x.check_]
def zContentField : ContentField := ⟨0, 0⟩
instance : Inhabited ContentField := ⟨zContentField⟩
theorem fld43_10 : FieldOk Try.prog 43 10 10 := field_of (by kernel_rfl)
theorem ty39 : Ty Try.prog 39 true 16 := ty_of (by kernel_rfl)
theorem zero39 : (Try.prog.info? 39).bind (·.zero) = some (.agg #[.string s0, .int .i64 0, .int .i64 0, .bool false, .string s0, .slice none 0 0, .slice none 0 0, .slice none 0 0, .slice none 0 0, .int .i64 0, .int .i64 0, .int .i64 0, .int .i64 0, .int .i64 0, .int .i64 0, .int .i64 0]) := by kernel_rfl
theorem fld43_8 : FieldOk Try.prog 43 8 8 := field_of (by kernel_rfl)
theorem ty33 : Ty Try.prog 33 false 1 := ty_of (by kernel_rfl)
theorem und33 : Try.prog.underlying 33 = some (.slice 3) := by kernel_rfl
theorem fld43_9 : FieldOk Try.prog 43 9 9 := field_of (by kernel_rfl)
theorem fld39_5 : FieldOk Try.prog 39 5 5 := field_of (by kernel_rfl)
theorem ty24 : Ty Try.prog 24 false 1 := ty_of (by kernel_rfl)
theorem und24 : Try.prog.underlying 24 = some (.slice 9) := by kernel_rfl
theorem fld39_6 : FieldOk Try.prog 39 6 6 := field_of (by kernel_rfl)
theorem fld39_7 : FieldOk Try.prog 39 7 7 := field_of (by kernel_rfl)
theorem fld37_0 : FieldOk Try.prog 37 0 0 := field_of (by kernel_rfl)
theorem ty34 : Ty Try.prog 34 false 1 := ty_of (by kernel_rfl)
theorem und34 : Try.prog.underlying 34 = some (.slice 62) := by kernel_rfl
theorem fld37_1 : FieldOk Try.prog 37 1 1 := field_of (by kernel_rfl)
theorem ty35 : Ty Try.prog 35 false 1 := ty_of (by kernel_rfl)
theorem und35 : Try.prog.underlying 35 = some (.slice 90) := by kernel_rfl
theorem fld43_1 : FieldOk Try.prog 43 1 1 := field_of (by kernel_rfl)
theorem ty9 : Ty Try.prog 9 false 1 := ty_of (by kernel_rfl)
theorem und9 : Try.prog.underlying 9 = some (.string) := by kernel_rfl
theorem fld43_2 : FieldOk Try.prog 43 2 2 := field_of (by kernel_rfl)
theorem fld43_5 : FieldOk Try.prog 43 5 5 := field_of (by kernel_rfl)
theorem fld39_0 : FieldOk Try.prog 39 0 0 := field_of (by kernel_rfl)
theorem fld39_4 : FieldOk Try.prog 39 4 4 := field_of (by kernel_rfl)
theorem fld43_12 : FieldOk Try.prog 43 12 27 := field_of (by kernel_rfl)
theorem fld41_0 : FieldOk Try.prog 41 0 0 := field_of (by kernel_rfl)
theorem ty62 : Ty Try.prog 62 true 2 := ty_of (by kernel_rfl)
theorem fld62_0 : FieldOk Try.prog 62 0 0 := field_of (by kernel_rfl)
theorem fld31_0 : FieldOk Try.prog 31 0 0 := field_of (by kernel_rfl)
theorem fld45_1 : FieldOk Try.prog 45 1 1 := field_of (by kernel_rfl)
theorem fld45_2 : FieldOk Try.prog 45 2 2 := field_of (by kernel_rfl)
theorem ty43 : Ty Try.prog 43 true 29 := ty_of (by kernel_rfl)
theorem ent8 : entersB Try.prog 8 = true := by kernel_rfl
theorem ent30 : entersB Try.prog 30 = true := by kernel_rfl
theorem ent28 : entersB Try.prog 28 = true := by kernel_rfl
theorem ent29 : entersB Try.prog 29 = true := by kernel_rfl
theorem ent15 : entersB Try.prog 15 = true := by kernel_rfl
theorem fld45_0 : FieldOk Try.prog 45 0 0 := field_of (by kernel_rfl)
theorem ty3 : Ty Try.prog 3 false 1 := ty_of (by kernel_rfl)
theorem ent9 : entersB Try.prog 9 = true := by kernel_rfl
theorem ent16 : entersB Try.prog 16 = true := by kernel_rfl
theorem ent10 : entersB Try.prog 10 = true := by kernel_rfl
theorem zero43 : (Try.prog.info? 43).bind (·.zero) = some (.agg #[.int .i64 0, .string s0, .string s0, .int .i64 0, .bool false, .string s0, .int .i64 0, .int .i64 0, .slice none 0 0, .slice none 0 0, .string s0, .int .i64 0, .int .i64 0, .bool false, .string s0, .slice none 0 0, .slice none 0 0, .slice none 0 0, .slice none 0 0, .int .i64 0, .int .i64 0, .int .i64 0, .int .i64 0, .int .i64 0, .int .i64 0, .int .i64 0, .int .i64 0, .string s0, .int .i64 0]) := by kernel_rfl
theorem el33 : El Try.prog 33 3 1 8 := el_of (by kernel_rfl)
theorem zero3 : (Try.prog.info? 3).bind (·.zero) = some (.int .i64 0) := by kernel_rfl
theorem st39 : StructOk Try.prog 39 [(0, 1), (1, 1), (2, 1), (3, 1), (4, 1), (5, 1), (6, 1), (7, 9)] (.agg #[.string s0, .int .i64 0, .int .i64 0, .bool false, .string s0, .slice none 0 0, .slice none 0 0, .slice none 0 0, .slice none 0 0, .int .i64 0, .int .i64 0, .int .i64 0, .int .i64 0, .int .i64 0, .int .i64 0, .int .i64 0]) := struct_of (by kernel_rfl) zero39 (by kernel_rfl)
theorem st43 : StructOk Try.prog 43 [(0, 1), (1, 1), (2, 1), (3, 1), (4, 1), (5, 1), (6, 1), (7, 1), (8, 1), (9, 1), (10, 16), (26, 1), (27, 2)] (.agg #[.int .i64 0, .string s0, .string s0, .int .i64 0, .bool false, .string s0, .int .i64 0, .int .i64 0, .slice none 0 0, .slice none 0 0, .string s0, .int .i64 0, .int .i64 0, .bool false, .string s0, .slice none 0 0, .slice none 0 0, .slice none 0 0, .slice none 0 0, .int .i64 0, .int .i64 0, .int .i64 0, .int .i64 0, .int .i64 0, .int .i64 0, .int .i64 0, .int .i64 0, .string s0, .int .i64 0]) := struct_of (by kernel_rfl) zero43 (by kernel_rfl)
theorem ent97 : entersB Try.prog 97 = true := by kernel_rfl
theorem ent83 : entersB Try.prog 83 = true := by kernel_rfl
theorem ent81 : entersB Try.prog 81 = true := by kernel_rfl
theorem ent50 : entersB Try.prog 50 = true := by kernel_rfl
theorem ent51 : entersB Try.prog 51 = true := by kernel_rfl
theorem ent49 : entersB Try.prog 49 = true := by kernel_rfl
theorem ent33 : entersB Try.prog 33 = true := by kernel_rfl
theorem el79 : El Try.prog 79 5 1 1 := el_of (by kernel_rfl)
theorem zero5 : (Try.prog.info? 5).bind (·.zero) = some (.int .u8 0) := by kernel_rfl
theorem und79 : Try.prog.underlying 79 = some (.slice 5) := by kernel_rfl
theorem und5 : Try.prog.underlying 5 = some (.int .u8) := by kernel_rfl
theorem ent32 : entersB Try.prog 32 = true := by kernel_rfl
theorem ent31 : entersB Try.prog 31 = true := by kernel_rfl
theorem und3 : Try.prog.underlying 3 = some (.int .i64) := by kernel_rfl
theorem und120 : Try.prog.underlying 120 = some (.int .u64) := by kernel_rfl
theorem ent88 : entersB Try.prog 88 = true := by kernel_rfl
theorem ent87 : entersB Try.prog 87 = true := by kernel_rfl
theorem ent86 : entersB Try.prog 86 = true := by kernel_rfl
theorem ent89 : entersB Try.prog 89 = true := by kernel_rfl
theorem ent63 : entersB Try.prog 63 = true := by kernel_rfl
theorem fld39_1 : FieldOk Try.prog 39 1 1 := field_of (by kernel_rfl)
theorem ent64 : entersB Try.prog 64 = true := by kernel_rfl
theorem fld39_2 : FieldOk Try.prog 39 2 2 := field_of (by kernel_rfl)
theorem fld39_3 : FieldOk Try.prog 39 3 3 := field_of (by kernel_rfl)
theorem ty4 : Ty Try.prog 4 false 1 := ty_of (by kernel_rfl)
theorem ent65 : entersB Try.prog 65 = true := by kernel_rfl
theorem ent66 : entersB Try.prog 66 = true := by kernel_rfl
theorem ty37 : Ty Try.prog 37 true 9 := ty_of (by kernel_rfl)
theorem zero37 : (Try.prog.info? 37).bind (·.zero) = some (.agg #[.slice none 0 0, .slice none 0 0, .int .i64 0, .int .i64 0, .int .i64 0, .int .i64 0, .int .i64 0, .int .i64 0, .int .i64 0]) := by kernel_rfl
theorem zero62 : (Try.prog.info? 62).bind (·.zero) = some (.agg #[.string s0, .int .i64 0]) := by kernel_rfl
theorem fld62_1 : FieldOk Try.prog 62 1 1 := field_of (by kernel_rfl)
theorem ty90 : Ty Try.prog 90 true 2 := ty_of (by kernel_rfl)
theorem zero90 : (Try.prog.info? 90).bind (·.zero) = some (.agg #[.int .i64 0, .int .i64 0]) := by kernel_rfl
theorem fld90_0 : FieldOk Try.prog 90 0 0 := field_of (by kernel_rfl)
theorem ty32 : Ty Try.prog 32 false 1 := ty_of (by kernel_rfl)
theorem fld90_1 : FieldOk Try.prog 90 1 1 := field_of (by kernel_rfl)
theorem fld37_2 : FieldOk Try.prog 37 2 2 := field_of (by kernel_rfl)
theorem fld37_3 : FieldOk Try.prog 37 3 3 := field_of (by kernel_rfl)
theorem fld37_4 : FieldOk Try.prog 37 4 4 := field_of (by kernel_rfl)
theorem fld37_5 : FieldOk Try.prog 37 5 5 := field_of (by kernel_rfl)
theorem fld37_6 : FieldOk Try.prog 37 6 6 := field_of (by kernel_rfl)
theorem fld37_7 : FieldOk Try.prog 37 7 7 := field_of (by kernel_rfl)
theorem fld37_8 : FieldOk Try.prog 37 8 8 := field_of (by kernel_rfl)
theorem zero113 : (Try.prog.info? 113).bind (·.zero) = some (.agg #[.int .i64 0, .int .i64 0, .int .i64 0, .int .i64 0, .int .i64 0, .int .i64 0, .int .i64 0]) := by kernel_rfl
theorem arr113 : ArrOk Try.prog 113 1 (.agg #[.int .i64 0, .int .i64 0, .int .i64 0, .int .i64 0, .int .i64 0, .int .i64 0, .int .i64 0]) := arr_of (by kernel_rfl) zero113 (by kernel_rfl)
theorem und113 : Try.prog.underlying 113 = some (.array 7 3) := by kernel_rfl
theorem ty5 : Ty Try.prog 5 false 1 := ty_of (by kernel_rfl)
theorem ent53 : entersB Try.prog 53 = true := by kernel_rfl
theorem ent52 : entersB Try.prog 52 = true := by kernel_rfl
theorem ent38 : entersB Try.prog 38 = true := by kernel_rfl
theorem ent35 : entersB Try.prog 35 = true := by kernel_rfl
theorem el24 : El Try.prog 24 9 1 16 := el_of (by kernel_rfl)
theorem el34 : El Try.prog 34 62 2 24 := el_of (by kernel_rfl)
theorem el35 : El Try.prog 35 90 2 16 := el_of (by kernel_rfl)
theorem ent70 : entersB Try.prog 70 = true := by kernel_rfl
theorem ent46 : entersB Try.prog 46 = true := by kernel_rfl
theorem ent47 : entersB Try.prog 47 = true := by kernel_rfl
theorem ent48 : entersB Try.prog 48 = true := by kernel_rfl
theorem fld43_3 : FieldOk Try.prog 43 3 3 := field_of (by kernel_rfl)
theorem ent27 : entersB Try.prog 27 = true := by kernel_rfl
theorem zero99 : (Try.prog.info? 99).bind (·.zero) = some (.agg #[.slice none 0 0]) := by kernel_rfl
theorem st99 : StructOk Try.prog 99 [(0, 1)] (.agg #[.slice none 0 0]) := struct_of (by kernel_rfl) zero99 (by kernel_rfl)
theorem fld43_0 : FieldOk Try.prog 43 0 0 := field_of (by kernel_rfl)
theorem fld99_0 : FieldOk Try.prog 99 0 0 := field_of (by kernel_rfl)
theorem ty79 : Ty Try.prog 79 false 1 := ty_of (by kernel_rfl)
theorem ent55 : entersB Try.prog 55 = true := by kernel_rfl
theorem ent54 : entersB Try.prog 54 = true := by kernel_rfl
theorem zero9 : (Try.prog.info? 9).bind (·.zero) = some (.string s0) := by kernel_rfl
theorem ent57 : entersB Try.prog 57 = true := by kernel_rfl
theorem ent56 : entersB Try.prog 56 = true := by kernel_rfl
theorem fld43_4 : FieldOk Try.prog 43 4 4 := field_of (by kernel_rfl)
theorem el121 : El Try.prog 121 4 1 1 := el_of (by kernel_rfl)
theorem zero4 : (Try.prog.info? 4).bind (·.zero) = some (.bool false) := by kernel_rfl
theorem und121 : Try.prog.underlying 121 = some (.slice 4) := by kernel_rfl
theorem ent59 : entersB Try.prog 59 = true := by kernel_rfl
theorem ent58 : entersB Try.prog 58 = true := by kernel_rfl
theorem fld43_6 : FieldOk Try.prog 43 6 6 := field_of (by kernel_rfl)
theorem fld43_7 : FieldOk Try.prog 43 7 7 := field_of (by kernel_rfl)
theorem el122 : El Try.prog 122 33 1 24 := el_of (by kernel_rfl)
theorem zero33 : (Try.prog.info? 33).bind (·.zero) = some (.slice none 0 0) := by kernel_rfl
theorem und122 : Try.prog.underlying 122 = some (.slice 33) := by kernel_rfl
theorem ent98 : entersB Try.prog 98 = true := by kernel_rfl
theorem ent84 : entersB Try.prog 84 = true := by kernel_rfl
theorem ent61 : entersB Try.prog 61 = true := by kernel_rfl
theorem ent60 : entersB Try.prog 60 = true := by kernel_rfl
theorem fld43_11 : FieldOk Try.prog 43 11 26 := field_of (by kernel_rfl)
theorem fld41_1 : FieldOk Try.prog 41 1 1 := field_of (by kernel_rfl)
theorem ent34 : entersB Try.prog 34 = true := by kernel_rfl
theorem zero41 : (Try.prog.info? 41).bind (·.zero) = some (.agg #[.string s0, .int .i64 0]) := by kernel_rfl
theorem st41 : StructOk Try.prog 41 [(0, 1), (1, 1)] (.agg #[.string s0, .int .i64 0]) := struct_of (by kernel_rfl) zero41 (by kernel_rfl)
theorem ty41 : Ty Try.prog 41 true 2 := ty_of (by kernel_rfl)
theorem ent36 : entersB Try.prog 36 = true := by kernel_rfl
theorem ent23 : entersB Try.prog 23 = true := by kernel_rfl
theorem ent21 : entersB Try.prog 21 = true := by kernel_rfl
theorem zero58 : (Try.prog.info? 58).bind (·.zero) = some (.agg #[.string s0, .string s0, .int .i64 0, .int .i64 0, .string s0, .slice none 0 0, .slice none 0 0, .slice none 0 0, .string s0, .int .i64 0]) := by kernel_rfl
theorem el56 : El Try.prog 56 43 29 376 := el_of (by kernel_rfl)
theorem st58 : StructOk Try.prog 58 [(0, 1), (1, 1), (2, 1), (3, 1), (4, 1), (5, 1), (6, 1), (7, 1), (8, 1), (9, 1)] (.agg #[.string s0, .string s0, .int .i64 0, .int .i64 0, .string s0, .slice none 0 0, .slice none 0 0, .slice none 0 0, .string s0, .int .i64 0]) := struct_of (by kernel_rfl) zero58 (by kernel_rfl)
theorem ty58 : Ty Try.prog 58 true 10 := ty_of (by kernel_rfl)
theorem ent85 : entersB Try.prog 85 = true := by kernel_rfl
theorem ent62 : entersB Try.prog 62 = true := by kernel_rfl
theorem ent37 : entersB Try.prog 37 = true := by kernel_rfl
theorem ty31 : Ty Try.prog 31 true 12 := ty_of (by kernel_rfl)
theorem ty45 : Ty Try.prog 45 true 31 := ty_of (by kernel_rfl)
theorem ent5 : entersB Try.prog 5 = true := by kernel_rfl
theorem ent19 : entersB Try.prog 19 = true := by kernel_rfl
theorem ent18 : entersB Try.prog 18 = true := by kernel_rfl
theorem ent17 : entersB Try.prog 17 = true := by kernel_rfl
theorem el25 : El Try.prog 25 58 10 160 := el_of (by kernel_rfl)
theorem ent20 : entersB Try.prog 20 = true := by kernel_rfl
theorem ent22 : entersB Try.prog 22 = true := by kernel_rfl
theorem ent90 : entersB Try.prog 90 = true := by kernel_rfl
theorem ent67 : entersB Try.prog 67 = true := by kernel_rfl
theorem ent68 : entersB Try.prog 68 = true := by kernel_rfl
theorem ent69 : entersB Try.prog 69 = true := by kernel_rfl
theorem ent91 : entersB Try.prog 91 = true := by kernel_rfl
theorem ent92 : entersB Try.prog 92 = true := by kernel_rfl
theorem ent95 : entersB Try.prog 95 = true := by kernel_rfl
theorem ent71 : entersB Try.prog 71 = true := by kernel_rfl
theorem ent93 : entersB Try.prog 93 = true := by kernel_rfl
theorem ent94 : entersB Try.prog 94 = true := by kernel_rfl
theorem ent72 : entersB Try.prog 72 = true := by kernel_rfl
theorem zero116 : (Try.prog.info? 116).bind (·.zero) = some (.agg #[.int .i64 0, .nilFunc]) := by kernel_rfl
theorem st116 : StructOk Try.prog 116 [(0, 1), (1, 1)] (.agg #[.int .i64 0, .nilFunc]) := struct_of (by kernel_rfl) zero116 (by kernel_rfl)
theorem el117 : El Try.prog 117 116 2 16 := el_of (by kernel_rfl)
theorem und117 : Try.prog.underlying 117 = some (.slice 116) := by kernel_rfl
theorem ty116 : Ty Try.prog 116 true 2 := ty_of (by kernel_rfl)
theorem fld116_0 : FieldOk Try.prog 116 0 0 := field_of (by kernel_rfl)
theorem fld116_1 : FieldOk Try.prog 116 1 1 := field_of (by kernel_rfl)
theorem ty85 : Ty Try.prog 85 false 1 := ty_of (by kernel_rfl)
theorem ent79 : entersB Try.prog 79 = true := by kernel_rfl
theorem ent73 : entersB Try.prog 73 = true := by kernel_rfl
theorem ent74 : entersB Try.prog 74 = true := by kernel_rfl
theorem ent75 : entersB Try.prog 75 = true := by kernel_rfl
theorem ent76 : entersB Try.prog 76 = true := by kernel_rfl
theorem ent77 : entersB Try.prog 77 = true := by kernel_rfl
theorem ent78 : entersB Try.prog 78 = true := by kernel_rfl
theorem ent80 : entersB Try.prog 80 = true := by kernel_rfl
theorem ent39 : entersB Try.prog 39 = true := by kernel_rfl
theorem und4 : Try.prog.underlying 4 = some (.bool) := by kernel_rfl
theorem ent40 : entersB Try.prog 40 = true := by kernel_rfl
theorem ent41 : entersB Try.prog 41 = true := by kernel_rfl
theorem ent42 : entersB Try.prog 42 = true := by kernel_rfl
def qApiLevel (x y : ApiLevel) : Bool := (x.User.toList == y.User.toList && (x.N == y.N && true))
theorem qApiLevel_ok62 (x y : ApiLevel) : EqOk Try.prog 2 62 [.string x.User, .int .i64 x.N] [.string y.User, .int .i64 y.N] (qApiLevel x y) := ⟨fun d w => eqS_of (by kernel_rfl) (by kernel_rfl) (by kernel_rfl) (l := [(9, 0), (3, 1)]) (by kernel_rfl) (eqF_cons (part_leaf ty9 (by kernel_rfl) w) (part_leaf ty9 (by kernel_rfl) w) (run_equalIn_string w _ _ _ _ und9) <| eqF_cons (part_leaf ty3 (by kernel_rfl) w) (part_leaf ty3 (by kernel_rfl) w) (run_equalIn_int w _ _ .i64 _ _ _ und3) <| eqF_nil _ _ _ _)⟩
theorem eqg62 : Program.eqGuardType Try.prog (Program.depth Try.prog) 62 = false := by kernel_rfl
theorem und32 : Try.prog.underlying 32 = some (.int .i64) := by kernel_rfl
def qApiKindLevel (x y : ApiKindLevel) : Bool := (x.Kind == y.Kind && (x.N == y.N && true))
theorem qApiKindLevel_ok90 (x y : ApiKindLevel) : EqOk Try.prog 2 90 [.int .i64 x.Kind, .int .i64 x.N] [.int .i64 y.Kind, .int .i64 y.N] (qApiKindLevel x y) := ⟨fun d w => eqS_of (by kernel_rfl) (by kernel_rfl) (by kernel_rfl) (l := [(32, 0), (3, 1)]) (by kernel_rfl) (eqF_cons (part_leaf ty32 (by kernel_rfl) w) (part_leaf ty32 (by kernel_rfl) w) (run_equalIn_int w _ _ .i64 _ _ _ und32) <| eqF_cons (part_leaf ty3 (by kernel_rfl) w) (part_leaf ty3 (by kernel_rfl) w) (run_equalIn_int w _ _ .i64 _ _ _ und3) <| eqF_nil _ _ _ _)⟩
theorem eqg90 : Program.eqGuardType Try.prog (Program.depth Try.prog) 90 = false := by kernel_rfl
theorem ent43 : entersB Try.prog 43 = true := by kernel_rfl
theorem ent44 : entersB Try.prog 44 = true := by kernel_rfl
theorem ent45 : entersB Try.prog 45 = true := by kernel_rfl
theorem ent24 : entersB Try.prog 24 = true := by kernel_rfl
theorem ent25 : entersB Try.prog 25 = true := by kernel_rfl
theorem ent26 : entersB Try.prog 26 = true := by kernel_rfl
def qApiSig (x y : ApiSig) : Bool := (x.Server.toList == y.Server.toList && (x.Sum == y.Sum && true))
theorem qApiSig_ok41 (x y : ApiSig) : EqOk Try.prog 2 41 [.string x.Server, .int .i64 x.Sum] [.string y.Server, .int .i64 y.Sum] (qApiSig x y) := ⟨fun d w => eqS_of (by kernel_rfl) (by kernel_rfl) (by kernel_rfl) (l := [(9, 0), (3, 1)]) (by kernel_rfl) (eqF_cons (part_leaf ty9 (by kernel_rfl) w) (part_leaf ty9 (by kernel_rfl) w) (run_equalIn_string w _ _ _ _ und9) <| eqF_cons (part_leaf ty3 (by kernel_rfl) w) (part_leaf ty3 (by kernel_rfl) w) (run_equalIn_int w _ _ .i64 _ _ _ und3) <| eqF_nil _ _ _ _)⟩
theorem eqg41 : Program.eqGuardType Try.prog (Program.depth Try.prog) 41 = false := by kernel_rfl
theorem und56 : Try.prog.underlying 56 = some (.slice 43) := by kernel_rfl
theorem ent13 : entersB Try.prog 13 = true := by kernel_rfl
theorem zero31 : (Try.prog.info? 31).bind (·.zero) = some (.agg #[.string s0, .slice none 0 0, .slice none 0 0, .slice none 0 0, .slice none 0 0, .slice none 0 0, .int .i64 0, .slice none 0 0, .slice none 0 0, .slice none 0 0, .bool false, .int .i64 0]) := by kernel_rfl
theorem st31 : StructOk Try.prog 31 [(0, 1), (1, 1), (2, 1), (3, 1), (4, 1), (5, 1), (6, 1), (7, 1), (8, 1), (9, 1), (10, 1), (11, 1)] (.agg #[.string s0, .slice none 0 0, .slice none 0 0, .slice none 0 0, .slice none 0 0, .slice none 0 0, .int .i64 0, .slice none 0 0, .slice none 0 0, .slice none 0 0, .bool false, .int .i64 0]) := struct_of (by kernel_rfl) zero31 (by kernel_rfl)
theorem ent12 : entersB Try.prog 12 = true := by kernel_rfl
theorem zero45 : (Try.prog.info? 45).bind (·.zero) = some (.agg #[.int .i64 0, .string s0, .int .i64 0, .string s0, .string s0, .int .i64 0, .bool false, .string s0, .int .i64 0, .int .i64 0, .slice none 0 0, .slice none 0 0, .string s0, .int .i64 0, .int .i64 0, .bool false, .string s0, .slice none 0 0, .slice none 0 0, .slice none 0 0, .slice none 0 0, .int .i64 0, .int .i64 0, .int .i64 0, .int .i64 0, .int .i64 0, .int .i64 0, .int .i64 0, .int .i64 0, .string s0, .int .i64 0]) := by kernel_rfl
theorem st45 : StructOk Try.prog 45 [(0, 1), (1, 1), (2, 29)] (.agg #[.int .i64 0, .string s0, .int .i64 0, .string s0, .string s0, .int .i64 0, .bool false, .string s0, .int .i64 0, .int .i64 0, .slice none 0 0, .slice none 0 0, .string s0, .int .i64 0, .int .i64 0, .bool false, .string s0, .slice none 0 0, .slice none 0 0, .slice none 0 0, .slice none 0 0, .int .i64 0, .int .i64 0, .int .i64 0, .int .i64 0, .int .i64 0, .int .i64 0, .int .i64 0, .int .i64 0, .string s0, .int .i64 0]) := struct_of (by kernel_rfl) zero45 (by kernel_rfl)
theorem ent11 : entersB Try.prog 11 = true := by kernel_rfl
theorem und25 : Try.prog.underlying 25 = some (.slice 58) := by kernel_rfl
theorem fld58_5 : FieldOk Try.prog 58 5 5 := field_of (by kernel_rfl)
theorem ty56 : Ty Try.prog 56 false 1 := ty_of (by kernel_rfl)
theorem fld58_0 : FieldOk Try.prog 58 0 0 := field_of (by kernel_rfl)
theorem fld58_1 : FieldOk Try.prog 58 1 1 := field_of (by kernel_rfl)
theorem ent14 : entersB Try.prog 14 = true := by kernel_rfl
theorem ent4 : entersB Try.prog 4 = true := by kernel_rfl
theorem ent6 : entersB Try.prog 6 = true := by kernel_rfl
theorem ent7 : entersB Try.prog 7 = true := by kernel_rfl
instance kn : Kn Try.prog where
  und := [(9, .string), (5, .int .u8), (3, .int .i64), (120, .int .u64), (4, .bool), (32, .int .i64)]
  hund := ⟨und9, und5, und3, und120, und4, und32, trivial⟩
  ty := [(39, true, 16), (33, false, 1), (24, false, 1), (34, false, 1), (35, false, 1), (9, false, 1), (62, true, 2), (43, true, 29), (3, false, 1), (4, false, 1), (37, true, 9), (90, true, 2), (32, false, 1), (5, false, 1), (79, false, 1), (41, true, 2), (58, true, 10), (31, true, 12), (45, true, 31), (116, true, 2), (85, false, 1), (56, false, 1)]
  hty := ⟨ty39, ty33, ty24, ty34, ty35, ty9, ty62, ty43, ty3, ty4, ty37, ty90, ty32, ty5, ty79, ty41, ty58, ty31, ty45, ty116, ty85, ty56, trivial⟩
  fld := [((43, 10), 10), ((43, 8), 8), ((43, 9), 9), ((39, 5), 5), ((39, 6), 6), ((39, 7), 7), ((37, 0), 0), ((37, 1), 1), ((43, 1), 1), ((43, 2), 2), ((43, 5), 5), ((39, 0), 0), ((39, 4), 4), ((43, 12), 27), ((41, 0), 0), ((62, 0), 0), ((31, 0), 0), ((45, 1), 1), ((45, 2), 2), ((45, 0), 0), ((39, 1), 1), ((39, 2), 2), ((39, 3), 3), ((62, 1), 1), ((90, 0), 0), ((90, 1), 1), ((37, 2), 2), ((37, 3), 3), ((37, 4), 4), ((37, 5), 5), ((37, 6), 6), ((37, 7), 7), ((37, 8), 8), ((43, 3), 3), ((43, 0), 0), ((99, 0), 0), ((43, 4), 4), ((43, 6), 6), ((43, 7), 7), ((43, 11), 26), ((41, 1), 1), ((116, 0), 0), ((116, 1), 1), ((58, 5), 5), ((58, 0), 0), ((58, 1), 1)]
  hfld := ⟨fld43_10, fld43_8, fld43_9, fld39_5, fld39_6, fld39_7, fld37_0, fld37_1, fld43_1, fld43_2, fld43_5, fld39_0, fld39_4, fld43_12, fld41_0, fld62_0, fld31_0, fld45_1, fld45_2, fld45_0, fld39_1, fld39_2, fld39_3, fld62_1, fld90_0, fld90_1, fld37_2, fld37_3, fld37_4, fld37_5, fld37_6, fld37_7, fld37_8, fld43_3, fld43_0, fld99_0, fld43_4, fld43_6, fld43_7, fld43_11, fld41_1, fld116_0, fld116_1, fld58_5, fld58_0, fld58_1, trivial⟩
  part := []
  hpart := trivial
  zero := [(39, .agg #[.string s0, .int .i64 0, .int .i64 0, .bool false, .string s0, .slice none 0 0, .slice none 0 0, .slice none 0 0, .slice none 0 0, .int .i64 0, .int .i64 0, .int .i64 0, .int .i64 0, .int .i64 0, .int .i64 0, .int .i64 0]), (43, .agg #[.int .i64 0, .string s0, .string s0, .int .i64 0, .bool false, .string s0, .int .i64 0, .int .i64 0, .slice none 0 0, .slice none 0 0, .string s0, .int .i64 0, .int .i64 0, .bool false, .string s0, .slice none 0 0, .slice none 0 0, .slice none 0 0, .slice none 0 0, .int .i64 0, .int .i64 0, .int .i64 0, .int .i64 0, .int .i64 0, .int .i64 0, .int .i64 0, .int .i64 0, .string s0, .int .i64 0]), (3, .int .i64 0), (5, .int .u8 0), (37, .agg #[.slice none 0 0, .slice none 0 0, .int .i64 0, .int .i64 0, .int .i64 0, .int .i64 0, .int .i64 0, .int .i64 0, .int .i64 0]), (62, .agg #[.string s0, .int .i64 0]), (90, .agg #[.int .i64 0, .int .i64 0]), (113, .agg #[.int .i64 0, .int .i64 0, .int .i64 0, .int .i64 0, .int .i64 0, .int .i64 0, .int .i64 0]), (99, .agg #[.slice none 0 0]), (9, .string s0), (4, .bool false), (33, .slice none 0 0), (41, .agg #[.string s0, .int .i64 0]), (58, .agg #[.string s0, .string s0, .int .i64 0, .int .i64 0, .string s0, .slice none 0 0, .slice none 0 0, .slice none 0 0, .string s0, .int .i64 0]), (116, .agg #[.int .i64 0, .nilFunc]), (31, .agg #[.string s0, .slice none 0 0, .slice none 0 0, .slice none 0 0, .slice none 0 0, .slice none 0 0, .int .i64 0, .slice none 0 0, .slice none 0 0, .slice none 0 0, .bool false, .int .i64 0]), (45, .agg #[.int .i64 0, .string s0, .int .i64 0, .string s0, .string s0, .int .i64 0, .bool false, .string s0, .int .i64 0, .int .i64 0, .slice none 0 0, .slice none 0 0, .string s0, .int .i64 0, .int .i64 0, .bool false, .string s0, .slice none 0 0, .slice none 0 0, .slice none 0 0, .slice none 0 0, .int .i64 0, .int .i64 0, .int .i64 0, .int .i64 0, .int .i64 0, .int .i64 0, .int .i64 0, .int .i64 0, .string s0, .int .i64 0])]
  hzero := ⟨⟨zero39, by kernel_rfl⟩, ⟨zero43, by kernel_rfl⟩, ⟨zero3, by kernel_rfl⟩, ⟨zero5, by kernel_rfl⟩, ⟨zero37, by kernel_rfl⟩, ⟨zero62, by kernel_rfl⟩, ⟨zero90, by kernel_rfl⟩, ⟨zero113, by kernel_rfl⟩, ⟨zero99, by kernel_rfl⟩, ⟨zero9, by kernel_rfl⟩, ⟨zero4, by kernel_rfl⟩, ⟨zero33, by kernel_rfl⟩, ⟨zero41, by kernel_rfl⟩, ⟨zero58, by kernel_rfl⟩, ⟨zero116, by kernel_rfl⟩, ⟨zero31, by kernel_rfl⟩, ⟨zero45, by kernel_rfl⟩, trivial⟩
  st := [(39, [(0, 1), (1, 1), (2, 1), (3, 1), (4, 1), (5, 1), (6, 1), (7, 9)], .agg #[.string s0, .int .i64 0, .int .i64 0, .bool false, .string s0, .slice none 0 0, .slice none 0 0, .slice none 0 0, .slice none 0 0, .int .i64 0, .int .i64 0, .int .i64 0, .int .i64 0, .int .i64 0, .int .i64 0, .int .i64 0]), (43, [(0, 1), (1, 1), (2, 1), (3, 1), (4, 1), (5, 1), (6, 1), (7, 1), (8, 1), (9, 1), (10, 16), (26, 1), (27, 2)], .agg #[.int .i64 0, .string s0, .string s0, .int .i64 0, .bool false, .string s0, .int .i64 0, .int .i64 0, .slice none 0 0, .slice none 0 0, .string s0, .int .i64 0, .int .i64 0, .bool false, .string s0, .slice none 0 0, .slice none 0 0, .slice none 0 0, .slice none 0 0, .int .i64 0, .int .i64 0, .int .i64 0, .int .i64 0, .int .i64 0, .int .i64 0, .int .i64 0, .int .i64 0, .string s0, .int .i64 0]), (99, [(0, 1)], .agg #[.slice none 0 0]), (41, [(0, 1), (1, 1)], .agg #[.string s0, .int .i64 0]), (58, [(0, 1), (1, 1), (2, 1), (3, 1), (4, 1), (5, 1), (6, 1), (7, 1), (8, 1), (9, 1)], .agg #[.string s0, .string s0, .int .i64 0, .int .i64 0, .string s0, .slice none 0 0, .slice none 0 0, .slice none 0 0, .string s0, .int .i64 0]), (116, [(0, 1), (1, 1)], .agg #[.int .i64 0, .nilFunc]), (31, [(0, 1), (1, 1), (2, 1), (3, 1), (4, 1), (5, 1), (6, 1), (7, 1), (8, 1), (9, 1), (10, 1), (11, 1)], .agg #[.string s0, .slice none 0 0, .slice none 0 0, .slice none 0 0, .slice none 0 0, .slice none 0 0, .int .i64 0, .slice none 0 0, .slice none 0 0, .slice none 0 0, .bool false, .int .i64 0]), (45, [(0, 1), (1, 1), (2, 29)], .agg #[.int .i64 0, .string s0, .int .i64 0, .string s0, .string s0, .int .i64 0, .bool false, .string s0, .int .i64 0, .int .i64 0, .slice none 0 0, .slice none 0 0, .string s0, .int .i64 0, .int .i64 0, .bool false, .string s0, .slice none 0 0, .slice none 0 0, .slice none 0 0, .slice none 0 0, .int .i64 0, .int .i64 0, .int .i64 0, .int .i64 0, .int .i64 0, .int .i64 0, .int .i64 0, .int .i64 0, .string s0, .int .i64 0])]
  hst := ⟨st39, st43, st99, st41, st58, st116, st31, st45, trivial⟩
  arr := [(113, 1, .agg #[.int .i64 0, .int .i64 0, .int .i64 0, .int .i64 0, .int .i64 0, .int .i64 0, .int .i64 0])]
  harr := ⟨arr113, trivial⟩
end Go.Proofs.Ytmegkokogomfnaa
