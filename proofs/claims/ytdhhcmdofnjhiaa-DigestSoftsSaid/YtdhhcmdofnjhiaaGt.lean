/- The data of the program, typed; facts on its types (printed by gogen.py). No condition. -/
import Derived.Test.YtdhhcmdofnjhiaaHand
import Derived.Test.YtdhhcmdofnjhiaaAvW
import Derived.Test.YtdhhcmdofnjhiaaProg
namespace Go.Proofs.Ytdhhcmdofnjhiaa
open Go.RowKit
def s0 : ByteArray := ⟨#[]⟩
def eK (k : IntKind) (n : Int) : D := .lit (.int k n)
def s__21r_3aa : ByteArray := ⟨#[33, 114, 58, 97]⟩
structure ApiLevel where
  User : ByteArray
  N : Int
def eApiLevel (x : ApiLevel) : D := .agg [eS x.User, eI x.N]
def zApiLevel : ApiLevel := ⟨s0, 0⟩
instance : Inhabited ApiLevel := ⟨zApiLevel⟩
structure ApiKindLevel where
  Kind : Int
  N : Int
def eApiKindLevel (x : ApiKindLevel) : D := .agg [eI x.Kind, eI x.N]
def zApiKindLevel : ApiKindLevel := ⟨0, 0⟩
instance : Inhabited ApiKindLevel := ⟨zApiKindLevel⟩
structure ApiLevels where
  Users : (List ApiLevel)
  Kinds : (List ApiKindLevel)
  User : Int
  Message : Int
  State : Int
  Invite : Int
  Kick : Int
  Ban : Int
  Redact : Int
def eApiLevels (x : ApiLevels) : D := .agg [(eL eApiLevel) x.Users, (eL eApiKindLevel) x.Kinds, eI x.User, eI x.Message, eI x.State, eI x.Invite, eI x.Kick, eI x.Ban, eI x.Redact]
def zApiLevels : ApiLevels := ⟨[], [], 0, 0, 0, 0, 0, 0, 0⟩
instance : Inhabited ApiLevels := ⟨zApiLevels⟩
structure ApiContent where
  Text : ByteArray
  N : Int
  Target : Int
  Thread : Bool
  Via : ByteArray
  Allow : (List ByteArray)
  Deny : (List ByteArray)
  Levels : ApiLevels
def eApiContent (x : ApiContent) : D := .agg [eS x.Text, eI x.N, eI x.Target, eB x.Thread, eS x.Via, (eL eS) x.Allow, (eL eS) x.Deny, (eL eApiLevel) x.Levels.Users, (eL eApiKindLevel) x.Levels.Kinds, eI x.Levels.User, eI x.Levels.Message, eI x.Levels.State, eI x.Levels.Invite, eI x.Levels.Kick, eI x.Levels.Ban, eI x.Levels.Redact]
def zApiContent : ApiContent := ⟨s0, 0, 0, false, s0, [], [], zApiLevels⟩
instance : Inhabited ApiContent := ⟨zApiContent⟩
structure ApiSig where
  Server : ByteArray
  Sum : Int
def eApiSig (x : ApiSig) : D := .agg [eS x.Server, eI x.Sum]
def zApiSig : ApiSig := ⟨s0, 0⟩
instance : Inhabited ApiSig := ⟨zApiSig⟩
structure ApiEvent where
  Id : Int
  Room : ByteArray
  Sender : ByteArray
  Kind : Int
  State : Bool
  Key : ByteArray
  Time : Int
  Depth : Int
  Prev : (List Int)
  Auth : (List Int)
  Content : ApiContent
  Hash : Int
  Sig : ApiSig
def eApiEvent (x : ApiEvent) : D := .agg [eI x.Id, eS x.Room, eS x.Sender, eI x.Kind, eB x.State, eS x.Key, eI x.Time, eI x.Depth, (eL eI) x.Prev, (eL eI) x.Auth, eS x.Content.Text, eI x.Content.N, eI x.Content.Target, eB x.Content.Thread, eS x.Content.Via, (eL eS) x.Content.Allow, (eL eS) x.Content.Deny, (eL eApiLevel) x.Content.Levels.Users, (eL eApiKindLevel) x.Content.Levels.Kinds, eI x.Content.Levels.User, eI x.Content.Levels.Message, eI x.Content.Levels.State, eI x.Content.Levels.Invite, eI x.Content.Levels.Kick, eI x.Content.Levels.Ban, eI x.Content.Levels.Redact, eI x.Hash, eS x.Sig.Server, eI x.Sig.Sum]
def zApiEvent : ApiEvent := ⟨0, s0, s0, 0, false, s0, 0, 0, [], [], zApiContent, 0, zApiSig⟩
instance : Inhabited ApiEvent := ⟨zApiEvent⟩
structure ApiRow where
  Pos : Int
  Id : Int
  Status : Int
  Gone : Bool
def eApiRow (x : ApiRow) : D := .agg [eI x.Pos, eI x.Id, eI x.Status, eB x.Gone]
def zApiRow : ApiRow := ⟨0, 0, 0, false⟩
instance : Inhabited ApiRow := ⟨zApiRow⟩
structure ApiEntry where
  Kind : Int
  Key : ByteArray
  Id : Int
def eApiEntry (x : ApiEntry) : D := .agg [eI x.Kind, eS x.Key, eI x.Id]
def zApiEntry : ApiEntry := ⟨0, s0, 0⟩
instance : Inhabited ApiEntry := ⟨zApiEntry⟩
structure ApiReceipt where
  User : ByteArray
  Thread : Int
  Id : Int
  Time : Int
def eApiReceipt (x : ApiReceipt) : D := .agg [eS x.User, eI x.Thread, eI x.Id, eI x.Time]
def zApiReceipt : ApiReceipt := ⟨s0, 0, 0, 0⟩
instance : Inhabited ApiReceipt := ⟨zApiReceipt⟩
structure ApiTyping where
  User : ByteArray
  Until : Int
def eApiTyping (x : ApiTyping) : D := .agg [eS x.User, eI x.Until]
def zApiTyping : ApiTyping := ⟨s0, 0⟩
instance : Inhabited ApiTyping := ⟨zApiTyping⟩
structure ApiRoom where
  Id : ByteArray
  Events : (List ApiEvent)
  Rows : (List ApiRow)
  Waiting : (List ApiEvent)
  Heads : (List Int)
  State : (List ApiEntry)
  Next : Int
  Receipts : (List ApiReceipt)
  Typing : (List ApiTyping)
def eApiRoom (x : ApiRoom) : D := .agg [eS x.Id, (eL eApiEvent) x.Events, (eL eApiRow) x.Rows, (eL eApiEvent) x.Waiting, (eL eI) x.Heads, (eL eApiEntry) x.State, eI x.Next, (eL eApiReceipt) x.Receipts, (eL eApiTyping) x.Typing]
def zApiRoom : ApiRoom := ⟨s0, [], [], [], [], [], 0, [], []⟩
instance : Inhabited ApiRoom := ⟨zApiRoom⟩
theorem fld65_10 : FieldOk Try.prog 65 10 10 := field_of (by kernel_rfl)
theorem ty61 : Ty Try.prog 61 true 16 := ty_of (by kernel_rfl)
theorem zero61 : (Try.prog.info? 61).bind (·.zero) = some (.agg #[.string s0, .int .i64 0, .int .i64 0, .bool false, .string s0, .slice none 0 0, .slice none 0 0, .slice none 0 0, .slice none 0 0, .int .i64 0, .int .i64 0, .int .i64 0, .int .i64 0, .int .i64 0, .int .i64 0, .int .i64 0]) := by kernel_rfl
theorem fld65_8 : FieldOk Try.prog 65 8 8 := field_of (by kernel_rfl)
theorem ty24 : Ty Try.prog 24 false 1 := ty_of (by kernel_rfl)
theorem und24 : Try.prog.underlying 24 = some (.slice 3) := by kernel_rfl
theorem fld65_9 : FieldOk Try.prog 65 9 9 := field_of (by kernel_rfl)
theorem fld61_5 : FieldOk Try.prog 61 5 5 := field_of (by kernel_rfl)
theorem ty55 : Ty Try.prog 55 false 1 := ty_of (by kernel_rfl)
theorem und55 : Try.prog.underlying 55 = some (.slice 9) := by kernel_rfl
theorem fld61_6 : FieldOk Try.prog 61 6 6 := field_of (by kernel_rfl)
theorem fld61_7 : FieldOk Try.prog 61 7 7 := field_of (by kernel_rfl)
theorem fld59_0 : FieldOk Try.prog 59 0 0 := field_of (by kernel_rfl)
theorem ty56 : Ty Try.prog 56 false 1 := ty_of (by kernel_rfl)
theorem und56 : Try.prog.underlying 56 = some (.slice 81) := by kernel_rfl
theorem fld59_1 : FieldOk Try.prog 59 1 1 := field_of (by kernel_rfl)
theorem ty57 : Ty Try.prog 57 false 1 := ty_of (by kernel_rfl)
theorem und57 : Try.prog.underlying 57 = some (.slice 123) := by kernel_rfl
theorem fld65_1 : FieldOk Try.prog 65 1 1 := field_of (by kernel_rfl)
theorem ty9 : Ty Try.prog 9 false 1 := ty_of (by kernel_rfl)
theorem und9 : Try.prog.underlying 9 = some (.string) := by kernel_rfl
theorem fld65_2 : FieldOk Try.prog 65 2 2 := field_of (by kernel_rfl)
theorem fld65_5 : FieldOk Try.prog 65 5 5 := field_of (by kernel_rfl)
theorem fld61_0 : FieldOk Try.prog 61 0 0 := field_of (by kernel_rfl)
theorem fld61_4 : FieldOk Try.prog 61 4 4 := field_of (by kernel_rfl)
theorem fld65_12 : FieldOk Try.prog 65 12 27 := field_of (by kernel_rfl)
theorem fld63_0 : FieldOk Try.prog 63 0 0 := field_of (by kernel_rfl)
theorem ty81 : Ty Try.prog 81 true 2 := ty_of (by kernel_rfl)
theorem fld81_0 : FieldOk Try.prog 81 0 0 := field_of (by kernel_rfl)
theorem und22 : Try.prog.underlying 22 = some (.slice 65) := by kernel_rfl
theorem ty65 : Ty Try.prog 65 true 29 := ty_of (by kernel_rfl)
theorem ent38 : entersB Try.prog 38 = true := by kernel_rfl
theorem fld30_1 : FieldOk Try.prog 30 1 1 := field_of (by kernel_rfl)
theorem ty22 : Ty Try.prog 22 false 1 := ty_of (by kernel_rfl)
theorem ent22 : entersB Try.prog 22 = true := by kernel_rfl
theorem fld30_3 : FieldOk Try.prog 30 3 3 := field_of (by kernel_rfl)
theorem fld30_2 : FieldOk Try.prog 30 2 2 := field_of (by kernel_rfl)
theorem ty23 : Ty Try.prog 23 false 1 := ty_of (by kernel_rfl)
theorem und23 : Try.prog.underlying 23 = some (.slice 43) := by kernel_rfl
theorem fld30_4 : FieldOk Try.prog 30 4 4 := field_of (by kernel_rfl)
theorem fld30_5 : FieldOk Try.prog 30 5 5 := field_of (by kernel_rfl)
theorem ty26 : Ty Try.prog 26 false 1 := ty_of (by kernel_rfl)
theorem und26 : Try.prog.underlying 26 = some (.slice 47) := by kernel_rfl
theorem fld30_7 : FieldOk Try.prog 30 7 7 := field_of (by kernel_rfl)
theorem ty27 : Ty Try.prog 27 false 1 := ty_of (by kernel_rfl)
theorem und27 : Try.prog.underlying 27 = some (.slice 49) := by kernel_rfl
theorem fld30_8 : FieldOk Try.prog 30 8 8 := field_of (by kernel_rfl)
theorem ty28 : Ty Try.prog 28 false 1 := ty_of (by kernel_rfl)
theorem und28 : Try.prog.underlying 28 = some (.slice 51) := by kernel_rfl
theorem fld30_0 : FieldOk Try.prog 30 0 0 := field_of (by kernel_rfl)
theorem ty47 : Ty Try.prog 47 true 3 := ty_of (by kernel_rfl)
theorem fld47_1 : FieldOk Try.prog 47 1 1 := field_of (by kernel_rfl)
theorem ty49 : Ty Try.prog 49 true 4 := ty_of (by kernel_rfl)
theorem fld49_0 : FieldOk Try.prog 49 0 0 := field_of (by kernel_rfl)
theorem ty51 : Ty Try.prog 51 true 2 := ty_of (by kernel_rfl)
theorem fld51_0 : FieldOk Try.prog 51 0 0 := field_of (by kernel_rfl)
theorem und52 : Try.prog.underlying 52 = some (.slice 5) := by kernel_rfl
theorem el52 : El Try.prog 52 5 1 1 := el_of (by kernel_rfl)
theorem zero5 : (Try.prog.info? 5).bind (·.zero) = some (.int .u8 0) := by kernel_rfl
theorem und3 : Try.prog.underlying 3 = some (.int .i64) := by kernel_rfl
theorem und82 : Try.prog.underlying 82 = some (.int .u64) := by kernel_rfl
theorem und5 : Try.prog.underlying 5 = some (.int .u8) := by kernel_rfl
theorem ent41 : entersB Try.prog 41 = true := by kernel_rfl
theorem ent40 : entersB Try.prog 40 = true := by kernel_rfl
theorem ent39 : entersB Try.prog 39 = true := by kernel_rfl
theorem zero43 : (Try.prog.info? 43).bind (·.zero) = some (.agg #[.int .i64 0, .int .i64 0, .int .i64 0, .bool false]) := by kernel_rfl
theorem ty43 : Ty Try.prog 43 true 4 := ty_of (by kernel_rfl)
theorem fld43_1 : FieldOk Try.prog 43 1 1 := field_of (by kernel_rfl)
theorem ty3 : Ty Try.prog 3 false 1 := ty_of (by kernel_rfl)
theorem st43 : StructOk Try.prog 43 [(0, 1), (1, 1), (2, 1), (3, 1)] (.agg #[.int .i64 0, .int .i64 0, .int .i64 0, .bool false]) := struct_of (by kernel_rfl) zero43 (by kernel_rfl)
theorem ty30 : Ty Try.prog 30 true 9 := ty_of (by kernel_rfl)
theorem ent42 : entersB Try.prog 42 = true := by kernel_rfl
theorem fld43_2 : FieldOk Try.prog 43 2 2 := field_of (by kernel_rfl)
theorem ty41 : Ty Try.prog 41 false 1 := ty_of (by kernel_rfl)
theorem ty5 : Ty Try.prog 5 false 1 := ty_of (by kernel_rfl)
theorem ent44 : entersB Try.prog 44 = true := by kernel_rfl
theorem ent43 : entersB Try.prog 43 = true := by kernel_rfl
theorem ent23 : entersB Try.prog 23 = true := by kernel_rfl
theorem ent24 : entersB Try.prog 24 = true := by kernel_rfl
theorem zero65 : (Try.prog.info? 65).bind (·.zero) = some (.agg #[.int .i64 0, .string s0, .string s0, .int .i64 0, .bool false, .string s0, .int .i64 0, .int .i64 0, .slice none 0 0, .slice none 0 0, .string s0, .int .i64 0, .int .i64 0, .bool false, .string s0, .slice none 0 0, .slice none 0 0, .slice none 0 0, .slice none 0 0, .int .i64 0, .int .i64 0, .int .i64 0, .int .i64 0, .int .i64 0, .int .i64 0, .int .i64 0, .int .i64 0, .string s0, .int .i64 0]) := by kernel_rfl
theorem fld65_0 : FieldOk Try.prog 65 0 0 := field_of (by kernel_rfl)
theorem ent25 : entersB Try.prog 25 = true := by kernel_rfl
theorem zero47 : (Try.prog.info? 47).bind (·.zero) = some (.agg #[.int .i64 0, .string s0, .int .i64 0]) := by kernel_rfl
theorem fld47_0 : FieldOk Try.prog 47 0 0 := field_of (by kernel_rfl)
theorem ty45 : Ty Try.prog 45 false 1 := ty_of (by kernel_rfl)
theorem fld47_2 : FieldOk Try.prog 47 2 2 := field_of (by kernel_rfl)
theorem ent26 : entersB Try.prog 26 = true := by kernel_rfl
theorem ent45 : entersB Try.prog 45 = true := by kernel_rfl
theorem ent28 : entersB Try.prog 28 = true := by kernel_rfl
theorem ent46 : entersB Try.prog 46 = true := by kernel_rfl
theorem ent48 : entersB Try.prog 48 = true := by kernel_rfl
theorem ent47 : entersB Try.prog 47 = true := by kernel_rfl
theorem ent27 : entersB Try.prog 27 = true := by kernel_rfl
theorem ent29 : entersB Try.prog 29 = true := by kernel_rfl
theorem ent30 : entersB Try.prog 30 = true := by kernel_rfl
theorem el24 : El Try.prog 24 3 1 8 := el_of (by kernel_rfl)
theorem zero3 : (Try.prog.info? 3).bind (·.zero) = some (.int .i64 0) := by kernel_rfl
theorem ent50 : entersB Try.prog 50 = true := by kernel_rfl
theorem ent53 : entersB Try.prog 53 = true := by kernel_rfl
theorem ent54 : entersB Try.prog 54 = true := by kernel_rfl
theorem ent49 : entersB Try.prog 49 = true := by kernel_rfl
theorem ent59 : entersB Try.prog 59 = true := by kernel_rfl
theorem und83 : Try.prog.underlying 83 = some (.int .u64) := by kernel_rfl
theorem ent55 : entersB Try.prog 55 = true := by kernel_rfl
theorem ent56 : entersB Try.prog 56 = true := by kernel_rfl
theorem ent51 : entersB Try.prog 51 = true := by kernel_rfl
theorem ent31 : entersB Try.prog 31 = true := by kernel_rfl
theorem ent33 : entersB Try.prog 33 = true := by kernel_rfl
theorem ent32 : entersB Try.prog 32 = true := by kernel_rfl
theorem ent12 : entersB Try.prog 12 = true := by kernel_rfl
theorem st65 : StructOk Try.prog 65 [(0, 1), (1, 1), (2, 1), (3, 1), (4, 1), (5, 1), (6, 1), (7, 1), (8, 1), (9, 1), (10, 16), (26, 1), (27, 2)] (.agg #[.int .i64 0, .string s0, .string s0, .int .i64 0, .bool false, .string s0, .int .i64 0, .int .i64 0, .slice none 0 0, .slice none 0 0, .string s0, .int .i64 0, .int .i64 0, .bool false, .string s0, .slice none 0 0, .slice none 0 0, .slice none 0 0, .slice none 0 0, .int .i64 0, .int .i64 0, .int .i64 0, .int .i64 0, .int .i64 0, .int .i64 0, .int .i64 0, .int .i64 0, .string s0, .int .i64 0]) := struct_of (by kernel_rfl) zero65 (by kernel_rfl)
theorem el22 : El Try.prog 22 65 29 376 := el_of (by kernel_rfl)
theorem el23 : El Try.prog 23 43 4 32 := el_of (by kernel_rfl)
theorem zero30 : (Try.prog.info? 30).bind (·.zero) = some (.agg #[.string s0, .slice none 0 0, .slice none 0 0, .slice none 0 0, .slice none 0 0, .slice none 0 0, .int .i64 0, .slice none 0 0, .slice none 0 0]) := by kernel_rfl
theorem st30 : StructOk Try.prog 30 [(0, 1), (1, 1), (2, 1), (3, 1), (4, 1), (5, 1), (6, 1), (7, 1), (8, 1)] (.agg #[.string s0, .slice none 0 0, .slice none 0 0, .slice none 0 0, .slice none 0 0, .slice none 0 0, .int .i64 0, .slice none 0 0, .slice none 0 0]) := struct_of (by kernel_rfl) zero30 (by kernel_rfl)
theorem ent11 : entersB Try.prog 11 = true := by kernel_rfl
theorem ent14 : entersB Try.prog 14 = true := by kernel_rfl
theorem ent16 : entersB Try.prog 16 = true := by kernel_rfl
theorem ent18 : entersB Try.prog 18 = true := by kernel_rfl
theorem ent8 : entersB Try.prog 8 = true := by kernel_rfl
theorem ent9 : entersB Try.prog 9 = true := by kernel_rfl
theorem ent7 : entersB Try.prog 7 = true := by kernel_rfl
theorem ent10 : entersB Try.prog 10 = true := by kernel_rfl
theorem ent52 : entersB Try.prog 52 = true := by kernel_rfl
theorem ent37 : entersB Try.prog 37 = true := by kernel_rfl
theorem ent21 : entersB Try.prog 21 = true := by kernel_rfl
theorem ent36 : entersB Try.prog 36 = true := by kernel_rfl
theorem ent35 : entersB Try.prog 35 = true := by kernel_rfl
theorem ent34 : entersB Try.prog 34 = true := by kernel_rfl
theorem ent20 : entersB Try.prog 20 = true := by kernel_rfl
theorem ent13 : entersB Try.prog 13 = true := by kernel_rfl
theorem ent15 : entersB Try.prog 15 = true := by kernel_rfl
theorem ent17 : entersB Try.prog 17 = true := by kernel_rfl
theorem ent19 : entersB Try.prog 19 = true := by kernel_rfl
theorem und4 : Try.prog.underlying 4 = some (.bool) := by kernel_rfl
theorem fld43_3 : FieldOk Try.prog 43 3 3 := field_of (by kernel_rfl)
theorem ty4 : Ty Try.prog 4 false 1 := ty_of (by kernel_rfl)
theorem fld43_0 : FieldOk Try.prog 43 0 0 := field_of (by kernel_rfl)
theorem fld30_6 : FieldOk Try.prog 30 6 6 := field_of (by kernel_rfl)
instance kn : Kn Try.prog where
  und := [(9, .string), (3, .int .i64), (82, .int .u64), (5, .int .u8), (83, .int .u64), (4, .bool)]
  hund := ⟨und9, und3, und82, und5, und83, und4, trivial⟩
  ty := [(61, true, 16), (24, false, 1), (55, false, 1), (56, false, 1), (57, false, 1), (9, false, 1), (81, true, 2), (65, true, 29), (22, false, 1), (23, false, 1), (26, false, 1), (27, false, 1), (28, false, 1), (47, true, 3), (49, true, 4), (51, true, 2), (43, true, 4), (3, false, 1), (30, true, 9), (41, false, 1), (5, false, 1), (45, false, 1), (4, false, 1)]
  hty := ⟨ty61, ty24, ty55, ty56, ty57, ty9, ty81, ty65, ty22, ty23, ty26, ty27, ty28, ty47, ty49, ty51, ty43, ty3, ty30, ty41, ty5, ty45, ty4, trivial⟩
  fld := [((65, 10), 10), ((65, 8), 8), ((65, 9), 9), ((61, 5), 5), ((61, 6), 6), ((61, 7), 7), ((59, 0), 0), ((59, 1), 1), ((65, 1), 1), ((65, 2), 2), ((65, 5), 5), ((61, 0), 0), ((61, 4), 4), ((65, 12), 27), ((63, 0), 0), ((81, 0), 0), ((30, 1), 1), ((30, 3), 3), ((30, 2), 2), ((30, 4), 4), ((30, 5), 5), ((30, 7), 7), ((30, 8), 8), ((30, 0), 0), ((47, 1), 1), ((49, 0), 0), ((51, 0), 0), ((43, 1), 1), ((43, 2), 2), ((65, 0), 0), ((47, 0), 0), ((47, 2), 2), ((43, 3), 3), ((43, 0), 0), ((30, 6), 6)]
  hfld := ⟨fld65_10, fld65_8, fld65_9, fld61_5, fld61_6, fld61_7, fld59_0, fld59_1, fld65_1, fld65_2, fld65_5, fld61_0, fld61_4, fld65_12, fld63_0, fld81_0, fld30_1, fld30_3, fld30_2, fld30_4, fld30_5, fld30_7, fld30_8, fld30_0, fld47_1, fld49_0, fld51_0, fld43_1, fld43_2, fld65_0, fld47_0, fld47_2, fld43_3, fld43_0, fld30_6, trivial⟩
  part := []
  hpart := trivial
  zero := [(61, .agg #[.string s0, .int .i64 0, .int .i64 0, .bool false, .string s0, .slice none 0 0, .slice none 0 0, .slice none 0 0, .slice none 0 0, .int .i64 0, .int .i64 0, .int .i64 0, .int .i64 0, .int .i64 0, .int .i64 0, .int .i64 0]), (5, .int .u8 0), (43, .agg #[.int .i64 0, .int .i64 0, .int .i64 0, .bool false]), (65, .agg #[.int .i64 0, .string s0, .string s0, .int .i64 0, .bool false, .string s0, .int .i64 0, .int .i64 0, .slice none 0 0, .slice none 0 0, .string s0, .int .i64 0, .int .i64 0, .bool false, .string s0, .slice none 0 0, .slice none 0 0, .slice none 0 0, .slice none 0 0, .int .i64 0, .int .i64 0, .int .i64 0, .int .i64 0, .int .i64 0, .int .i64 0, .int .i64 0, .int .i64 0, .string s0, .int .i64 0]), (47, .agg #[.int .i64 0, .string s0, .int .i64 0]), (3, .int .i64 0), (30, .agg #[.string s0, .slice none 0 0, .slice none 0 0, .slice none 0 0, .slice none 0 0, .slice none 0 0, .int .i64 0, .slice none 0 0, .slice none 0 0])]
  hzero := ⟨⟨zero61, by kernel_rfl⟩, ⟨zero5, by kernel_rfl⟩, ⟨zero43, by kernel_rfl⟩, ⟨zero65, by kernel_rfl⟩, ⟨zero47, by kernel_rfl⟩, ⟨zero3, by kernel_rfl⟩, ⟨zero30, by kernel_rfl⟩, trivial⟩
  st := [(43, [(0, 1), (1, 1), (2, 1), (3, 1)], .agg #[.int .i64 0, .int .i64 0, .int .i64 0, .bool false]), (65, [(0, 1), (1, 1), (2, 1), (3, 1), (4, 1), (5, 1), (6, 1), (7, 1), (8, 1), (9, 1), (10, 16), (26, 1), (27, 2)], .agg #[.int .i64 0, .string s0, .string s0, .int .i64 0, .bool false, .string s0, .int .i64 0, .int .i64 0, .slice none 0 0, .slice none 0 0, .string s0, .int .i64 0, .int .i64 0, .bool false, .string s0, .slice none 0 0, .slice none 0 0, .slice none 0 0, .slice none 0 0, .int .i64 0, .int .i64 0, .int .i64 0, .int .i64 0, .int .i64 0, .int .i64 0, .int .i64 0, .int .i64 0, .string s0, .int .i64 0]), (30, [(0, 1), (1, 1), (2, 1), (3, 1), (4, 1), (5, 1), (6, 1), (7, 1), (8, 1)], .agg #[.string s0, .slice none 0 0, .slice none 0 0, .slice none 0 0, .slice none 0 0, .slice none 0 0, .int .i64 0, .slice none 0 0, .slice none 0 0])]
  hst := ⟨st43, st65, st30, trivial⟩
  arr := []
  harr := trivial
end Go.Proofs.Ytdhhcmdofnjhiaa
