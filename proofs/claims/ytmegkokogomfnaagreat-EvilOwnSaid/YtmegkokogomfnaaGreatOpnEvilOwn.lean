/- What the law's arguments are, typed (printed by gen_row.py). No condition. -/
import Derived.Test.YtmegkokogomfnaaGreatGt
import Derived.Test.YtmegkokogomfnaaGreatAvP
namespace Go.Proofs.YtmegkokogomfnaaGreat
open Go.RowKit
def okApiLevel (x : ApiLevel) : Prop := x.User.size ≤ maxLen ∧ (IntKind.i64.min ≤ x.N ∧ x.N ≤ IntKind.i64.max)
set_option maxRecDepth 20000 in
theorem opnApiLevel71 {H : Type} (enc : TypeId × Value → H) (w : World) (base : Nat) (spare : Nat → Bool) (held : Bool) : Opn enc Tryz.prog w base spare held 71 eApiLevel okApiLevel := by
  intro fuel cs x h
  have hl := opn_length Tryz.underlying71 h 2 (by kernel_rfl)
  obtain ⟨a0, v0, h0⟩ := opn_field Tryz.underlying71 h 0 9 0 1 (by kernel_rfl) (opn_str Tryz.underlying9)
  obtain ⟨a1, v1, h1⟩ := opn_field Tryz.underlying71 h 1 3 1 1 (by kernel_rfl) (opn_int Tryz.underlying3)
  exact ⟨⟨a0, a1⟩, ⟨v0, v1⟩, opn_struct [1, 1] (by rw [hl]; rfl) (RdC.append h0 (RdC.append h1 (RdC.nil w)))⟩
def okApiKindLevel (x : ApiKindLevel) : Prop := (IntKind.i64.min ≤ x.Kind ∧ x.Kind ≤ IntKind.i64.max) ∧ (IntKind.i64.min ≤ x.N ∧ x.N ≤ IntKind.i64.max)
set_option maxRecDepth 20000 in
theorem opnApiKindLevel108 {H : Type} (enc : TypeId × Value → H) (w : World) (base : Nat) (spare : Nat → Bool) (held : Bool) : Opn enc Tryz.prog w base spare held 108 eApiKindLevel okApiKindLevel := by
  intro fuel cs x h
  have hl := opn_length Tryz.underlying108 h 2 (by kernel_rfl)
  obtain ⟨a0, v0, h0⟩ := opn_field Tryz.underlying108 h 0 32 0 1 (by kernel_rfl) (opn_int Tryz.underlying32)
  obtain ⟨a1, v1, h1⟩ := opn_field Tryz.underlying108 h 1 3 1 1 (by kernel_rfl) (opn_int Tryz.underlying3)
  exact ⟨⟨a0, a1⟩, ⟨v0, v1⟩, opn_struct [1, 1] (by rw [hl]; rfl) (RdC.append h0 (RdC.append h1 (RdC.nil w)))⟩
def okApiLevels (x : ApiLevels) : Prop := (x.Users.length ≤ maxLen ∧ ∀ y1 ∈ x.Users, okApiLevel y1) ∧ (x.Kinds.length ≤ maxLen ∧ ∀ y2 ∈ x.Kinds, okApiKindLevel y2) ∧ (IntKind.i64.min ≤ x.User ∧ x.User ≤ IntKind.i64.max) ∧ (IntKind.i64.min ≤ x.Message ∧ x.Message ≤ IntKind.i64.max) ∧ (IntKind.i64.min ≤ x.State ∧ x.State ≤ IntKind.i64.max) ∧ (IntKind.i64.min ≤ x.Invite ∧ x.Invite ≤ IntKind.i64.max) ∧ (IntKind.i64.min ≤ x.Kick ∧ x.Kick ≤ IntKind.i64.max) ∧ (IntKind.i64.min ≤ x.Ban ∧ x.Ban ≤ IntKind.i64.max) ∧ (IntKind.i64.min ≤ x.Redact ∧ x.Redact ≤ IntKind.i64.max)
set_option maxRecDepth 20000 in
theorem opnApiLevels37 {H : Type} (enc : TypeId × Value → H) (w : World) (base : Nat) (spare : Nat → Bool) (held : Bool) : Opn enc Tryz.prog w base spare held 37 eApiLevels okApiLevels := by
  intro fuel cs x h
  have hl := opn_length Tryz.underlying37 h 9 (by kernel_rfl)
  obtain ⟨a0, v0, h0⟩ := opn_field Tryz.underlying37 h 0 34 0 1 (by kernel_rfl) (opn_slice (sz := 2) Tryz.underlying34 (by kernel_rfl) (by decide) (fun _ => rfl) (opnApiLevel71 enc w base spare held))
  obtain ⟨a1, v1, h1⟩ := opn_field Tryz.underlying37 h 1 35 1 1 (by kernel_rfl) (opn_slice (sz := 2) Tryz.underlying35 (by kernel_rfl) (by decide) (fun _ => rfl) (opnApiKindLevel108 enc w base spare held))
  obtain ⟨a2, v2, h2⟩ := opn_field Tryz.underlying37 h 2 3 2 1 (by kernel_rfl) (opn_int Tryz.underlying3)
  obtain ⟨a3, v3, h3⟩ := opn_field Tryz.underlying37 h 3 3 3 1 (by kernel_rfl) (opn_int Tryz.underlying3)
  obtain ⟨a4, v4, h4⟩ := opn_field Tryz.underlying37 h 4 3 4 1 (by kernel_rfl) (opn_int Tryz.underlying3)
  obtain ⟨a5, v5, h5⟩ := opn_field Tryz.underlying37 h 5 3 5 1 (by kernel_rfl) (opn_int Tryz.underlying3)
  obtain ⟨a6, v6, h6⟩ := opn_field Tryz.underlying37 h 6 3 6 1 (by kernel_rfl) (opn_int Tryz.underlying3)
  obtain ⟨a7, v7, h7⟩ := opn_field Tryz.underlying37 h 7 3 7 1 (by kernel_rfl) (opn_int Tryz.underlying3)
  obtain ⟨a8, v8, h8⟩ := opn_field Tryz.underlying37 h 8 3 8 1 (by kernel_rfl) (opn_int Tryz.underlying3)
  exact ⟨⟨a0, a1, a2, a3, a4, a5, a6, a7, a8⟩, ⟨v0, v1, v2, v3, v4, v5, v6, v7, v8⟩, opn_struct [1, 1, 1, 1, 1, 1, 1, 1, 1] (by rw [hl]; rfl) (RdC.append h0 (RdC.append h1 (RdC.append h2 (RdC.append h3 (RdC.append h4 (RdC.append h5 (RdC.append h6 (RdC.append h7 (RdC.append h8 (RdC.nil w))))))))))⟩
def okApiContent (x : ApiContent) : Prop := x.Text.size ≤ maxLen ∧ (IntKind.i64.min ≤ x.N ∧ x.N ≤ IntKind.i64.max) ∧ (IntKind.i64.min ≤ x.Target ∧ x.Target ≤ IntKind.i64.max) ∧ True ∧ x.Via.size ≤ maxLen ∧ (x.Allow.length ≤ maxLen ∧ ∀ y3 ∈ x.Allow, y3.size ≤ maxLen) ∧ (x.Deny.length ≤ maxLen ∧ ∀ y4 ∈ x.Deny, y4.size ≤ maxLen) ∧ okApiLevels x.Levels
set_option maxRecDepth 20000 in
theorem opnApiContent39 {H : Type} (enc : TypeId × Value → H) (w : World) (base : Nat) (spare : Nat → Bool) (held : Bool) : Opn enc Tryz.prog w base spare held 39 eApiContent okApiContent := by
  intro fuel cs x h
  have hl := opn_length Tryz.underlying39 h 16 (by kernel_rfl)
  obtain ⟨a0, v0, h0⟩ := opn_field Tryz.underlying39 h 0 9 0 1 (by kernel_rfl) (opn_str Tryz.underlying9)
  obtain ⟨a1, v1, h1⟩ := opn_field Tryz.underlying39 h 1 3 1 1 (by kernel_rfl) (opn_int Tryz.underlying3)
  obtain ⟨a2, v2, h2⟩ := opn_field Tryz.underlying39 h 2 3 2 1 (by kernel_rfl) (opn_int Tryz.underlying3)
  obtain ⟨a3, v3, h3⟩ := opn_field Tryz.underlying39 h 3 4 3 1 (by kernel_rfl) (opn_bool Tryz.underlying4)
  obtain ⟨a4, v4, h4⟩ := opn_field Tryz.underlying39 h 4 9 4 1 (by kernel_rfl) (opn_str Tryz.underlying9)
  obtain ⟨a5, v5, h5⟩ := opn_field Tryz.underlying39 h 5 24 5 1 (by kernel_rfl) (opn_slice (sz := 1) Tryz.underlying24 (by kernel_rfl) (by decide) (fun _ => rfl) (opn_str Tryz.underlying9))
  obtain ⟨a6, v6, h6⟩ := opn_field Tryz.underlying39 h 6 24 6 1 (by kernel_rfl) (opn_slice (sz := 1) Tryz.underlying24 (by kernel_rfl) (by decide) (fun _ => rfl) (opn_str Tryz.underlying9))
  obtain ⟨a7, v7, h7⟩ := opn_field Tryz.underlying39 h 7 37 7 9 (by kernel_rfl) (opnApiLevels37 enc w base spare held)
  exact ⟨⟨a0, a1, a2, a3, a4, a5, a6, a7⟩, ⟨v0, v1, v2, v3, v4, v5, v6, v7⟩, opn_struct [1, 1, 1, 1, 1, 1, 1, 9] (by rw [hl]; rfl) (RdC.append h0 (RdC.append h1 (RdC.append h2 (RdC.append h3 (RdC.append h4 (RdC.append h5 (RdC.append h6 (RdC.append h7 (RdC.nil w)))))))))⟩
def okApiSig (x : ApiSig) : Prop := x.Server.size ≤ maxLen ∧ (IntKind.i64.min ≤ x.Sum ∧ x.Sum ≤ IntKind.i64.max)
set_option maxRecDepth 20000 in
theorem opnApiSig41 {H : Type} (enc : TypeId × Value → H) (w : World) (base : Nat) (spare : Nat → Bool) (held : Bool) : Opn enc Tryz.prog w base spare held 41 eApiSig okApiSig := by
  intro fuel cs x h
  have hl := opn_length Tryz.underlying41 h 2 (by kernel_rfl)
  obtain ⟨a0, v0, h0⟩ := opn_field Tryz.underlying41 h 0 9 0 1 (by kernel_rfl) (opn_str Tryz.underlying9)
  obtain ⟨a1, v1, h1⟩ := opn_field Tryz.underlying41 h 1 3 1 1 (by kernel_rfl) (opn_int Tryz.underlying3)
  exact ⟨⟨a0, a1⟩, ⟨v0, v1⟩, opn_struct [1, 1] (by rw [hl]; rfl) (RdC.append h0 (RdC.append h1 (RdC.nil w)))⟩
def okApiEvent (x : ApiEvent) : Prop := (IntKind.i64.min ≤ x.Id ∧ x.Id ≤ IntKind.i64.max) ∧ x.Room.size ≤ maxLen ∧ x.Sender.size ≤ maxLen ∧ (IntKind.i64.min ≤ x.Kind ∧ x.Kind ≤ IntKind.i64.max) ∧ True ∧ x.Key.size ≤ maxLen ∧ (IntKind.i64.min ≤ x.Time ∧ x.Time ≤ IntKind.i64.max) ∧ (IntKind.i64.min ≤ x.Depth ∧ x.Depth ≤ IntKind.i64.max) ∧ (x.Prev.length ≤ maxLen ∧ ∀ y5 ∈ x.Prev, (IntKind.i64.min ≤ y5 ∧ y5 ≤ IntKind.i64.max)) ∧ (x.Auth.length ≤ maxLen ∧ ∀ y6 ∈ x.Auth, (IntKind.i64.min ≤ y6 ∧ y6 ≤ IntKind.i64.max)) ∧ okApiContent x.Content ∧ (IntKind.i64.min ≤ x.Hash ∧ x.Hash ≤ IntKind.i64.max) ∧ okApiSig x.Sig
set_option maxRecDepth 20000 in
theorem opnApiEvent43 {H : Type} (enc : TypeId × Value → H) (w : World) (base : Nat) (spare : Nat → Bool) (held : Bool) : Opn enc Tryz.prog w base spare held 43 eApiEvent okApiEvent := by
  intro fuel cs x h
  have hl := opn_length Tryz.underlying43 h 29 (by kernel_rfl)
  obtain ⟨a0, v0, h0⟩ := opn_field Tryz.underlying43 h 0 3 0 1 (by kernel_rfl) (opn_int Tryz.underlying3)
  obtain ⟨a1, v1, h1⟩ := opn_field Tryz.underlying43 h 1 9 1 1 (by kernel_rfl) (opn_str Tryz.underlying9)
  obtain ⟨a2, v2, h2⟩ := opn_field Tryz.underlying43 h 2 9 2 1 (by kernel_rfl) (opn_str Tryz.underlying9)
  obtain ⟨a3, v3, h3⟩ := opn_field Tryz.underlying43 h 3 32 3 1 (by kernel_rfl) (opn_int Tryz.underlying32)
  obtain ⟨a4, v4, h4⟩ := opn_field Tryz.underlying43 h 4 4 4 1 (by kernel_rfl) (opn_bool Tryz.underlying4)
  obtain ⟨a5, v5, h5⟩ := opn_field Tryz.underlying43 h 5 9 5 1 (by kernel_rfl) (opn_str Tryz.underlying9)
  obtain ⟨a6, v6, h6⟩ := opn_field Tryz.underlying43 h 6 3 6 1 (by kernel_rfl) (opn_int Tryz.underlying3)
  obtain ⟨a7, v7, h7⟩ := opn_field Tryz.underlying43 h 7 3 7 1 (by kernel_rfl) (opn_int Tryz.underlying3)
  obtain ⟨a8, v8, h8⟩ := opn_field Tryz.underlying43 h 8 33 8 1 (by kernel_rfl) (opn_slice (sz := 1) Tryz.underlying33 (by kernel_rfl) (by decide) (fun _ => rfl) (opn_int Tryz.underlying3))
  obtain ⟨a9, v9, h9⟩ := opn_field Tryz.underlying43 h 9 33 9 1 (by kernel_rfl) (opn_slice (sz := 1) Tryz.underlying33 (by kernel_rfl) (by decide) (fun _ => rfl) (opn_int Tryz.underlying3))
  obtain ⟨a10, v10, h10⟩ := opn_field Tryz.underlying43 h 10 39 10 16 (by kernel_rfl) (opnApiContent39 enc w base spare held)
  obtain ⟨a11, v11, h11⟩ := opn_field Tryz.underlying43 h 11 3 26 1 (by kernel_rfl) (opn_int Tryz.underlying3)
  obtain ⟨a12, v12, h12⟩ := opn_field Tryz.underlying43 h 12 41 27 2 (by kernel_rfl) (opnApiSig41 enc w base spare held)
  exact ⟨⟨a0, a1, a2, a3, a4, a5, a6, a7, a8, a9, a10, a11, a12⟩, ⟨v0, v1, v2, v3, v4, v5, v6, v7, v8, v9, v10, v11, v12⟩, opn_struct [1, 1, 1, 1, 1, 1, 1, 1, 1, 1, 16, 1, 2] (by rw [hl]; rfl) (RdC.append h0 (RdC.append h1 (RdC.append h2 (RdC.append h3 (RdC.append h4 (RdC.append h5 (RdC.append h6 (RdC.append h7 (RdC.append h8 (RdC.append h9 (RdC.append h10 (RdC.append h11 (RdC.append h12 (RdC.nil w))))))))))))))⟩
def okApiRow (x : ApiRow) : Prop := (IntKind.i64.min ≤ x.Pos ∧ x.Pos ≤ IntKind.i64.max) ∧ (IntKind.i64.min ≤ x.Id ∧ x.Id ≤ IntKind.i64.max) ∧ (IntKind.i64.min ≤ x.Status ∧ x.Status ≤ IntKind.i64.max) ∧ True
set_option maxRecDepth 20000 in
theorem opnApiRow189 {H : Type} (enc : TypeId × Value → H) (w : World) (base : Nat) (spare : Nat → Bool) (held : Bool) : Opn enc Tryz.prog w base spare held 189 eApiRow okApiRow := by
  intro fuel cs x h
  have hl := opn_length Tryz.underlying189 h 4 (by kernel_rfl)
  obtain ⟨a0, v0, h0⟩ := opn_field Tryz.underlying189 h 0 3 0 1 (by kernel_rfl) (opn_int Tryz.underlying3)
  obtain ⟨a1, v1, h1⟩ := opn_field Tryz.underlying189 h 1 3 1 1 (by kernel_rfl) (opn_int Tryz.underlying3)
  obtain ⟨a2, v2, h2⟩ := opn_field Tryz.underlying189 h 2 187 2 1 (by kernel_rfl) (opn_int Tryz.underlying187)
  obtain ⟨a3, v3, h3⟩ := opn_field Tryz.underlying189 h 3 4 3 1 (by kernel_rfl) (opn_bool Tryz.underlying4)
  exact ⟨⟨a0, a1, a2, a3⟩, ⟨v0, v1, v2, v3⟩, opn_struct [1, 1, 1, 1] (by rw [hl]; rfl) (RdC.append h0 (RdC.append h1 (RdC.append h2 (RdC.append h3 (RdC.nil w)))))⟩
def okApiEntry (x : ApiEntry) : Prop := (IntKind.i64.min ≤ x.Kind ∧ x.Kind ≤ IntKind.i64.max) ∧ x.Key.size ≤ maxLen ∧ (IntKind.i64.min ≤ x.Id ∧ x.Id ≤ IntKind.i64.max)
set_option maxRecDepth 20000 in
theorem opnApiEntry191 {H : Type} (enc : TypeId × Value → H) (w : World) (base : Nat) (spare : Nat → Bool) (held : Bool) : Opn enc Tryz.prog w base spare held 191 eApiEntry okApiEntry := by
  intro fuel cs x h
  have hl := opn_length Tryz.underlying191 h 3 (by kernel_rfl)
  obtain ⟨a0, v0, h0⟩ := opn_field Tryz.underlying191 h 0 32 0 1 (by kernel_rfl) (opn_int Tryz.underlying32)
  obtain ⟨a1, v1, h1⟩ := opn_field Tryz.underlying191 h 1 9 1 1 (by kernel_rfl) (opn_str Tryz.underlying9)
  obtain ⟨a2, v2, h2⟩ := opn_field Tryz.underlying191 h 2 3 2 1 (by kernel_rfl) (opn_int Tryz.underlying3)
  exact ⟨⟨a0, a1, a2⟩, ⟨v0, v1, v2⟩, opn_struct [1, 1, 1] (by rw [hl]; rfl) (RdC.append h0 (RdC.append h1 (RdC.append h2 (RdC.nil w))))⟩
def okApiReceipt (x : ApiReceipt) : Prop := x.User.size ≤ maxLen ∧ (IntKind.i64.min ≤ x.Thread ∧ x.Thread ≤ IntKind.i64.max) ∧ (IntKind.i64.min ≤ x.Id ∧ x.Id ≤ IntKind.i64.max) ∧ (IntKind.i64.min ≤ x.Time ∧ x.Time ≤ IntKind.i64.max)
set_option maxRecDepth 20000 in
theorem opnApiReceipt193 {H : Type} (enc : TypeId × Value → H) (w : World) (base : Nat) (spare : Nat → Bool) (held : Bool) : Opn enc Tryz.prog w base spare held 193 eApiReceipt okApiReceipt := by
  intro fuel cs x h
  have hl := opn_length Tryz.underlying193 h 4 (by kernel_rfl)
  obtain ⟨a0, v0, h0⟩ := opn_field Tryz.underlying193 h 0 9 0 1 (by kernel_rfl) (opn_str Tryz.underlying9)
  obtain ⟨a1, v1, h1⟩ := opn_field Tryz.underlying193 h 1 3 1 1 (by kernel_rfl) (opn_int Tryz.underlying3)
  obtain ⟨a2, v2, h2⟩ := opn_field Tryz.underlying193 h 2 3 2 1 (by kernel_rfl) (opn_int Tryz.underlying3)
  obtain ⟨a3, v3, h3⟩ := opn_field Tryz.underlying193 h 3 3 3 1 (by kernel_rfl) (opn_int Tryz.underlying3)
  exact ⟨⟨a0, a1, a2, a3⟩, ⟨v0, v1, v2, v3⟩, opn_struct [1, 1, 1, 1] (by rw [hl]; rfl) (RdC.append h0 (RdC.append h1 (RdC.append h2 (RdC.append h3 (RdC.nil w)))))⟩
def okApiTyping (x : ApiTyping) : Prop := x.User.size ≤ maxLen ∧ (IntKind.i64.min ≤ x.Until ∧ x.Until ≤ IntKind.i64.max)
set_option maxRecDepth 20000 in
theorem opnApiTyping195 {H : Type} (enc : TypeId × Value → H) (w : World) (base : Nat) (spare : Nat → Bool) (held : Bool) : Opn enc Tryz.prog w base spare held 195 eApiTyping okApiTyping := by
  intro fuel cs x h
  have hl := opn_length Tryz.underlying195 h 2 (by kernel_rfl)
  obtain ⟨a0, v0, h0⟩ := opn_field Tryz.underlying195 h 0 9 0 1 (by kernel_rfl) (opn_str Tryz.underlying9)
  obtain ⟨a1, v1, h1⟩ := opn_field Tryz.underlying195 h 1 3 1 1 (by kernel_rfl) (opn_int Tryz.underlying3)
  exact ⟨⟨a0, a1⟩, ⟨v0, v1⟩, opn_struct [1, 1] (by rw [hl]; rfl) (RdC.append h0 (RdC.append h1 (RdC.nil w)))⟩
def okApiRoom (x : ApiRoom) : Prop := x.Id.size ≤ maxLen ∧ (x.Events.length ≤ maxLen ∧ ∀ y7 ∈ x.Events, okApiEvent y7) ∧ (x.Rows.length ≤ maxLen ∧ ∀ y8 ∈ x.Rows, okApiRow y8) ∧ (x.Waiting.length ≤ maxLen ∧ ∀ y9 ∈ x.Waiting, okApiEvent y9) ∧ (x.Heads.length ≤ maxLen ∧ ∀ y10 ∈ x.Heads, (IntKind.i64.min ≤ y10 ∧ y10 ≤ IntKind.i64.max)) ∧ (x.State.length ≤ maxLen ∧ ∀ y11 ∈ x.State, okApiEntry y11) ∧ (IntKind.i64.min ≤ x.Next ∧ x.Next ≤ IntKind.i64.max) ∧ (x.Receipts.length ≤ maxLen ∧ ∀ y12 ∈ x.Receipts, okApiReceipt y12) ∧ (x.Typing.length ≤ maxLen ∧ ∀ y13 ∈ x.Typing, okApiTyping y13)
set_option maxRecDepth 20000 in
theorem opnApiRoom172 {H : Type} (enc : TypeId × Value → H) (w : World) (base : Nat) (spare : Nat → Bool) (held : Bool) : Opn enc Tryz.prog w base spare held 172 eApiRoom okApiRoom := by
  intro fuel cs x h
  have hl := opn_length Tryz.underlying172 h 9 (by kernel_rfl)
  obtain ⟨a0, v0, h0⟩ := opn_field Tryz.underlying172 h 0 9 0 1 (by kernel_rfl) (opn_str Tryz.underlying9)
  obtain ⟨a1, v1, h1⟩ := opn_field Tryz.underlying172 h 1 52 1 1 (by kernel_rfl) (opn_slice (sz := 29) Tryz.underlying52 (by kernel_rfl) (by decide) (fun _ => rfl) (opnApiEvent43 enc w base spare held))
  obtain ⟨a2, v2, h2⟩ := opn_field Tryz.underlying172 h 2 166 2 1 (by kernel_rfl) (opn_slice (sz := 4) Tryz.underlying166 (by kernel_rfl) (by decide) (fun _ => rfl) (opnApiRow189 enc w base spare held))
  obtain ⟨a3, v3, h3⟩ := opn_field Tryz.underlying172 h 3 52 3 1 (by kernel_rfl) (opn_slice (sz := 29) Tryz.underlying52 (by kernel_rfl) (by decide) (fun _ => rfl) (opnApiEvent43 enc w base spare held))
  obtain ⟨a4, v4, h4⟩ := opn_field Tryz.underlying172 h 4 33 4 1 (by kernel_rfl) (opn_slice (sz := 1) Tryz.underlying33 (by kernel_rfl) (by decide) (fun _ => rfl) (opn_int Tryz.underlying3))
  obtain ⟨a5, v5, h5⟩ := opn_field Tryz.underlying172 h 5 168 5 1 (by kernel_rfl) (opn_slice (sz := 3) Tryz.underlying168 (by kernel_rfl) (by decide) (fun _ => rfl) (opnApiEntry191 enc w base spare held))
  obtain ⟨a6, v6, h6⟩ := opn_field Tryz.underlying172 h 6 3 6 1 (by kernel_rfl) (opn_int Tryz.underlying3)
  obtain ⟨a7, v7, h7⟩ := opn_field Tryz.underlying172 h 7 169 7 1 (by kernel_rfl) (opn_slice (sz := 4) Tryz.underlying169 (by kernel_rfl) (by decide) (fun _ => rfl) (opnApiReceipt193 enc w base spare held))
  obtain ⟨a8, v8, h8⟩ := opn_field Tryz.underlying172 h 8 170 8 1 (by kernel_rfl) (opn_slice (sz := 2) Tryz.underlying170 (by kernel_rfl) (by decide) (fun _ => rfl) (opnApiTyping195 enc w base spare held))
  exact ⟨⟨a0, a1, a2, a3, a4, a5, a6, a7, a8⟩, ⟨v0, v1, v2, v3, v4, v5, v6, v7, v8⟩, opn_struct [1, 1, 1, 1, 1, 1, 1, 1, 1] (by rw [hl]; rfl) (RdC.append h0 (RdC.append h1 (RdC.append h2 (RdC.append h3 (RdC.append h4 (RdC.append h5 (RdC.append h6 (RdC.append h7 (RdC.append h8 (RdC.nil w))))))))))⟩
def okApiQueue (x : ApiQueue) : Prop := x.To.size ≤ maxLen ∧ (IntKind.i64.min ≤ x.Next ∧ x.Next ≤ IntKind.i64.max) ∧ (x.Events.length ≤ maxLen ∧ ∀ y14 ∈ x.Events, okApiEvent y14) ∧ (x.Open.length ≤ maxLen ∧ ∀ y15 ∈ x.Open, okApiEvent y15) ∧ (IntKind.i64.min ≤ x.Fails ∧ x.Fails ≤ IntKind.i64.max) ∧ (IntKind.i64.min ≤ x.At ∧ x.At ≤ IntKind.i64.max)
set_option maxRecDepth 20000 in
theorem opnApiQueue174 {H : Type} (enc : TypeId × Value → H) (w : World) (base : Nat) (spare : Nat → Bool) (held : Bool) : Opn enc Tryz.prog w base spare held 174 eApiQueue okApiQueue := by
  intro fuel cs x h
  have hl := opn_length Tryz.underlying174 h 6 (by kernel_rfl)
  obtain ⟨a0, v0, h0⟩ := opn_field Tryz.underlying174 h 0 9 0 1 (by kernel_rfl) (opn_str Tryz.underlying9)
  obtain ⟨a1, v1, h1⟩ := opn_field Tryz.underlying174 h 1 3 1 1 (by kernel_rfl) (opn_int Tryz.underlying3)
  obtain ⟨a2, v2, h2⟩ := opn_field Tryz.underlying174 h 2 52 2 1 (by kernel_rfl) (opn_slice (sz := 29) Tryz.underlying52 (by kernel_rfl) (by decide) (fun _ => rfl) (opnApiEvent43 enc w base spare held))
  obtain ⟨a3, v3, h3⟩ := opn_field Tryz.underlying174 h 3 52 3 1 (by kernel_rfl) (opn_slice (sz := 29) Tryz.underlying52 (by kernel_rfl) (by decide) (fun _ => rfl) (opnApiEvent43 enc w base spare held))
  obtain ⟨a4, v4, h4⟩ := opn_field Tryz.underlying174 h 4 3 4 1 (by kernel_rfl) (opn_int Tryz.underlying3)
  obtain ⟨a5, v5, h5⟩ := opn_field Tryz.underlying174 h 5 3 5 1 (by kernel_rfl) (opn_int Tryz.underlying3)
  exact ⟨⟨a0, a1, a2, a3, a4, a5⟩, ⟨v0, v1, v2, v3, v4, v5⟩, opn_struct [1, 1, 1, 1, 1, 1] (by rw [hl]; rfl) (RdC.append h0 (RdC.append h1 (RdC.append h2 (RdC.append h3 (RdC.append h4 (RdC.append h5 (RdC.nil w)))))))⟩
def okApiPacket (x : ApiPacket) : Prop := x.From.size ≤ maxLen ∧ x.To.size ≤ maxLen ∧ (IntKind.i64.min ≤ x.Kind ∧ x.Kind ≤ IntKind.i64.max) ∧ (IntKind.i64.min ≤ x.N ∧ x.N ≤ IntKind.i64.max) ∧ x.Room.size ≤ maxLen ∧ (x.Events.length ≤ maxLen ∧ ∀ y16 ∈ x.Events, okApiEvent y16) ∧ (x.Ids.length ≤ maxLen ∧ ∀ y17 ∈ x.Ids, (IntKind.i64.min ≤ y17 ∧ y17 ≤ IntKind.i64.max)) ∧ (x.Auth.length ≤ maxLen ∧ ∀ y18 ∈ x.Auth, okApiEvent y18) ∧ x.User.size ≤ maxLen ∧ (IntKind.i64.min ≤ x.Err ∧ x.Err ≤ IntKind.i64.max)
set_option maxRecDepth 20000 in
theorem opnApiPacket57 {H : Type} (enc : TypeId × Value → H) (w : World) (base : Nat) (spare : Nat → Bool) (held : Bool) : Opn enc Tryz.prog w base spare held 57 eApiPacket okApiPacket := by
  intro fuel cs x h
  have hl := opn_length Tryz.underlying57 h 10 (by kernel_rfl)
  obtain ⟨a0, v0, h0⟩ := opn_field Tryz.underlying57 h 0 9 0 1 (by kernel_rfl) (opn_str Tryz.underlying9)
  obtain ⟨a1, v1, h1⟩ := opn_field Tryz.underlying57 h 1 9 1 1 (by kernel_rfl) (opn_str Tryz.underlying9)
  obtain ⟨a2, v2, h2⟩ := opn_field Tryz.underlying57 h 2 55 2 1 (by kernel_rfl) (opn_int Tryz.underlying55)
  obtain ⟨a3, v3, h3⟩ := opn_field Tryz.underlying57 h 3 3 3 1 (by kernel_rfl) (opn_int Tryz.underlying3)
  obtain ⟨a4, v4, h4⟩ := opn_field Tryz.underlying57 h 4 9 4 1 (by kernel_rfl) (opn_str Tryz.underlying9)
  obtain ⟨a5, v5, h5⟩ := opn_field Tryz.underlying57 h 5 52 5 1 (by kernel_rfl) (opn_slice (sz := 29) Tryz.underlying52 (by kernel_rfl) (by decide) (fun _ => rfl) (opnApiEvent43 enc w base spare held))
  obtain ⟨a6, v6, h6⟩ := opn_field Tryz.underlying57 h 6 33 6 1 (by kernel_rfl) (opn_slice (sz := 1) Tryz.underlying33 (by kernel_rfl) (by decide) (fun _ => rfl) (opn_int Tryz.underlying3))
  obtain ⟨a7, v7, h7⟩ := opn_field Tryz.underlying57 h 7 52 7 1 (by kernel_rfl) (opn_slice (sz := 29) Tryz.underlying52 (by kernel_rfl) (by decide) (fun _ => rfl) (opnApiEvent43 enc w base spare held))
  obtain ⟨a8, v8, h8⟩ := opn_field Tryz.underlying57 h 8 9 8 1 (by kernel_rfl) (opn_str Tryz.underlying9)
  obtain ⟨a9, v9, h9⟩ := opn_field Tryz.underlying57 h 9 47 9 1 (by kernel_rfl) (opn_int Tryz.underlying47)
  exact ⟨⟨a0, a1, a2, a3, a4, a5, a6, a7, a8, a9⟩, ⟨v0, v1, v2, v3, v4, v5, v6, v7, v8, v9⟩, opn_struct [1, 1, 1, 1, 1, 1, 1, 1, 1, 1] (by rw [hl]; rfl) (RdC.append h0 (RdC.append h1 (RdC.append h2 (RdC.append h3 (RdC.append h4 (RdC.append h5 (RdC.append h6 (RdC.append h7 (RdC.append h8 (RdC.append h9 (RdC.nil w)))))))))))⟩
def okApiDevice (x : ApiDevice) : Prop := x.Id.size ≤ maxLen ∧ (IntKind.i64.min ≤ x.Key ∧ x.Key ≤ IntKind.i64.max) ∧ True
set_option maxRecDepth 20000 in
theorem opnApiDevice197 {H : Type} (enc : TypeId × Value → H) (w : World) (base : Nat) (spare : Nat → Bool) (held : Bool) : Opn enc Tryz.prog w base spare held 197 eApiDevice okApiDevice := by
  intro fuel cs x h
  have hl := opn_length Tryz.underlying197 h 3 (by kernel_rfl)
  obtain ⟨a0, v0, h0⟩ := opn_field Tryz.underlying197 h 0 9 0 1 (by kernel_rfl) (opn_str Tryz.underlying9)
  obtain ⟨a1, v1, h1⟩ := opn_field Tryz.underlying197 h 1 3 1 1 (by kernel_rfl) (opn_int Tryz.underlying3)
  obtain ⟨a2, v2, h2⟩ := opn_field Tryz.underlying197 h 2 4 2 1 (by kernel_rfl) (opn_bool Tryz.underlying4)
  exact ⟨⟨a0, a1, a2⟩, ⟨v0, v1, v2⟩, opn_struct [1, 1, 1] (by rw [hl]; rfl) (RdC.append h0 (RdC.append h1 (RdC.append h2 (RdC.nil w))))⟩
def okApiKeys (x : ApiKeys) : Prop := x.User.size ≤ maxLen ∧ (IntKind.i64.min ≤ x.Master ∧ x.Master ≤ IntKind.i64.max) ∧ (IntKind.i64.min ≤ x.Pos ∧ x.Pos ≤ IntKind.i64.max) ∧ (x.Devices.length ≤ maxLen ∧ ∀ y19 ∈ x.Devices, okApiDevice y19)
set_option maxRecDepth 20000 in
theorem opnApiKeys177 {H : Type} (enc : TypeId × Value → H) (w : World) (base : Nat) (spare : Nat → Bool) (held : Bool) : Opn enc Tryz.prog w base spare held 177 eApiKeys okApiKeys := by
  intro fuel cs x h
  have hl := opn_length Tryz.underlying177 h 4 (by kernel_rfl)
  obtain ⟨a0, v0, h0⟩ := opn_field Tryz.underlying177 h 0 9 0 1 (by kernel_rfl) (opn_str Tryz.underlying9)
  obtain ⟨a1, v1, h1⟩ := opn_field Tryz.underlying177 h 1 3 1 1 (by kernel_rfl) (opn_int Tryz.underlying3)
  obtain ⟨a2, v2, h2⟩ := opn_field Tryz.underlying177 h 2 3 2 1 (by kernel_rfl) (opn_int Tryz.underlying3)
  obtain ⟨a3, v3, h3⟩ := opn_field Tryz.underlying177 h 3 175 3 1 (by kernel_rfl) (opn_slice (sz := 3) Tryz.underlying175 (by kernel_rfl) (by decide) (fun _ => rfl) (opnApiDevice197 enc w base spare held))
  exact ⟨⟨a0, a1, a2, a3⟩, ⟨v0, v1, v2, v3⟩, opn_struct [1, 1, 1, 1] (by rw [hl]; rfl) (RdC.append h0 (RdC.append h1 (RdC.append h2 (RdC.append h3 (RdC.nil w)))))⟩
def okApiOneTime (x : ApiOneTime) : Prop := x.User.size ≤ maxLen ∧ x.Device.size ≤ maxLen ∧ (IntKind.i64.min ≤ x.Next ∧ x.Next ≤ IntKind.i64.max) ∧ (IntKind.i64.min ≤ x.Left ∧ x.Left ≤ IntKind.i64.max)
set_option maxRecDepth 20000 in
theorem opnApiOneTime179 {H : Type} (enc : TypeId × Value → H) (w : World) (base : Nat) (spare : Nat → Bool) (held : Bool) : Opn enc Tryz.prog w base spare held 179 eApiOneTime okApiOneTime := by
  intro fuel cs x h
  have hl := opn_length Tryz.underlying179 h 4 (by kernel_rfl)
  obtain ⟨a0, v0, h0⟩ := opn_field Tryz.underlying179 h 0 9 0 1 (by kernel_rfl) (opn_str Tryz.underlying9)
  obtain ⟨a1, v1, h1⟩ := opn_field Tryz.underlying179 h 1 9 1 1 (by kernel_rfl) (opn_str Tryz.underlying9)
  obtain ⟨a2, v2, h2⟩ := opn_field Tryz.underlying179 h 2 3 2 1 (by kernel_rfl) (opn_int Tryz.underlying3)
  obtain ⟨a3, v3, h3⟩ := opn_field Tryz.underlying179 h 3 3 3 1 (by kernel_rfl) (opn_int Tryz.underlying3)
  exact ⟨⟨a0, a1, a2, a3⟩, ⟨v0, v1, v2, v3⟩, opn_struct [1, 1, 1, 1] (by rw [hl]; rfl) (RdC.append h0 (RdC.append h1 (RdC.append h2 (RdC.append h3 (RdC.nil w)))))⟩
def okApiBucket (x : ApiBucket) : Prop := (IntKind.i64.min ≤ x.Left ∧ x.Left ≤ IntKind.i64.max) ∧ (IntKind.i64.min ≤ x.At ∧ x.At ≤ IntKind.i64.max) ∧ (IntKind.i64.min ≤ x.Most ∧ x.Most ≤ IntKind.i64.max) ∧ (IntKind.i64.min ≤ x.Every ∧ x.Every ≤ IntKind.i64.max)
set_option maxRecDepth 20000 in
theorem opnApiBucket181 {H : Type} (enc : TypeId × Value → H) (w : World) (base : Nat) (spare : Nat → Bool) (held : Bool) : Opn enc Tryz.prog w base spare held 181 eApiBucket okApiBucket := by
  intro fuel cs x h
  have hl := opn_length Tryz.underlying181 h 4 (by kernel_rfl)
  obtain ⟨a0, v0, h0⟩ := opn_field Tryz.underlying181 h 0 3 0 1 (by kernel_rfl) (opn_int Tryz.underlying3)
  obtain ⟨a1, v1, h1⟩ := opn_field Tryz.underlying181 h 1 3 1 1 (by kernel_rfl) (opn_int Tryz.underlying3)
  obtain ⟨a2, v2, h2⟩ := opn_field Tryz.underlying181 h 2 3 2 1 (by kernel_rfl) (opn_int Tryz.underlying3)
  obtain ⟨a3, v3, h3⟩ := opn_field Tryz.underlying181 h 3 3 3 1 (by kernel_rfl) (opn_int Tryz.underlying3)
  exact ⟨⟨a0, a1, a2, a3⟩, ⟨v0, v1, v2, v3⟩, opn_struct [1, 1, 1, 1] (by rw [hl]; rfl) (RdC.append h0 (RdC.append h1 (RdC.append h2 (RdC.append h3 (RdC.nil w)))))⟩
def okApiLimit (x : ApiLimit) : Prop := x.User.size ≤ maxLen ∧ okApiBucket x.Bucket
set_option maxRecDepth 20000 in
theorem opnApiLimit183 {H : Type} (enc : TypeId × Value → H) (w : World) (base : Nat) (spare : Nat → Bool) (held : Bool) : Opn enc Tryz.prog w base spare held 183 eApiLimit okApiLimit := by
  intro fuel cs x h
  have hl := opn_length Tryz.underlying183 h 5 (by kernel_rfl)
  obtain ⟨a0, v0, h0⟩ := opn_field Tryz.underlying183 h 0 9 0 1 (by kernel_rfl) (opn_str Tryz.underlying9)
  obtain ⟨a1, v1, h1⟩ := opn_field Tryz.underlying183 h 1 181 1 4 (by kernel_rfl) (opnApiBucket181 enc w base spare held)
  exact ⟨⟨a0, a1⟩, ⟨v0, v1⟩, opn_struct [1, 4] (by rw [hl]; rfl) (RdC.append h0 (RdC.append h1 (RdC.nil w)))⟩
def okApiMedia (x : ApiMedia) : Prop := x.Server.size ≤ maxLen ∧ x.Name.size ≤ maxLen ∧ (IntKind.i64.min ≤ x.Size ∧ x.Size ≤ IntKind.i64.max) ∧ (IntKind.i64.min ≤ x.At ∧ x.At ≤ IntKind.i64.max) ∧ (IntKind.i64.min ≤ x.Is ∧ x.Is ≤ IntKind.i64.max)
set_option maxRecDepth 20000 in
theorem opnApiMedia185 {H : Type} (enc : TypeId × Value → H) (w : World) (base : Nat) (spare : Nat → Bool) (held : Bool) : Opn enc Tryz.prog w base spare held 185 eApiMedia okApiMedia := by
  intro fuel cs x h
  have hl := opn_length Tryz.underlying185 h 5 (by kernel_rfl)
  obtain ⟨a0, v0, h0⟩ := opn_field Tryz.underlying185 h 0 9 0 1 (by kernel_rfl) (opn_str Tryz.underlying9)
  obtain ⟨a1, v1, h1⟩ := opn_field Tryz.underlying185 h 1 9 1 1 (by kernel_rfl) (opn_str Tryz.underlying9)
  obtain ⟨a2, v2, h2⟩ := opn_field Tryz.underlying185 h 2 3 2 1 (by kernel_rfl) (opn_int Tryz.underlying3)
  obtain ⟨a3, v3, h3⟩ := opn_field Tryz.underlying185 h 3 3 3 1 (by kernel_rfl) (opn_int Tryz.underlying3)
  obtain ⟨a4, v4, h4⟩ := opn_field Tryz.underlying185 h 4 3 4 1 (by kernel_rfl) (opn_int Tryz.underlying3)
  exact ⟨⟨a0, a1, a2, a3, a4⟩, ⟨v0, v1, v2, v3, v4⟩, opn_struct [1, 1, 1, 1, 1] (by rw [hl]; rfl) (RdC.append h0 (RdC.append h1 (RdC.append h2 (RdC.append h3 (RdC.append h4 (RdC.nil w))))))⟩
def okApiServer (x : ApiServer) : Prop := x.Name.size ≤ maxLen ∧ (x.Rooms.length ≤ maxLen ∧ ∀ y20 ∈ x.Rooms, okApiRoom y20) ∧ (x.Queues.length ≤ maxLen ∧ ∀ y21 ∈ x.Queues, okApiQueue y21) ∧ (x.Users.length ≤ maxLen ∧ ∀ y22 ∈ x.Users, y22.size ≤ maxLen) ∧ (x.Pending.length ≤ maxLen ∧ ∀ y23 ∈ x.Pending, okApiPacket y23) ∧ (x.Keys.length ≤ maxLen ∧ ∀ y24 ∈ x.Keys, okApiKeys y24) ∧ (IntKind.i64.min ≤ x.Stream ∧ x.Stream ≤ IntKind.i64.max) ∧ (x.OneTime.length ≤ maxLen ∧ ∀ y25 ∈ x.OneTime, okApiOneTime y25) ∧ (x.Limits.length ≤ maxLen ∧ ∀ y26 ∈ x.Limits, okApiLimit y26) ∧ (x.Media.length ≤ maxLen ∧ ∀ y27 ∈ x.Media, okApiMedia y27) ∧ True ∧ (IntKind.i64.min ≤ x.Now ∧ x.Now ≤ IntKind.i64.max)
set_option maxRecDepth 20000 in
theorem opnApiServer31 {H : Type} (enc : TypeId × Value → H) (w : World) (base : Nat) (spare : Nat → Bool) (held : Bool) : Opn enc Tryz.prog w base spare held 31 eApiServer okApiServer := by
  intro fuel cs x h
  have hl := opn_length Tryz.underlying31 h 12 (by kernel_rfl)
  obtain ⟨a0, v0, h0⟩ := opn_field Tryz.underlying31 h 0 9 0 1 (by kernel_rfl) (opn_str Tryz.underlying9)
  obtain ⟨a1, v1, h1⟩ := opn_field Tryz.underlying31 h 1 22 1 1 (by kernel_rfl) (opn_slice (sz := 9) Tryz.underlying22 (by kernel_rfl) (by decide) (fun _ => rfl) (opnApiRoom172 enc w base spare held))
  obtain ⟨a2, v2, h2⟩ := opn_field Tryz.underlying31 h 2 23 2 1 (by kernel_rfl) (opn_slice (sz := 6) Tryz.underlying23 (by kernel_rfl) (by decide) (fun _ => rfl) (opnApiQueue174 enc w base spare held))
  obtain ⟨a3, v3, h3⟩ := opn_field Tryz.underlying31 h 3 24 3 1 (by kernel_rfl) (opn_slice (sz := 1) Tryz.underlying24 (by kernel_rfl) (by decide) (fun _ => rfl) (opn_str Tryz.underlying9))
  obtain ⟨a4, v4, h4⟩ := opn_field Tryz.underlying31 h 4 25 4 1 (by kernel_rfl) (opn_slice (sz := 10) Tryz.underlying25 (by kernel_rfl) (by decide) (fun _ => rfl) (opnApiPacket57 enc w base spare held))
  obtain ⟨a5, v5, h5⟩ := opn_field Tryz.underlying31 h 5 26 5 1 (by kernel_rfl) (opn_slice (sz := 4) Tryz.underlying26 (by kernel_rfl) (by decide) (fun _ => rfl) (opnApiKeys177 enc w base spare held))
  obtain ⟨a6, v6, h6⟩ := opn_field Tryz.underlying31 h 6 3 6 1 (by kernel_rfl) (opn_int Tryz.underlying3)
  obtain ⟨a7, v7, h7⟩ := opn_field Tryz.underlying31 h 7 27 7 1 (by kernel_rfl) (opn_slice (sz := 4) Tryz.underlying27 (by kernel_rfl) (by decide) (fun _ => rfl) (opnApiOneTime179 enc w base spare held))
  obtain ⟨a8, v8, h8⟩ := opn_field Tryz.underlying31 h 8 28 8 1 (by kernel_rfl) (opn_slice (sz := 5) Tryz.underlying28 (by kernel_rfl) (by decide) (fun _ => rfl) (opnApiLimit183 enc w base spare held))
  obtain ⟨a9, v9, h9⟩ := opn_field Tryz.underlying31 h 9 29 9 1 (by kernel_rfl) (opn_slice (sz := 5) Tryz.underlying29 (by kernel_rfl) (by decide) (fun _ => rfl) (opnApiMedia185 enc w base spare held))
  obtain ⟨a10, v10, h10⟩ := opn_field Tryz.underlying31 h 10 4 10 1 (by kernel_rfl) (opn_bool Tryz.underlying4)
  obtain ⟨a11, v11, h11⟩ := opn_field Tryz.underlying31 h 11 3 11 1 (by kernel_rfl) (opn_int Tryz.underlying3)
  exact ⟨⟨a0, a1, a2, a3, a4, a5, a6, a7, a8, a9, a10, a11⟩, ⟨v0, v1, v2, v3, v4, v5, v6, v7, v8, v9, v10, v11⟩, opn_struct [1, 1, 1, 1, 1, 1, 1, 1, 1, 1, 1, 1] (by rw [hl]; rfl) (RdC.append h0 (RdC.append h1 (RdC.append h2 (RdC.append h3 (RdC.append h4 (RdC.append h5 (RdC.append h6 (RdC.append h7 (RdC.append h8 (RdC.append h9 (RdC.append h10 (RdC.append h11 (RdC.nil w)))))))))))))⟩
def okApiDeed (x : ApiDeed) : Prop := (IntKind.i64.min ≤ x.Kind ∧ x.Kind ≤ IntKind.i64.max) ∧ x.To.size ≤ maxLen ∧ okApiEvent x.Event
set_option maxRecDepth 20000 in
theorem opnApiDeed45 {H : Type} (enc : TypeId × Value → H) (w : World) (base : Nat) (spare : Nat → Bool) (held : Bool) : Opn enc Tryz.prog w base spare held 45 eApiDeed okApiDeed := by
  intro fuel cs x h
  have hl := opn_length Tryz.underlying45 h 31 (by kernel_rfl)
  obtain ⟨a0, v0, h0⟩ := opn_field Tryz.underlying45 h 0 3 0 1 (by kernel_rfl) (opn_int Tryz.underlying3)
  obtain ⟨a1, v1, h1⟩ := opn_field Tryz.underlying45 h 1 9 1 1 (by kernel_rfl) (opn_str Tryz.underlying9)
  obtain ⟨a2, v2, h2⟩ := opn_field Tryz.underlying45 h 2 43 2 29 (by kernel_rfl) (opnApiEvent43 enc w base spare held)
  exact ⟨⟨a0, a1, a2⟩, ⟨v0, v1, v2⟩, opn_struct [1, 1, 29] (by rw [hl]; rfl) (RdC.append h0 (RdC.append h1 (RdC.append h2 (RdC.nil w))))⟩
end Go.Proofs.YtmegkokogomfnaaGreat
