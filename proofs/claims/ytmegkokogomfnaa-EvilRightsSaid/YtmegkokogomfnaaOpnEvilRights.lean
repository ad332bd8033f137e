/- What the law's arguments are, typed (printed by gen_row.py). No condition. -/
import Derived.Test.YtmegkokogomfnaaGt
import Derived.Test.YtmegkokogomfnaaAvP
namespace Go.Proofs.Ytmegkokogomfnaa
open Go.RowKit
def okApiLevel (x : ApiLevel) : Prop := x.User.size ≤ maxLen ∧ (IntKind.i64.min ≤ x.N ∧ x.N ≤ IntKind.i64.max)
set_option maxRecDepth 20000 in
theorem opnApiLevel62 {H : Type} (enc : TypeId × Value → H) (w : World) (base : Nat) (spare : Nat → Bool) (held : Bool) : Opn enc Try.prog w base spare held 62 eApiLevel okApiLevel := by
  intro fuel cs x h
  have hl := opn_length Try.underlying62 h 2 (by kernel_rfl)
  obtain ⟨a0, v0, h0⟩ := opn_field Try.underlying62 h 0 9 0 1 (by kernel_rfl) (opn_str Try.underlying9)
  obtain ⟨a1, v1, h1⟩ := opn_field Try.underlying62 h 1 3 1 1 (by kernel_rfl) (opn_int Try.underlying3)
  exact ⟨⟨a0, a1⟩, ⟨v0, v1⟩, opn_struct [1, 1] (by rw [hl]; rfl) (RdC.append h0 (RdC.append h1 (RdC.nil w)))⟩
def okApiKindLevel (x : ApiKindLevel) : Prop := (IntKind.i64.min ≤ x.Kind ∧ x.Kind ≤ IntKind.i64.max) ∧ (IntKind.i64.min ≤ x.N ∧ x.N ≤ IntKind.i64.max)
set_option maxRecDepth 20000 in
theorem opnApiKindLevel90 {H : Type} (enc : TypeId × Value → H) (w : World) (base : Nat) (spare : Nat → Bool) (held : Bool) : Opn enc Try.prog w base spare held 90 eApiKindLevel okApiKindLevel := by
  intro fuel cs x h
  have hl := opn_length Try.underlying90 h 2 (by kernel_rfl)
  obtain ⟨a0, v0, h0⟩ := opn_field Try.underlying90 h 0 32 0 1 (by kernel_rfl) (opn_int Try.underlying32)
  obtain ⟨a1, v1, h1⟩ := opn_field Try.underlying90 h 1 3 1 1 (by kernel_rfl) (opn_int Try.underlying3)
  exact ⟨⟨a0, a1⟩, ⟨v0, v1⟩, opn_struct [1, 1] (by rw [hl]; rfl) (RdC.append h0 (RdC.append h1 (RdC.nil w)))⟩
def okApiLevels (x : ApiLevels) : Prop := (x.Users.length ≤ maxLen ∧ ∀ y1 ∈ x.Users, okApiLevel y1) ∧ (x.Kinds.length ≤ maxLen ∧ ∀ y2 ∈ x.Kinds, okApiKindLevel y2) ∧ (IntKind.i64.min ≤ x.User ∧ x.User ≤ IntKind.i64.max) ∧ (IntKind.i64.min ≤ x.Message ∧ x.Message ≤ IntKind.i64.max) ∧ (IntKind.i64.min ≤ x.State ∧ x.State ≤ IntKind.i64.max) ∧ (IntKind.i64.min ≤ x.Invite ∧ x.Invite ≤ IntKind.i64.max) ∧ (IntKind.i64.min ≤ x.Kick ∧ x.Kick ≤ IntKind.i64.max) ∧ (IntKind.i64.min ≤ x.Ban ∧ x.Ban ≤ IntKind.i64.max) ∧ (IntKind.i64.min ≤ x.Redact ∧ x.Redact ≤ IntKind.i64.max)
set_option maxRecDepth 20000 in
theorem opnApiLevels37 {H : Type} (enc : TypeId × Value → H) (w : World) (base : Nat) (spare : Nat → Bool) (held : Bool) : Opn enc Try.prog w base spare held 37 eApiLevels okApiLevels := by
  intro fuel cs x h
  have hl := opn_length Try.underlying37 h 9 (by kernel_rfl)
  obtain ⟨a0, v0, h0⟩ := opn_field Try.underlying37 h 0 34 0 1 (by kernel_rfl) (opn_slice (sz := 2) Try.underlying34 (by kernel_rfl) (by decide) (fun _ => rfl) (opnApiLevel62 enc w base spare held))
  obtain ⟨a1, v1, h1⟩ := opn_field Try.underlying37 h 1 35 1 1 (by kernel_rfl) (opn_slice (sz := 2) Try.underlying35 (by kernel_rfl) (by decide) (fun _ => rfl) (opnApiKindLevel90 enc w base spare held))
  obtain ⟨a2, v2, h2⟩ := opn_field Try.underlying37 h 2 3 2 1 (by kernel_rfl) (opn_int Try.underlying3)
  obtain ⟨a3, v3, h3⟩ := opn_field Try.underlying37 h 3 3 3 1 (by kernel_rfl) (opn_int Try.underlying3)
  obtain ⟨a4, v4, h4⟩ := opn_field Try.underlying37 h 4 3 4 1 (by kernel_rfl) (opn_int Try.underlying3)
  obtain ⟨a5, v5, h5⟩ := opn_field Try.underlying37 h 5 3 5 1 (by kernel_rfl) (opn_int Try.underlying3)
  obtain ⟨a6, v6, h6⟩ := opn_field Try.underlying37 h 6 3 6 1 (by kernel_rfl) (opn_int Try.underlying3)
  obtain ⟨a7, v7, h7⟩ := opn_field Try.underlying37 h 7 3 7 1 (by kernel_rfl) (opn_int Try.underlying3)
  obtain ⟨a8, v8, h8⟩ := opn_field Try.underlying37 h 8 3 8 1 (by kernel_rfl) (opn_int Try.underlying3)
  exact ⟨⟨a0, a1, a2, a3, a4, a5, a6, a7, a8⟩, ⟨v0, v1, v2, v3, v4, v5, v6, v7, v8⟩, opn_struct [1, 1, 1, 1, 1, 1, 1, 1, 1] (by rw [hl]; rfl) (RdC.append h0 (RdC.append h1 (RdC.append h2 (RdC.append h3 (RdC.append h4 (RdC.append h5 (RdC.append h6 (RdC.append h7 (RdC.append h8 (RdC.nil w))))))))))⟩
def okApiContent (x : ApiContent) : Prop := x.Text.size ≤ maxLen ∧ (IntKind.i64.min ≤ x.N ∧ x.N ≤ IntKind.i64.max) ∧ (IntKind.i64.min ≤ x.Target ∧ x.Target ≤ IntKind.i64.max) ∧ True ∧ x.Via.size ≤ maxLen ∧ (x.Allow.length ≤ maxLen ∧ ∀ y3 ∈ x.Allow, y3.size ≤ maxLen) ∧ (x.Deny.length ≤ maxLen ∧ ∀ y4 ∈ x.Deny, y4.size ≤ maxLen) ∧ okApiLevels x.Levels
set_option maxRecDepth 20000 in
theorem opnApiContent39 {H : Type} (enc : TypeId × Value → H) (w : World) (base : Nat) (spare : Nat → Bool) (held : Bool) : Opn enc Try.prog w base spare held 39 eApiContent okApiContent := by
  intro fuel cs x h
  have hl := opn_length Try.underlying39 h 16 (by kernel_rfl)
  obtain ⟨a0, v0, h0⟩ := opn_field Try.underlying39 h 0 9 0 1 (by kernel_rfl) (opn_str Try.underlying9)
  obtain ⟨a1, v1, h1⟩ := opn_field Try.underlying39 h 1 3 1 1 (by kernel_rfl) (opn_int Try.underlying3)
  obtain ⟨a2, v2, h2⟩ := opn_field Try.underlying39 h 2 3 2 1 (by kernel_rfl) (opn_int Try.underlying3)
  obtain ⟨a3, v3, h3⟩ := opn_field Try.underlying39 h 3 4 3 1 (by kernel_rfl) (opn_bool Try.underlying4)
  obtain ⟨a4, v4, h4⟩ := opn_field Try.underlying39 h 4 9 4 1 (by kernel_rfl) (opn_str Try.underlying9)
  obtain ⟨a5, v5, h5⟩ := opn_field Try.underlying39 h 5 24 5 1 (by kernel_rfl) (opn_slice (sz := 1) Try.underlying24 (by kernel_rfl) (by decide) (fun _ => rfl) (opn_str Try.underlying9))
  obtain ⟨a6, v6, h6⟩ := opn_field Try.underlying39 h 6 24 6 1 (by kernel_rfl) (opn_slice (sz := 1) Try.underlying24 (by kernel_rfl) (by decide) (fun _ => rfl) (opn_str Try.underlying9))
  obtain ⟨a7, v7, h7⟩ := opn_field Try.underlying39 h 7 37 7 9 (by kernel_rfl) (opnApiLevels37 enc w base spare held)
  exact ⟨⟨a0, a1, a2, a3, a4, a5, a6, a7⟩, ⟨v0, v1, v2, v3, v4, v5, v6, v7⟩, opn_struct [1, 1, 1, 1, 1, 1, 1, 9] (by rw [hl]; rfl) (RdC.append h0 (RdC.append h1 (RdC.append h2 (RdC.append h3 (RdC.append h4 (RdC.append h5 (RdC.append h6 (RdC.append h7 (RdC.nil w)))))))))⟩
def okApiSig (x : ApiSig) : Prop := x.Server.size ≤ maxLen ∧ (IntKind.i64.min ≤ x.Sum ∧ x.Sum ≤ IntKind.i64.max)
set_option maxRecDepth 20000 in
theorem opnApiSig41 {H : Type} (enc : TypeId × Value → H) (w : World) (base : Nat) (spare : Nat → Bool) (held : Bool) : Opn enc Try.prog w base spare held 41 eApiSig okApiSig := by
  intro fuel cs x h
  have hl := opn_length Try.underlying41 h 2 (by kernel_rfl)
  obtain ⟨a0, v0, h0⟩ := opn_field Try.underlying41 h 0 9 0 1 (by kernel_rfl) (opn_str Try.underlying9)
  obtain ⟨a1, v1, h1⟩ := opn_field Try.underlying41 h 1 3 1 1 (by kernel_rfl) (opn_int Try.underlying3)
  exact ⟨⟨a0, a1⟩, ⟨v0, v1⟩, opn_struct [1, 1] (by rw [hl]; rfl) (RdC.append h0 (RdC.append h1 (RdC.nil w)))⟩
def okApiEvent (x : ApiEvent) : Prop := (IntKind.i64.min ≤ x.Id ∧ x.Id ≤ IntKind.i64.max) ∧ x.Room.size ≤ maxLen ∧ x.Sender.size ≤ maxLen ∧ (IntKind.i64.min ≤ x.Kind ∧ x.Kind ≤ IntKind.i64.max) ∧ True ∧ x.Key.size ≤ maxLen ∧ (IntKind.i64.min ≤ x.Time ∧ x.Time ≤ IntKind.i64.max) ∧ (IntKind.i64.min ≤ x.Depth ∧ x.Depth ≤ IntKind.i64.max) ∧ (x.Prev.length ≤ maxLen ∧ ∀ y5 ∈ x.Prev, (IntKind.i64.min ≤ y5 ∧ y5 ≤ IntKind.i64.max)) ∧ (x.Auth.length ≤ maxLen ∧ ∀ y6 ∈ x.Auth, (IntKind.i64.min ≤ y6 ∧ y6 ≤ IntKind.i64.max)) ∧ okApiContent x.Content ∧ (IntKind.i64.min ≤ x.Hash ∧ x.Hash ≤ IntKind.i64.max) ∧ okApiSig x.Sig
set_option maxRecDepth 20000 in
theorem opnApiEvent43 {H : Type} (enc : TypeId × Value → H) (w : World) (base : Nat) (spare : Nat → Bool) (held : Bool) : Opn enc Try.prog w base spare held 43 eApiEvent okApiEvent := by
  intro fuel cs x h
  have hl := opn_length Try.underlying43 h 29 (by kernel_rfl)
  obtain ⟨a0, v0, h0⟩ := opn_field Try.underlying43 h 0 3 0 1 (by kernel_rfl) (opn_int Try.underlying3)
  obtain ⟨a1, v1, h1⟩ := opn_field Try.underlying43 h 1 9 1 1 (by kernel_rfl) (opn_str Try.underlying9)
  obtain ⟨a2, v2, h2⟩ := opn_field Try.underlying43 h 2 9 2 1 (by kernel_rfl) (opn_str Try.underlying9)
  obtain ⟨a3, v3, h3⟩ := opn_field Try.underlying43 h 3 32 3 1 (by kernel_rfl) (opn_int Try.underlying32)
  obtain ⟨a4, v4, h4⟩ := opn_field Try.underlying43 h 4 4 4 1 (by kernel_rfl) (opn_bool Try.underlying4)
  obtain ⟨a5, v5, h5⟩ := opn_field Try.underlying43 h 5 9 5 1 (by kernel_rfl) (opn_str Try.underlying9)
  obtain ⟨a6, v6, h6⟩ := opn_field Try.underlying43 h 6 3 6 1 (by kernel_rfl) (opn_int Try.underlying3)
  obtain ⟨a7, v7, h7⟩ := opn_field Try.underlying43 h 7 3 7 1 (by kernel_rfl) (opn_int Try.underlying3)
  obtain ⟨a8, v8, h8⟩ := opn_field Try.underlying43 h 8 33 8 1 (by kernel_rfl) (opn_slice (sz := 1) Try.underlying33 (by kernel_rfl) (by decide) (fun _ => rfl) (opn_int Try.underlying3))
  obtain ⟨a9, v9, h9⟩ := opn_field Try.underlying43 h 9 33 9 1 (by kernel_rfl) (opn_slice (sz := 1) Try.underlying33 (by kernel_rfl) (by decide) (fun _ => rfl) (opn_int Try.underlying3))
  obtain ⟨a10, v10, h10⟩ := opn_field Try.underlying43 h 10 39 10 16 (by kernel_rfl) (opnApiContent39 enc w base spare held)
  obtain ⟨a11, v11, h11⟩ := opn_field Try.underlying43 h 11 3 26 1 (by kernel_rfl) (opn_int Try.underlying3)
  obtain ⟨a12, v12, h12⟩ := opn_field Try.underlying43 h 12 41 27 2 (by kernel_rfl) (opnApiSig41 enc w base spare held)
  exact ⟨⟨a0, a1, a2, a3, a4, a5, a6, a7, a8, a9, a10, a11, a12⟩, ⟨v0, v1, v2, v3, v4, v5, v6, v7, v8, v9, v10, v11, v12⟩, opn_struct [1, 1, 1, 1, 1, 1, 1, 1, 1, 1, 16, 1, 2] (by rw [hl]; rfl) (RdC.append h0 (RdC.append h1 (RdC.append h2 (RdC.append h3 (RdC.append h4 (RdC.append h5 (RdC.append h6 (RdC.append h7 (RdC.append h8 (RdC.append h9 (RdC.append h10 (RdC.append h11 (RdC.append h12 (RdC.nil w))))))))))))))⟩
def okApiRow (x : ApiRow) : Prop := (IntKind.i64.min ≤ x.Pos ∧ x.Pos ≤ IntKind.i64.max) ∧ (IntKind.i64.min ≤ x.Id ∧ x.Id ≤ IntKind.i64.max) ∧ (IntKind.i64.min ≤ x.Status ∧ x.Status ≤ IntKind.i64.max) ∧ True
set_option maxRecDepth 20000 in
theorem opnApiRow174 {H : Type} (enc : TypeId × Value → H) (w : World) (base : Nat) (spare : Nat → Bool) (held : Bool) : Opn enc Try.prog w base spare held 174 eApiRow okApiRow := by
  intro fuel cs x h
  have hl := opn_length Try.underlying174 h 4 (by kernel_rfl)
  obtain ⟨a0, v0, h0⟩ := opn_field Try.underlying174 h 0 3 0 1 (by kernel_rfl) (opn_int Try.underlying3)
  obtain ⟨a1, v1, h1⟩ := opn_field Try.underlying174 h 1 3 1 1 (by kernel_rfl) (opn_int Try.underlying3)
  obtain ⟨a2, v2, h2⟩ := opn_field Try.underlying174 h 2 172 2 1 (by kernel_rfl) (opn_int Try.underlying172)
  obtain ⟨a3, v3, h3⟩ := opn_field Try.underlying174 h 3 4 3 1 (by kernel_rfl) (opn_bool Try.underlying4)
  exact ⟨⟨a0, a1, a2, a3⟩, ⟨v0, v1, v2, v3⟩, opn_struct [1, 1, 1, 1] (by rw [hl]; rfl) (RdC.append h0 (RdC.append h1 (RdC.append h2 (RdC.append h3 (RdC.nil w)))))⟩
def okApiEntry (x : ApiEntry) : Prop := (IntKind.i64.min ≤ x.Kind ∧ x.Kind ≤ IntKind.i64.max) ∧ x.Key.size ≤ maxLen ∧ (IntKind.i64.min ≤ x.Id ∧ x.Id ≤ IntKind.i64.max)
set_option maxRecDepth 20000 in
theorem opnApiEntry176 {H : Type} (enc : TypeId × Value → H) (w : World) (base : Nat) (spare : Nat → Bool) (held : Bool) : Opn enc Try.prog w base spare held 176 eApiEntry okApiEntry := by
  intro fuel cs x h
  have hl := opn_length Try.underlying176 h 3 (by kernel_rfl)
  obtain ⟨a0, v0, h0⟩ := opn_field Try.underlying176 h 0 32 0 1 (by kernel_rfl) (opn_int Try.underlying32)
  obtain ⟨a1, v1, h1⟩ := opn_field Try.underlying176 h 1 9 1 1 (by kernel_rfl) (opn_str Try.underlying9)
  obtain ⟨a2, v2, h2⟩ := opn_field Try.underlying176 h 2 3 2 1 (by kernel_rfl) (opn_int Try.underlying3)
  exact ⟨⟨a0, a1, a2⟩, ⟨v0, v1, v2⟩, opn_struct [1, 1, 1] (by rw [hl]; rfl) (RdC.append h0 (RdC.append h1 (RdC.append h2 (RdC.nil w))))⟩
def okApiReceipt (x : ApiReceipt) : Prop := x.User.size ≤ maxLen ∧ (IntKind.i64.min ≤ x.Thread ∧ x.Thread ≤ IntKind.i64.max) ∧ (IntKind.i64.min ≤ x.Id ∧ x.Id ≤ IntKind.i64.max) ∧ (IntKind.i64.min ≤ x.Time ∧ x.Time ≤ IntKind.i64.max)
set_option maxRecDepth 20000 in
theorem opnApiReceipt178 {H : Type} (enc : TypeId × Value → H) (w : World) (base : Nat) (spare : Nat → Bool) (held : Bool) : Opn enc Try.prog w base spare held 178 eApiReceipt okApiReceipt := by
  intro fuel cs x h
  have hl := opn_length Try.underlying178 h 4 (by kernel_rfl)
  obtain ⟨a0, v0, h0⟩ := opn_field Try.underlying178 h 0 9 0 1 (by kernel_rfl) (opn_str Try.underlying9)
  obtain ⟨a1, v1, h1⟩ := opn_field Try.underlying178 h 1 3 1 1 (by kernel_rfl) (opn_int Try.underlying3)
  obtain ⟨a2, v2, h2⟩ := opn_field Try.underlying178 h 2 3 2 1 (by kernel_rfl) (opn_int Try.underlying3)
  obtain ⟨a3, v3, h3⟩ := opn_field Try.underlying178 h 3 3 3 1 (by kernel_rfl) (opn_int Try.underlying3)
  exact ⟨⟨a0, a1, a2, a3⟩, ⟨v0, v1, v2, v3⟩, opn_struct [1, 1, 1, 1] (by rw [hl]; rfl) (RdC.append h0 (RdC.append h1 (RdC.append h2 (RdC.append h3 (RdC.nil w)))))⟩
def okApiTyping (x : ApiTyping) : Prop := x.User.size ≤ maxLen ∧ (IntKind.i64.min ≤ x.Until ∧ x.Until ≤ IntKind.i64.max)
set_option maxRecDepth 20000 in
theorem opnApiTyping180 {H : Type} (enc : TypeId × Value → H) (w : World) (base : Nat) (spare : Nat → Bool) (held : Bool) : Opn enc Try.prog w base spare held 180 eApiTyping okApiTyping := by
  intro fuel cs x h
  have hl := opn_length Try.underlying180 h 2 (by kernel_rfl)
  obtain ⟨a0, v0, h0⟩ := opn_field Try.underlying180 h 0 9 0 1 (by kernel_rfl) (opn_str Try.underlying9)
  obtain ⟨a1, v1, h1⟩ := opn_field Try.underlying180 h 1 3 1 1 (by kernel_rfl) (opn_int Try.underlying3)
  exact ⟨⟨a0, a1⟩, ⟨v0, v1⟩, opn_struct [1, 1] (by rw [hl]; rfl) (RdC.append h0 (RdC.append h1 (RdC.nil w)))⟩
def okApiRoom (x : ApiRoom) : Prop := x.Id.size ≤ maxLen ∧ (x.Events.length ≤ maxLen ∧ ∀ y7 ∈ x.Events, okApiEvent y7) ∧ (x.Rows.length ≤ maxLen ∧ ∀ y8 ∈ x.Rows, okApiRow y8) ∧ (x.Waiting.length ≤ maxLen ∧ ∀ y9 ∈ x.Waiting, okApiEvent y9) ∧ (x.Heads.length ≤ maxLen ∧ ∀ y10 ∈ x.Heads, (IntKind.i64.min ≤ y10 ∧ y10 ≤ IntKind.i64.max)) ∧ (x.State.length ≤ maxLen ∧ ∀ y11 ∈ x.State, okApiEntry y11) ∧ (IntKind.i64.min ≤ x.Next ∧ x.Next ≤ IntKind.i64.max) ∧ (x.Receipts.length ≤ maxLen ∧ ∀ y12 ∈ x.Receipts, okApiReceipt y12) ∧ (x.Typing.length ≤ maxLen ∧ ∀ y13 ∈ x.Typing, okApiTyping y13)
set_option maxRecDepth 20000 in
theorem opnApiRoom157 {H : Type} (enc : TypeId × Value → H) (w : World) (base : Nat) (spare : Nat → Bool) (held : Bool) : Opn enc Try.prog w base spare held 157 eApiRoom okApiRoom := by
  intro fuel cs x h
  have hl := opn_length Try.underlying157 h 9 (by kernel_rfl)
  obtain ⟨a0, v0, h0⟩ := opn_field Try.underlying157 h 0 9 0 1 (by kernel_rfl) (opn_str Try.underlying9)
  obtain ⟨a1, v1, h1⟩ := opn_field Try.underlying157 h 1 56 1 1 (by kernel_rfl) (opn_slice (sz := 29) Try.underlying56 (by kernel_rfl) (by decide) (fun _ => rfl) (opnApiEvent43 enc w base spare held))
  obtain ⟨a2, v2, h2⟩ := opn_field Try.underlying157 h 2 151 2 1 (by kernel_rfl) (opn_slice (sz := 4) Try.underlying151 (by kernel_rfl) (by decide) (fun _ => rfl) (opnApiRow174 enc w base spare held))
  obtain ⟨a3, v3, h3⟩ := opn_field Try.underlying157 h 3 56 3 1 (by kernel_rfl) (opn_slice (sz := 29) Try.underlying56 (by kernel_rfl) (by decide) (fun _ => rfl) (opnApiEvent43 enc w base spare held))
  obtain ⟨a4, v4, h4⟩ := opn_field Try.underlying157 h 4 33 4 1 (by kernel_rfl) (opn_slice (sz := 1) Try.underlying33 (by kernel_rfl) (by decide) (fun _ => rfl) (opn_int Try.underlying3))
  obtain ⟨a5, v5, h5⟩ := opn_field Try.underlying157 h 5 153 5 1 (by kernel_rfl) (opn_slice (sz := 3) Try.underlying153 (by kernel_rfl) (by decide) (fun _ => rfl) (opnApiEntry176 enc w base spare held))
  obtain ⟨a6, v6, h6⟩ := opn_field Try.underlying157 h 6 3 6 1 (by kernel_rfl) (opn_int Try.underlying3)
  obtain ⟨a7, v7, h7⟩ := opn_field Try.underlying157 h 7 154 7 1 (by kernel_rfl) (opn_slice (sz := 4) Try.underlying154 (by kernel_rfl) (by decide) (fun _ => rfl) (opnApiReceipt178 enc w base spare held))
  obtain ⟨a8, v8, h8⟩ := opn_field Try.underlying157 h 8 155 8 1 (by kernel_rfl) (opn_slice (sz := 2) Try.underlying155 (by kernel_rfl) (by decide) (fun _ => rfl) (opnApiTyping180 enc w base spare held))
  exact ⟨⟨a0, a1, a2, a3, a4, a5, a6, a7, a8⟩, ⟨v0, v1, v2, v3, v4, v5, v6, v7, v8⟩, opn_struct [1, 1, 1, 1, 1, 1, 1, 1, 1] (by rw [hl]; rfl) (RdC.append h0 (RdC.append h1 (RdC.append h2 (RdC.append h3 (RdC.append h4 (RdC.append h5 (RdC.append h6 (RdC.append h7 (RdC.append h8 (RdC.nil w))))))))))⟩
def okApiQueue (x : ApiQueue) : Prop := x.To.size ≤ maxLen ∧ (IntKind.i64.min ≤ x.Next ∧ x.Next ≤ IntKind.i64.max) ∧ (x.Events.length ≤ maxLen ∧ ∀ y14 ∈ x.Events, okApiEvent y14) ∧ (x.Open.length ≤ maxLen ∧ ∀ y15 ∈ x.Open, okApiEvent y15) ∧ (IntKind.i64.min ≤ x.Fails ∧ x.Fails ≤ IntKind.i64.max) ∧ (IntKind.i64.min ≤ x.At ∧ x.At ≤ IntKind.i64.max)
set_option maxRecDepth 20000 in
theorem opnApiQueue159 {H : Type} (enc : TypeId × Value → H) (w : World) (base : Nat) (spare : Nat → Bool) (held : Bool) : Opn enc Try.prog w base spare held 159 eApiQueue okApiQueue := by
  intro fuel cs x h
  have hl := opn_length Try.underlying159 h 6 (by kernel_rfl)
  obtain ⟨a0, v0, h0⟩ := opn_field Try.underlying159 h 0 9 0 1 (by kernel_rfl) (opn_str Try.underlying9)
  obtain ⟨a1, v1, h1⟩ := opn_field Try.underlying159 h 1 3 1 1 (by kernel_rfl) (opn_int Try.underlying3)
  obtain ⟨a2, v2, h2⟩ := opn_field Try.underlying159 h 2 56 2 1 (by kernel_rfl) (opn_slice (sz := 29) Try.underlying56 (by kernel_rfl) (by decide) (fun _ => rfl) (opnApiEvent43 enc w base spare held))
  obtain ⟨a3, v3, h3⟩ := opn_field Try.underlying159 h 3 56 3 1 (by kernel_rfl) (opn_slice (sz := 29) Try.underlying56 (by kernel_rfl) (by decide) (fun _ => rfl) (opnApiEvent43 enc w base spare held))
  obtain ⟨a4, v4, h4⟩ := opn_field Try.underlying159 h 4 3 4 1 (by kernel_rfl) (opn_int Try.underlying3)
  obtain ⟨a5, v5, h5⟩ := opn_field Try.underlying159 h 5 3 5 1 (by kernel_rfl) (opn_int Try.underlying3)
  exact ⟨⟨a0, a1, a2, a3, a4, a5⟩, ⟨v0, v1, v2, v3, v4, v5⟩, opn_struct [1, 1, 1, 1, 1, 1] (by rw [hl]; rfl) (RdC.append h0 (RdC.append h1 (RdC.append h2 (RdC.append h3 (RdC.append h4 (RdC.append h5 (RdC.nil w)))))))⟩
def okApiPacket (x : ApiPacket) : Prop := x.From.size ≤ maxLen ∧ x.To.size ≤ maxLen ∧ (IntKind.i64.min ≤ x.Kind ∧ x.Kind ≤ IntKind.i64.max) ∧ (IntKind.i64.min ≤ x.N ∧ x.N ≤ IntKind.i64.max) ∧ x.Room.size ≤ maxLen ∧ (x.Events.length ≤ maxLen ∧ ∀ y16 ∈ x.Events, okApiEvent y16) ∧ (x.Ids.length ≤ maxLen ∧ ∀ y17 ∈ x.Ids, (IntKind.i64.min ≤ y17 ∧ y17 ≤ IntKind.i64.max)) ∧ (x.Auth.length ≤ maxLen ∧ ∀ y18 ∈ x.Auth, okApiEvent y18) ∧ x.User.size ≤ maxLen ∧ (IntKind.i64.min ≤ x.Err ∧ x.Err ≤ IntKind.i64.max)
set_option maxRecDepth 20000 in
theorem opnApiPacket58 {H : Type} (enc : TypeId × Value → H) (w : World) (base : Nat) (spare : Nat → Bool) (held : Bool) : Opn enc Try.prog w base spare held 58 eApiPacket okApiPacket := by
  intro fuel cs x h
  have hl := opn_length Try.underlying58 h 10 (by kernel_rfl)
  obtain ⟨a0, v0, h0⟩ := opn_field Try.underlying58 h 0 9 0 1 (by kernel_rfl) (opn_str Try.underlying9)
  obtain ⟨a1, v1, h1⟩ := opn_field Try.underlying58 h 1 9 1 1 (by kernel_rfl) (opn_str Try.underlying9)
  obtain ⟨a2, v2, h2⟩ := opn_field Try.underlying58 h 2 55 2 1 (by kernel_rfl) (opn_int Try.underlying55)
  obtain ⟨a3, v3, h3⟩ := opn_field Try.underlying58 h 3 3 3 1 (by kernel_rfl) (opn_int Try.underlying3)
  obtain ⟨a4, v4, h4⟩ := opn_field Try.underlying58 h 4 9 4 1 (by kernel_rfl) (opn_str Try.underlying9)
  obtain ⟨a5, v5, h5⟩ := opn_field Try.underlying58 h 5 56 5 1 (by kernel_rfl) (opn_slice (sz := 29) Try.underlying56 (by kernel_rfl) (by decide) (fun _ => rfl) (opnApiEvent43 enc w base spare held))
  obtain ⟨a6, v6, h6⟩ := opn_field Try.underlying58 h 6 33 6 1 (by kernel_rfl) (opn_slice (sz := 1) Try.underlying33 (by kernel_rfl) (by decide) (fun _ => rfl) (opn_int Try.underlying3))
  obtain ⟨a7, v7, h7⟩ := opn_field Try.underlying58 h 7 56 7 1 (by kernel_rfl) (opn_slice (sz := 29) Try.underlying56 (by kernel_rfl) (by decide) (fun _ => rfl) (opnApiEvent43 enc w base spare held))
  obtain ⟨a8, v8, h8⟩ := opn_field Try.underlying58 h 8 9 8 1 (by kernel_rfl) (opn_str Try.underlying9)
  obtain ⟨a9, v9, h9⟩ := opn_field Try.underlying58 h 9 47 9 1 (by kernel_rfl) (opn_int Try.underlying47)
  exact ⟨⟨a0, a1, a2, a3, a4, a5, a6, a7, a8, a9⟩, ⟨v0, v1, v2, v3, v4, v5, v6, v7, v8, v9⟩, opn_struct [1, 1, 1, 1, 1, 1, 1, 1, 1, 1] (by rw [hl]; rfl) (RdC.append h0 (RdC.append h1 (RdC.append h2 (RdC.append h3 (RdC.append h4 (RdC.append h5 (RdC.append h6 (RdC.append h7 (RdC.append h8 (RdC.append h9 (RdC.nil w)))))))))))⟩
def okApiDevice (x : ApiDevice) : Prop := x.Id.size ≤ maxLen ∧ (IntKind.i64.min ≤ x.Key ∧ x.Key ≤ IntKind.i64.max) ∧ True
set_option maxRecDepth 20000 in
theorem opnApiDevice182 {H : Type} (enc : TypeId × Value → H) (w : World) (base : Nat) (spare : Nat → Bool) (held : Bool) : Opn enc Try.prog w base spare held 182 eApiDevice okApiDevice := by
  intro fuel cs x h
  have hl := opn_length Try.underlying182 h 3 (by kernel_rfl)
  obtain ⟨a0, v0, h0⟩ := opn_field Try.underlying182 h 0 9 0 1 (by kernel_rfl) (opn_str Try.underlying9)
  obtain ⟨a1, v1, h1⟩ := opn_field Try.underlying182 h 1 3 1 1 (by kernel_rfl) (opn_int Try.underlying3)
  obtain ⟨a2, v2, h2⟩ := opn_field Try.underlying182 h 2 4 2 1 (by kernel_rfl) (opn_bool Try.underlying4)
  exact ⟨⟨a0, a1, a2⟩, ⟨v0, v1, v2⟩, opn_struct [1, 1, 1] (by rw [hl]; rfl) (RdC.append h0 (RdC.append h1 (RdC.append h2 (RdC.nil w))))⟩
def okApiKeys (x : ApiKeys) : Prop := x.User.size ≤ maxLen ∧ (IntKind.i64.min ≤ x.Master ∧ x.Master ≤ IntKind.i64.max) ∧ (IntKind.i64.min ≤ x.Pos ∧ x.Pos ≤ IntKind.i64.max) ∧ (x.Devices.length ≤ maxLen ∧ ∀ y19 ∈ x.Devices, okApiDevice y19)
set_option maxRecDepth 20000 in
theorem opnApiKeys162 {H : Type} (enc : TypeId × Value → H) (w : World) (base : Nat) (spare : Nat → Bool) (held : Bool) : Opn enc Try.prog w base spare held 162 eApiKeys okApiKeys := by
  intro fuel cs x h
  have hl := opn_length Try.underlying162 h 4 (by kernel_rfl)
  obtain ⟨a0, v0, h0⟩ := opn_field Try.underlying162 h 0 9 0 1 (by kernel_rfl) (opn_str Try.underlying9)
  obtain ⟨a1, v1, h1⟩ := opn_field Try.underlying162 h 1 3 1 1 (by kernel_rfl) (opn_int Try.underlying3)
  obtain ⟨a2, v2, h2⟩ := opn_field Try.underlying162 h 2 3 2 1 (by kernel_rfl) (opn_int Try.underlying3)
  obtain ⟨a3, v3, h3⟩ := opn_field Try.underlying162 h 3 160 3 1 (by kernel_rfl) (opn_slice (sz := 3) Try.underlying160 (by kernel_rfl) (by decide) (fun _ => rfl) (opnApiDevice182 enc w base spare held))
  exact ⟨⟨a0, a1, a2, a3⟩, ⟨v0, v1, v2, v3⟩, opn_struct [1, 1, 1, 1] (by rw [hl]; rfl) (RdC.append h0 (RdC.append h1 (RdC.append h2 (RdC.append h3 (RdC.nil w)))))⟩
def okApiOneTime (x : ApiOneTime) : Prop := x.User.size ≤ maxLen ∧ x.Device.size ≤ maxLen ∧ (IntKind.i64.min ≤ x.Next ∧ x.Next ≤ IntKind.i64.max) ∧ (IntKind.i64.min ≤ x.Left ∧ x.Left ≤ IntKind.i64.max)
set_option maxRecDepth 20000 in
theorem opnApiOneTime164 {H : Type} (enc : TypeId × Value → H) (w : World) (base : Nat) (spare : Nat → Bool) (held : Bool) : Opn enc Try.prog w base spare held 164 eApiOneTime okApiOneTime := by
  intro fuel cs x h
  have hl := opn_length Try.underlying164 h 4 (by kernel_rfl)
  obtain ⟨a0, v0, h0⟩ := opn_field Try.underlying164 h 0 9 0 1 (by kernel_rfl) (opn_str Try.underlying9)
  obtain ⟨a1, v1, h1⟩ := opn_field Try.underlying164 h 1 9 1 1 (by kernel_rfl) (opn_str Try.underlying9)
  obtain ⟨a2, v2, h2⟩ := opn_field Try.underlying164 h 2 3 2 1 (by kernel_rfl) (opn_int Try.underlying3)
  obtain ⟨a3, v3, h3⟩ := opn_field Try.underlying164 h 3 3 3 1 (by kernel_rfl) (opn_int Try.underlying3)
  exact ⟨⟨a0, a1, a2, a3⟩, ⟨v0, v1, v2, v3⟩, opn_struct [1, 1, 1, 1] (by rw [hl]; rfl) (RdC.append h0 (RdC.append h1 (RdC.append h2 (RdC.append h3 (RdC.nil w)))))⟩
def okApiBucket (x : ApiBucket) : Prop := (IntKind.i64.min ≤ x.Left ∧ x.Left ≤ IntKind.i64.max) ∧ (IntKind.i64.min ≤ x.At ∧ x.At ≤ IntKind.i64.max) ∧ (IntKind.i64.min ≤ x.Most ∧ x.Most ≤ IntKind.i64.max) ∧ (IntKind.i64.min ≤ x.Every ∧ x.Every ≤ IntKind.i64.max)
set_option maxRecDepth 20000 in
theorem opnApiBucket166 {H : Type} (enc : TypeId × Value → H) (w : World) (base : Nat) (spare : Nat → Bool) (held : Bool) : Opn enc Try.prog w base spare held 166 eApiBucket okApiBucket := by
  intro fuel cs x h
  have hl := opn_length Try.underlying166 h 4 (by kernel_rfl)
  obtain ⟨a0, v0, h0⟩ := opn_field Try.underlying166 h 0 3 0 1 (by kernel_rfl) (opn_int Try.underlying3)
  obtain ⟨a1, v1, h1⟩ := opn_field Try.underlying166 h 1 3 1 1 (by kernel_rfl) (opn_int Try.underlying3)
  obtain ⟨a2, v2, h2⟩ := opn_field Try.underlying166 h 2 3 2 1 (by kernel_rfl) (opn_int Try.underlying3)
  obtain ⟨a3, v3, h3⟩ := opn_field Try.underlying166 h 3 3 3 1 (by kernel_rfl) (opn_int Try.underlying3)
  exact ⟨⟨a0, a1, a2, a3⟩, ⟨v0, v1, v2, v3⟩, opn_struct [1, 1, 1, 1] (by rw [hl]; rfl) (RdC.append h0 (RdC.append h1 (RdC.append h2 (RdC.append h3 (RdC.nil w)))))⟩
def okApiLimit (x : ApiLimit) : Prop := x.User.size ≤ maxLen ∧ okApiBucket x.Bucket
set_option maxRecDepth 20000 in
theorem opnApiLimit168 {H : Type} (enc : TypeId × Value → H) (w : World) (base : Nat) (spare : Nat → Bool) (held : Bool) : Opn enc Try.prog w base spare held 168 eApiLimit okApiLimit := by
  intro fuel cs x h
  have hl := opn_length Try.underlying168 h 5 (by kernel_rfl)
  obtain ⟨a0, v0, h0⟩ := opn_field Try.underlying168 h 0 9 0 1 (by kernel_rfl) (opn_str Try.underlying9)
  obtain ⟨a1, v1, h1⟩ := opn_field Try.underlying168 h 1 166 1 4 (by kernel_rfl) (opnApiBucket166 enc w base spare held)
  exact ⟨⟨a0, a1⟩, ⟨v0, v1⟩, opn_struct [1, 4] (by rw [hl]; rfl) (RdC.append h0 (RdC.append h1 (RdC.nil w)))⟩
def okApiMedia (x : ApiMedia) : Prop := x.Server.size ≤ maxLen ∧ x.Name.size ≤ maxLen ∧ (IntKind.i64.min ≤ x.Size ∧ x.Size ≤ IntKind.i64.max) ∧ (IntKind.i64.min ≤ x.At ∧ x.At ≤ IntKind.i64.max) ∧ (IntKind.i64.min ≤ x.Is ∧ x.Is ≤ IntKind.i64.max)
set_option maxRecDepth 20000 in
theorem opnApiMedia170 {H : Type} (enc : TypeId × Value → H) (w : World) (base : Nat) (spare : Nat → Bool) (held : Bool) : Opn enc Try.prog w base spare held 170 eApiMedia okApiMedia := by
  intro fuel cs x h
  have hl := opn_length Try.underlying170 h 5 (by kernel_rfl)
  obtain ⟨a0, v0, h0⟩ := opn_field Try.underlying170 h 0 9 0 1 (by kernel_rfl) (opn_str Try.underlying9)
  obtain ⟨a1, v1, h1⟩ := opn_field Try.underlying170 h 1 9 1 1 (by kernel_rfl) (opn_str Try.underlying9)
  obtain ⟨a2, v2, h2⟩ := opn_field Try.underlying170 h 2 3 2 1 (by kernel_rfl) (opn_int Try.underlying3)
  obtain ⟨a3, v3, h3⟩ := opn_field Try.underlying170 h 3 3 3 1 (by kernel_rfl) (opn_int Try.underlying3)
  obtain ⟨a4, v4, h4⟩ := opn_field Try.underlying170 h 4 3 4 1 (by kernel_rfl) (opn_int Try.underlying3)
  exact ⟨⟨a0, a1, a2, a3, a4⟩, ⟨v0, v1, v2, v3, v4⟩, opn_struct [1, 1, 1, 1, 1] (by rw [hl]; rfl) (RdC.append h0 (RdC.append h1 (RdC.append h2 (RdC.append h3 (RdC.append h4 (RdC.nil w))))))⟩
def okApiServer (x : ApiServer) : Prop := x.Name.size ≤ maxLen ∧ (x.Rooms.length ≤ maxLen ∧ ∀ y20 ∈ x.Rooms, okApiRoom y20) ∧ (x.Queues.length ≤ maxLen ∧ ∀ y21 ∈ x.Queues, okApiQueue y21) ∧ (x.Users.length ≤ maxLen ∧ ∀ y22 ∈ x.Users, y22.size ≤ maxLen) ∧ (x.Pending.length ≤ maxLen ∧ ∀ y23 ∈ x.Pending, okApiPacket y23) ∧ (x.Keys.length ≤ maxLen ∧ ∀ y24 ∈ x.Keys, okApiKeys y24) ∧ (IntKind.i64.min ≤ x.Stream ∧ x.Stream ≤ IntKind.i64.max) ∧ (x.OneTime.length ≤ maxLen ∧ ∀ y25 ∈ x.OneTime, okApiOneTime y25) ∧ (x.Limits.length ≤ maxLen ∧ ∀ y26 ∈ x.Limits, okApiLimit y26) ∧ (x.Media.length ≤ maxLen ∧ ∀ y27 ∈ x.Media, okApiMedia y27) ∧ True ∧ (IntKind.i64.min ≤ x.Now ∧ x.Now ≤ IntKind.i64.max)
set_option maxRecDepth 20000 in
theorem opnApiServer31 {H : Type} (enc : TypeId × Value → H) (w : World) (base : Nat) (spare : Nat → Bool) (held : Bool) : Opn enc Try.prog w base spare held 31 eApiServer okApiServer := by
  intro fuel cs x h
  have hl := opn_length Try.underlying31 h 12 (by kernel_rfl)
  obtain ⟨a0, v0, h0⟩ := opn_field Try.underlying31 h 0 9 0 1 (by kernel_rfl) (opn_str Try.underlying9)
  obtain ⟨a1, v1, h1⟩ := opn_field Try.underlying31 h 1 22 1 1 (by kernel_rfl) (opn_slice (sz := 9) Try.underlying22 (by kernel_rfl) (by decide) (fun _ => rfl) (opnApiRoom157 enc w base spare held))
  obtain ⟨a2, v2, h2⟩ := opn_field Try.underlying31 h 2 23 2 1 (by kernel_rfl) (opn_slice (sz := 6) Try.underlying23 (by kernel_rfl) (by decide) (fun _ => rfl) (opnApiQueue159 enc w base spare held))
  obtain ⟨a3, v3, h3⟩ := opn_field Try.underlying31 h 3 24 3 1 (by kernel_rfl) (opn_slice (sz := 1) Try.underlying24 (by kernel_rfl) (by decide) (fun _ => rfl) (opn_str Try.underlying9))
  obtain ⟨a4, v4, h4⟩ := opn_field Try.underlying31 h 4 25 4 1 (by kernel_rfl) (opn_slice (sz := 10) Try.underlying25 (by kernel_rfl) (by decide) (fun _ => rfl) (opnApiPacket58 enc w base spare held))
  obtain ⟨a5, v5, h5⟩ := opn_field Try.underlying31 h 5 26 5 1 (by kernel_rfl) (opn_slice (sz := 4) Try.underlying26 (by kernel_rfl) (by decide) (fun _ => rfl) (opnApiKeys162 enc w base spare held))
  obtain ⟨a6, v6, h6⟩ := opn_field Try.underlying31 h 6 3 6 1 (by kernel_rfl) (opn_int Try.underlying3)
  obtain ⟨a7, v7, h7⟩ := opn_field Try.underlying31 h 7 27 7 1 (by kernel_rfl) (opn_slice (sz := 4) Try.underlying27 (by kernel_rfl) (by decide) (fun _ => rfl) (opnApiOneTime164 enc w base spare held))
  obtain ⟨a8, v8, h8⟩ := opn_field Try.underlying31 h 8 28 8 1 (by kernel_rfl) (opn_slice (sz := 5) Try.underlying28 (by kernel_rfl) (by decide) (fun _ => rfl) (opnApiLimit168 enc w base spare held))
  obtain ⟨a9, v9, h9⟩ := opn_field Try.underlying31 h 9 29 9 1 (by kernel_rfl) (opn_slice (sz := 5) Try.underlying29 (by kernel_rfl) (by decide) (fun _ => rfl) (opnApiMedia170 enc w base spare held))
  obtain ⟨a10, v10, h10⟩ := opn_field Try.underlying31 h 10 4 10 1 (by kernel_rfl) (opn_bool Try.underlying4)
  obtain ⟨a11, v11, h11⟩ := opn_field Try.underlying31 h 11 3 11 1 (by kernel_rfl) (opn_int Try.underlying3)
  exact ⟨⟨a0, a1, a2, a3, a4, a5, a6, a7, a8, a9, a10, a11⟩, ⟨v0, v1, v2, v3, v4, v5, v6, v7, v8, v9, v10, v11⟩, opn_struct [1, 1, 1, 1, 1, 1, 1, 1, 1, 1, 1, 1] (by rw [hl]; rfl) (RdC.append h0 (RdC.append h1 (RdC.append h2 (RdC.append h3 (RdC.append h4 (RdC.append h5 (RdC.append h6 (RdC.append h7 (RdC.append h8 (RdC.append h9 (RdC.append h10 (RdC.append h11 (RdC.nil w)))))))))))))⟩
def okApiDeed (x : ApiDeed) : Prop := (IntKind.i64.min ≤ x.Kind ∧ x.Kind ≤ IntKind.i64.max) ∧ x.To.size ≤ maxLen ∧ okApiEvent x.Event
set_option maxRecDepth 20000 in
theorem opnApiDeed45 {H : Type} (enc : TypeId × Value → H) (w : World) (base : Nat) (spare : Nat → Bool) (held : Bool) : Opn enc Try.prog w base spare held 45 eApiDeed okApiDeed := by
  intro fuel cs x h
  have hl := opn_length Try.underlying45 h 31 (by kernel_rfl)
  obtain ⟨a0, v0, h0⟩ := opn_field Try.underlying45 h 0 3 0 1 (by kernel_rfl) (opn_int Try.underlying3)
  obtain ⟨a1, v1, h1⟩ := opn_field Try.underlying45 h 1 9 1 1 (by kernel_rfl) (opn_str Try.underlying9)
  obtain ⟨a2, v2, h2⟩ := opn_field Try.underlying45 h 2 43 2 29 (by kernel_rfl) (opnApiEvent43 enc w base spare held)
  exact ⟨⟨a0, a1, a2⟩, ⟨v0, v1, v2⟩, opn_struct [1, 1, 29] (by rw [hl]; rfl) (RdC.append h0 (RdC.append h1 (RdC.append h2 (RdC.nil w))))⟩
end Go.Proofs.Ytmegkokogomfnaa
