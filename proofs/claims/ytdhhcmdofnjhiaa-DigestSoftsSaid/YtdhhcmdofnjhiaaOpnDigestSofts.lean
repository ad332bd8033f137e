/- What the law's arguments are, typed (printed by gen_row.py). No condition. -/
import Derived.Test.YtdhhcmdofnjhiaaGt
import Derived.Test.YtdhhcmdofnjhiaaAvP
namespace Go.Proofs.Ytdhhcmdofnjhiaa
open Go.RowKit
def okApiLevel (x : ApiLevel) : Prop := x.User.size ≤ maxLen ∧ (IntKind.i64.min ≤ x.N ∧ x.N ≤ IntKind.i64.max)
set_option maxRecDepth 20000 in
theorem opnApiLevel81 {H : Type} (enc : TypeId × Value → H) (w : World) (base : Nat) (spare : Nat → Bool) (held : Bool) : Opn enc Try.prog w base spare held 81 eApiLevel okApiLevel := by
  intro fuel cs x h
  have hl := opn_length Try.underlying81 h 2 (by kernel_rfl)
  obtain ⟨a0, v0, h0⟩ := opn_field Try.underlying81 h 0 9 0 1 (by kernel_rfl) (opn_str Try.underlying9)
  obtain ⟨a1, v1, h1⟩ := opn_field Try.underlying81 h 1 3 1 1 (by kernel_rfl) (opn_int Try.underlying3)
  exact ⟨⟨a0, a1⟩, ⟨v0, v1⟩, opn_struct [1, 1] (by rw [hl]; rfl) (RdC.append h0 (RdC.append h1 (RdC.nil w)))⟩
def okApiKindLevel (x : ApiKindLevel) : Prop := (IntKind.i64.min ≤ x.Kind ∧ x.Kind ≤ IntKind.i64.max) ∧ (IntKind.i64.min ≤ x.N ∧ x.N ≤ IntKind.i64.max)
set_option maxRecDepth 20000 in
theorem opnApiKindLevel123 {H : Type} (enc : TypeId × Value → H) (w : World) (base : Nat) (spare : Nat → Bool) (held : Bool) : Opn enc Try.prog w base spare held 123 eApiKindLevel okApiKindLevel := by
  intro fuel cs x h
  have hl := opn_length Try.underlying123 h 2 (by kernel_rfl)
  obtain ⟨a0, v0, h0⟩ := opn_field Try.underlying123 h 0 45 0 1 (by kernel_rfl) (opn_int Try.underlying45)
  obtain ⟨a1, v1, h1⟩ := opn_field Try.underlying123 h 1 3 1 1 (by kernel_rfl) (opn_int Try.underlying3)
  exact ⟨⟨a0, a1⟩, ⟨v0, v1⟩, opn_struct [1, 1] (by rw [hl]; rfl) (RdC.append h0 (RdC.append h1 (RdC.nil w)))⟩
def okApiLevels (x : ApiLevels) : Prop := (x.Users.length ≤ maxLen ∧ ∀ y1 ∈ x.Users, okApiLevel y1) ∧ (x.Kinds.length ≤ maxLen ∧ ∀ y2 ∈ x.Kinds, okApiKindLevel y2) ∧ (IntKind.i64.min ≤ x.User ∧ x.User ≤ IntKind.i64.max) ∧ (IntKind.i64.min ≤ x.Message ∧ x.Message ≤ IntKind.i64.max) ∧ (IntKind.i64.min ≤ x.State ∧ x.State ≤ IntKind.i64.max) ∧ (IntKind.i64.min ≤ x.Invite ∧ x.Invite ≤ IntKind.i64.max) ∧ (IntKind.i64.min ≤ x.Kick ∧ x.Kick ≤ IntKind.i64.max) ∧ (IntKind.i64.min ≤ x.Ban ∧ x.Ban ≤ IntKind.i64.max) ∧ (IntKind.i64.min ≤ x.Redact ∧ x.Redact ≤ IntKind.i64.max)
set_option maxRecDepth 20000 in
theorem opnApiLevels59 {H : Type} (enc : TypeId × Value → H) (w : World) (base : Nat) (spare : Nat → Bool) (held : Bool) : Opn enc Try.prog w base spare held 59 eApiLevels okApiLevels := by
  intro fuel cs x h
  have hl := opn_length Try.underlying59 h 9 (by kernel_rfl)
  obtain ⟨a0, v0, h0⟩ := opn_field Try.underlying59 h 0 56 0 1 (by kernel_rfl) (opn_slice (sz := 2) Try.underlying56 (by kernel_rfl) (by decide) (fun _ => rfl) (opnApiLevel81 enc w base spare held))
  obtain ⟨a1, v1, h1⟩ := opn_field Try.underlying59 h 1 57 1 1 (by kernel_rfl) (opn_slice (sz := 2) Try.underlying57 (by kernel_rfl) (by decide) (fun _ => rfl) (opnApiKindLevel123 enc w base spare held))
  obtain ⟨a2, v2, h2⟩ := opn_field Try.underlying59 h 2 3 2 1 (by kernel_rfl) (opn_int Try.underlying3)
  obtain ⟨a3, v3, h3⟩ := opn_field Try.underlying59 h 3 3 3 1 (by kernel_rfl) (opn_int Try.underlying3)
  obtain ⟨a4, v4, h4⟩ := opn_field Try.underlying59 h 4 3 4 1 (by kernel_rfl) (opn_int Try.underlying3)
  obtain ⟨a5, v5, h5⟩ := opn_field Try.underlying59 h 5 3 5 1 (by kernel_rfl) (opn_int Try.underlying3)
  obtain ⟨a6, v6, h6⟩ := opn_field Try.underlying59 h 6 3 6 1 (by kernel_rfl) (opn_int Try.underlying3)
  obtain ⟨a7, v7, h7⟩ := opn_field Try.underlying59 h 7 3 7 1 (by kernel_rfl) (opn_int Try.underlying3)
  obtain ⟨a8, v8, h8⟩ := opn_field Try.underlying59 h 8 3 8 1 (by kernel_rfl) (opn_int Try.underlying3)
  exact ⟨⟨a0, a1, a2, a3, a4, a5, a6, a7, a8⟩, ⟨v0, v1, v2, v3, v4, v5, v6, v7, v8⟩, opn_struct [1, 1, 1, 1, 1, 1, 1, 1, 1] (by rw [hl]; rfl) (RdC.append h0 (RdC.append h1 (RdC.append h2 (RdC.append h3 (RdC.append h4 (RdC.append h5 (RdC.append h6 (RdC.append h7 (RdC.append h8 (RdC.nil w))))))))))⟩
def okApiContent (x : ApiContent) : Prop := x.Text.size ≤ maxLen ∧ (IntKind.i64.min ≤ x.N ∧ x.N ≤ IntKind.i64.max) ∧ (IntKind.i64.min ≤ x.Target ∧ x.Target ≤ IntKind.i64.max) ∧ True ∧ x.Via.size ≤ maxLen ∧ (x.Allow.length ≤ maxLen ∧ ∀ y3 ∈ x.Allow, y3.size ≤ maxLen) ∧ (x.Deny.length ≤ maxLen ∧ ∀ y4 ∈ x.Deny, y4.size ≤ maxLen) ∧ okApiLevels x.Levels
set_option maxRecDepth 20000 in
theorem opnApiContent61 {H : Type} (enc : TypeId × Value → H) (w : World) (base : Nat) (spare : Nat → Bool) (held : Bool) : Opn enc Try.prog w base spare held 61 eApiContent okApiContent := by
  intro fuel cs x h
  have hl := opn_length Try.underlying61 h 16 (by kernel_rfl)
  obtain ⟨a0, v0, h0⟩ := opn_field Try.underlying61 h 0 9 0 1 (by kernel_rfl) (opn_str Try.underlying9)
  obtain ⟨a1, v1, h1⟩ := opn_field Try.underlying61 h 1 3 1 1 (by kernel_rfl) (opn_int Try.underlying3)
  obtain ⟨a2, v2, h2⟩ := opn_field Try.underlying61 h 2 3 2 1 (by kernel_rfl) (opn_int Try.underlying3)
  obtain ⟨a3, v3, h3⟩ := opn_field Try.underlying61 h 3 4 3 1 (by kernel_rfl) (opn_bool Try.underlying4)
  obtain ⟨a4, v4, h4⟩ := opn_field Try.underlying61 h 4 9 4 1 (by kernel_rfl) (opn_str Try.underlying9)
  obtain ⟨a5, v5, h5⟩ := opn_field Try.underlying61 h 5 55 5 1 (by kernel_rfl) (opn_slice (sz := 1) Try.underlying55 (by kernel_rfl) (by decide) (fun _ => rfl) (opn_str Try.underlying9))
  obtain ⟨a6, v6, h6⟩ := opn_field Try.underlying61 h 6 55 6 1 (by kernel_rfl) (opn_slice (sz := 1) Try.underlying55 (by kernel_rfl) (by decide) (fun _ => rfl) (opn_str Try.underlying9))
  obtain ⟨a7, v7, h7⟩ := opn_field Try.underlying61 h 7 59 7 9 (by kernel_rfl) (opnApiLevels59 enc w base spare held)
  exact ⟨⟨a0, a1, a2, a3, a4, a5, a6, a7⟩, ⟨v0, v1, v2, v3, v4, v5, v6, v7⟩, opn_struct [1, 1, 1, 1, 1, 1, 1, 9] (by rw [hl]; rfl) (RdC.append h0 (RdC.append h1 (RdC.append h2 (RdC.append h3 (RdC.append h4 (RdC.append h5 (RdC.append h6 (RdC.append h7 (RdC.nil w)))))))))⟩
def okApiSig (x : ApiSig) : Prop := x.Server.size ≤ maxLen ∧ (IntKind.i64.min ≤ x.Sum ∧ x.Sum ≤ IntKind.i64.max)
set_option maxRecDepth 20000 in
theorem opnApiSig63 {H : Type} (enc : TypeId × Value → H) (w : World) (base : Nat) (spare : Nat → Bool) (held : Bool) : Opn enc Try.prog w base spare held 63 eApiSig okApiSig := by
  intro fuel cs x h
  have hl := opn_length Try.underlying63 h 2 (by kernel_rfl)
  obtain ⟨a0, v0, h0⟩ := opn_field Try.underlying63 h 0 9 0 1 (by kernel_rfl) (opn_str Try.underlying9)
  obtain ⟨a1, v1, h1⟩ := opn_field Try.underlying63 h 1 3 1 1 (by kernel_rfl) (opn_int Try.underlying3)
  exact ⟨⟨a0, a1⟩, ⟨v0, v1⟩, opn_struct [1, 1] (by rw [hl]; rfl) (RdC.append h0 (RdC.append h1 (RdC.nil w)))⟩
def okApiEvent (x : ApiEvent) : Prop := (IntKind.i64.min ≤ x.Id ∧ x.Id ≤ IntKind.i64.max) ∧ x.Room.size ≤ maxLen ∧ x.Sender.size ≤ maxLen ∧ (IntKind.i64.min ≤ x.Kind ∧ x.Kind ≤ IntKind.i64.max) ∧ True ∧ x.Key.size ≤ maxLen ∧ (IntKind.i64.min ≤ x.Time ∧ x.Time ≤ IntKind.i64.max) ∧ (IntKind.i64.min ≤ x.Depth ∧ x.Depth ≤ IntKind.i64.max) ∧ (x.Prev.length ≤ maxLen ∧ ∀ y5 ∈ x.Prev, (IntKind.i64.min ≤ y5 ∧ y5 ≤ IntKind.i64.max)) ∧ (x.Auth.length ≤ maxLen ∧ ∀ y6 ∈ x.Auth, (IntKind.i64.min ≤ y6 ∧ y6 ≤ IntKind.i64.max)) ∧ okApiContent x.Content ∧ (IntKind.i64.min ≤ x.Hash ∧ x.Hash ≤ IntKind.i64.max) ∧ okApiSig x.Sig
set_option maxRecDepth 20000 in
theorem opnApiEvent65 {H : Type} (enc : TypeId × Value → H) (w : World) (base : Nat) (spare : Nat → Bool) (held : Bool) : Opn enc Try.prog w base spare held 65 eApiEvent okApiEvent := by
  intro fuel cs x h
  have hl := opn_length Try.underlying65 h 29 (by kernel_rfl)
  obtain ⟨a0, v0, h0⟩ := opn_field Try.underlying65 h 0 3 0 1 (by kernel_rfl) (opn_int Try.underlying3)
  obtain ⟨a1, v1, h1⟩ := opn_field Try.underlying65 h 1 9 1 1 (by kernel_rfl) (opn_str Try.underlying9)
  obtain ⟨a2, v2, h2⟩ := opn_field Try.underlying65 h 2 9 2 1 (by kernel_rfl) (opn_str Try.underlying9)
  obtain ⟨a3, v3, h3⟩ := opn_field Try.underlying65 h 3 45 3 1 (by kernel_rfl) (opn_int Try.underlying45)
  obtain ⟨a4, v4, h4⟩ := opn_field Try.underlying65 h 4 4 4 1 (by kernel_rfl) (opn_bool Try.underlying4)
  obtain ⟨a5, v5, h5⟩ := opn_field Try.underlying65 h 5 9 5 1 (by kernel_rfl) (opn_str Try.underlying9)
  obtain ⟨a6, v6, h6⟩ := opn_field Try.underlying65 h 6 3 6 1 (by kernel_rfl) (opn_int Try.underlying3)
  obtain ⟨a7, v7, h7⟩ := opn_field Try.underlying65 h 7 3 7 1 (by kernel_rfl) (opn_int Try.underlying3)
  obtain ⟨a8, v8, h8⟩ := opn_field Try.underlying65 h 8 24 8 1 (by kernel_rfl) (opn_slice (sz := 1) Try.underlying24 (by kernel_rfl) (by decide) (fun _ => rfl) (opn_int Try.underlying3))
  obtain ⟨a9, v9, h9⟩ := opn_field Try.underlying65 h 9 24 9 1 (by kernel_rfl) (opn_slice (sz := 1) Try.underlying24 (by kernel_rfl) (by decide) (fun _ => rfl) (opn_int Try.underlying3))
  obtain ⟨a10, v10, h10⟩ := opn_field Try.underlying65 h 10 61 10 16 (by kernel_rfl) (opnApiContent61 enc w base spare held)
  obtain ⟨a11, v11, h11⟩ := opn_field Try.underlying65 h 11 3 26 1 (by kernel_rfl) (opn_int Try.underlying3)
  obtain ⟨a12, v12, h12⟩ := opn_field Try.underlying65 h 12 63 27 2 (by kernel_rfl) (opnApiSig63 enc w base spare held)
  exact ⟨⟨a0, a1, a2, a3, a4, a5, a6, a7, a8, a9, a10, a11, a12⟩, ⟨v0, v1, v2, v3, v4, v5, v6, v7, v8, v9, v10, v11, v12⟩, opn_struct [1, 1, 1, 1, 1, 1, 1, 1, 1, 1, 16, 1, 2] (by rw [hl]; rfl) (RdC.append h0 (RdC.append h1 (RdC.append h2 (RdC.append h3 (RdC.append h4 (RdC.append h5 (RdC.append h6 (RdC.append h7 (RdC.append h8 (RdC.append h9 (RdC.append h10 (RdC.append h11 (RdC.append h12 (RdC.nil w))))))))))))))⟩
def okApiRow (x : ApiRow) : Prop := (IntKind.i64.min ≤ x.Pos ∧ x.Pos ≤ IntKind.i64.max) ∧ (IntKind.i64.min ≤ x.Id ∧ x.Id ≤ IntKind.i64.max) ∧ (IntKind.i64.min ≤ x.Status ∧ x.Status ≤ IntKind.i64.max) ∧ True
set_option maxRecDepth 20000 in
theorem opnApiRow43 {H : Type} (enc : TypeId × Value → H) (w : World) (base : Nat) (spare : Nat → Bool) (held : Bool) : Opn enc Try.prog w base spare held 43 eApiRow okApiRow := by
  intro fuel cs x h
  have hl := opn_length Try.underlying43 h 4 (by kernel_rfl)
  obtain ⟨a0, v0, h0⟩ := opn_field Try.underlying43 h 0 3 0 1 (by kernel_rfl) (opn_int Try.underlying3)
  obtain ⟨a1, v1, h1⟩ := opn_field Try.underlying43 h 1 3 1 1 (by kernel_rfl) (opn_int Try.underlying3)
  obtain ⟨a2, v2, h2⟩ := opn_field Try.underlying43 h 2 41 2 1 (by kernel_rfl) (opn_int Try.underlying41)
  obtain ⟨a3, v3, h3⟩ := opn_field Try.underlying43 h 3 4 3 1 (by kernel_rfl) (opn_bool Try.underlying4)
  exact ⟨⟨a0, a1, a2, a3⟩, ⟨v0, v1, v2, v3⟩, opn_struct [1, 1, 1, 1] (by rw [hl]; rfl) (RdC.append h0 (RdC.append h1 (RdC.append h2 (RdC.append h3 (RdC.nil w)))))⟩
def okApiEntry (x : ApiEntry) : Prop := (IntKind.i64.min ≤ x.Kind ∧ x.Kind ≤ IntKind.i64.max) ∧ x.Key.size ≤ maxLen ∧ (IntKind.i64.min ≤ x.Id ∧ x.Id ≤ IntKind.i64.max)
set_option maxRecDepth 20000 in
theorem opnApiEntry47 {H : Type} (enc : TypeId × Value → H) (w : World) (base : Nat) (spare : Nat → Bool) (held : Bool) : Opn enc Try.prog w base spare held 47 eApiEntry okApiEntry := by
  intro fuel cs x h
  have hl := opn_length Try.underlying47 h 3 (by kernel_rfl)
  obtain ⟨a0, v0, h0⟩ := opn_field Try.underlying47 h 0 45 0 1 (by kernel_rfl) (opn_int Try.underlying45)
  obtain ⟨a1, v1, h1⟩ := opn_field Try.underlying47 h 1 9 1 1 (by kernel_rfl) (opn_str Try.underlying9)
  obtain ⟨a2, v2, h2⟩ := opn_field Try.underlying47 h 2 3 2 1 (by kernel_rfl) (opn_int Try.underlying3)
  exact ⟨⟨a0, a1, a2⟩, ⟨v0, v1, v2⟩, opn_struct [1, 1, 1] (by rw [hl]; rfl) (RdC.append h0 (RdC.append h1 (RdC.append h2 (RdC.nil w))))⟩
def okApiReceipt (x : ApiReceipt) : Prop := x.User.size ≤ maxLen ∧ (IntKind.i64.min ≤ x.Thread ∧ x.Thread ≤ IntKind.i64.max) ∧ (IntKind.i64.min ≤ x.Id ∧ x.Id ≤ IntKind.i64.max) ∧ (IntKind.i64.min ≤ x.Time ∧ x.Time ≤ IntKind.i64.max)
set_option maxRecDepth 20000 in
theorem opnApiReceipt49 {H : Type} (enc : TypeId × Value → H) (w : World) (base : Nat) (spare : Nat → Bool) (held : Bool) : Opn enc Try.prog w base spare held 49 eApiReceipt okApiReceipt := by
  intro fuel cs x h
  have hl := opn_length Try.underlying49 h 4 (by kernel_rfl)
  obtain ⟨a0, v0, h0⟩ := opn_field Try.underlying49 h 0 9 0 1 (by kernel_rfl) (opn_str Try.underlying9)
  obtain ⟨a1, v1, h1⟩ := opn_field Try.underlying49 h 1 3 1 1 (by kernel_rfl) (opn_int Try.underlying3)
  obtain ⟨a2, v2, h2⟩ := opn_field Try.underlying49 h 2 3 2 1 (by kernel_rfl) (opn_int Try.underlying3)
  obtain ⟨a3, v3, h3⟩ := opn_field Try.underlying49 h 3 3 3 1 (by kernel_rfl) (opn_int Try.underlying3)
  exact ⟨⟨a0, a1, a2, a3⟩, ⟨v0, v1, v2, v3⟩, opn_struct [1, 1, 1, 1] (by rw [hl]; rfl) (RdC.append h0 (RdC.append h1 (RdC.append h2 (RdC.append h3 (RdC.nil w)))))⟩
def okApiTyping (x : ApiTyping) : Prop := x.User.size ≤ maxLen ∧ (IntKind.i64.min ≤ x.Until ∧ x.Until ≤ IntKind.i64.max)
set_option maxRecDepth 20000 in
theorem opnApiTyping51 {H : Type} (enc : TypeId × Value → H) (w : World) (base : Nat) (spare : Nat → Bool) (held : Bool) : Opn enc Try.prog w base spare held 51 eApiTyping okApiTyping := by
  intro fuel cs x h
  have hl := opn_length Try.underlying51 h 2 (by kernel_rfl)
  obtain ⟨a0, v0, h0⟩ := opn_field Try.underlying51 h 0 9 0 1 (by kernel_rfl) (opn_str Try.underlying9)
  obtain ⟨a1, v1, h1⟩ := opn_field Try.underlying51 h 1 3 1 1 (by kernel_rfl) (opn_int Try.underlying3)
  exact ⟨⟨a0, a1⟩, ⟨v0, v1⟩, opn_struct [1, 1] (by rw [hl]; rfl) (RdC.append h0 (RdC.append h1 (RdC.nil w)))⟩
def okApiRoom (x : ApiRoom) : Prop := x.Id.size ≤ maxLen ∧ (x.Events.length ≤ maxLen ∧ ∀ y7 ∈ x.Events, okApiEvent y7) ∧ (x.Rows.length ≤ maxLen ∧ ∀ y8 ∈ x.Rows, okApiRow y8) ∧ (x.Waiting.length ≤ maxLen ∧ ∀ y9 ∈ x.Waiting, okApiEvent y9) ∧ (x.Heads.length ≤ maxLen ∧ ∀ y10 ∈ x.Heads, (IntKind.i64.min ≤ y10 ∧ y10 ≤ IntKind.i64.max)) ∧ (x.State.length ≤ maxLen ∧ ∀ y11 ∈ x.State, okApiEntry y11) ∧ (IntKind.i64.min ≤ x.Next ∧ x.Next ≤ IntKind.i64.max) ∧ (x.Receipts.length ≤ maxLen ∧ ∀ y12 ∈ x.Receipts, okApiReceipt y12) ∧ (x.Typing.length ≤ maxLen ∧ ∀ y13 ∈ x.Typing, okApiTyping y13)
set_option maxRecDepth 20000 in
theorem opnApiRoom30 {H : Type} (enc : TypeId × Value → H) (w : World) (base : Nat) (spare : Nat → Bool) (held : Bool) : Opn enc Try.prog w base spare held 30 eApiRoom okApiRoom := by
  intro fuel cs x h
  have hl := opn_length Try.underlying30 h 9 (by kernel_rfl)
  obtain ⟨a0, v0, h0⟩ := opn_field Try.underlying30 h 0 9 0 1 (by kernel_rfl) (opn_str Try.underlying9)
  obtain ⟨a1, v1, h1⟩ := opn_field Try.underlying30 h 1 22 1 1 (by kernel_rfl) (opn_slice (sz := 29) Try.underlying22 (by kernel_rfl) (by decide) (fun _ => rfl) (opnApiEvent65 enc w base spare held))
  obtain ⟨a2, v2, h2⟩ := opn_field Try.underlying30 h 2 23 2 1 (by kernel_rfl) (opn_slice (sz := 4) Try.underlying23 (by kernel_rfl) (by decide) (fun _ => rfl) (opnApiRow43 enc w base spare held))
  obtain ⟨a3, v3, h3⟩ := opn_field Try.underlying30 h 3 22 3 1 (by kernel_rfl) (opn_slice (sz := 29) Try.underlying22 (by kernel_rfl) (by decide) (fun _ => rfl) (opnApiEvent65 enc w base spare held))
  obtain ⟨a4, v4, h4⟩ := opn_field Try.underlying30 h 4 24 4 1 (by kernel_rfl) (opn_slice (sz := 1) Try.underlying24 (by kernel_rfl) (by decide) (fun _ => rfl) (opn_int Try.underlying3))
  obtain ⟨a5, v5, h5⟩ := opn_field Try.underlying30 h 5 26 5 1 (by kernel_rfl) (opn_slice (sz := 3) Try.underlying26 (by kernel_rfl) (by decide) (fun _ => rfl) (opnApiEntry47 enc w base spare held))
  obtain ⟨a6, v6, h6⟩ := opn_field Try.underlying30 h 6 3 6 1 (by kernel_rfl) (opn_int Try.underlying3)
  obtain ⟨a7, v7, h7⟩ := opn_field Try.underlying30 h 7 27 7 1 (by kernel_rfl) (opn_slice (sz := 4) Try.underlying27 (by kernel_rfl) (by decide) (fun _ => rfl) (opnApiReceipt49 enc w base spare held))
  obtain ⟨a8, v8, h8⟩ := opn_field Try.underlying30 h 8 28 8 1 (by kernel_rfl) (opn_slice (sz := 2) Try.underlying28 (by kernel_rfl) (by decide) (fun _ => rfl) (opnApiTyping51 enc w base spare held))
  exact ⟨⟨a0, a1, a2, a3, a4, a5, a6, a7, a8⟩, ⟨v0, v1, v2, v3, v4, v5, v6, v7, v8⟩, opn_struct [1, 1, 1, 1, 1, 1, 1, 1, 1] (by rw [hl]; rfl) (RdC.append h0 (RdC.append h1 (RdC.append h2 (RdC.append h3 (RdC.append h4 (RdC.append h5 (RdC.append h6 (RdC.append h7 (RdC.append h8 (RdC.nil w))))))))))⟩
end Go.Proofs.Ytdhhcmdofnjhiaa
