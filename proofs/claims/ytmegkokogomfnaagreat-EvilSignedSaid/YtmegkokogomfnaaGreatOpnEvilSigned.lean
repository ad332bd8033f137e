/- What the law's arguments are, typed (printed by gen_row.py). No condition. -/
import Derived.Test.YtmegkokogomfnaaGreatGt
import Derived.Test.YtmegkokogomfnaaGreatAvP
namespace Go.Proofs.YtmegkokogomfnaaGreat
open Go.RowKit
def okApiLevel (x : ApiLevel) : Prop := x.User.size ≤ maxLen ∧ (IntKind.i64.min ≤ x.N ∧ x.N ≤ IntKind.i64.max)
set_option maxRecDepth 20000 in
theorem opnApiLevel71 {H : Type} (enc : TypeId × Value → H) (w : World) (base : Nat) (spare : Nat → Bool) (held : Bool) : Opn enc Tryz.prog w base spare held 71 eApiLevel okApiLevel := by
  intro fuel cs x h
  have hl := opn_length Tryz.underlying71 h 2 (by kernel_rfl)
  obtain ⟨a0, v0, h0⟩ := opn_field Tryz.underlying71 h 0 9 0 1 (by kernel_rfl) (opn_str Tryz.underlying9)
  obtain ⟨a1, v1, h1⟩ := opn_field Tryz.underlying71 h 1 3 1 1 (by kernel_rfl) (opn_int Tryz.underlying3)
  exact ⟨⟨a0, a1⟩, ⟨v0, v1⟩, opn_struct [1, 1] (by rw [hl]; rfl) (RdC.append h0 (RdC.append h1 (RdC.nil w)))⟩
def okApiKindLevel (x : ApiKindLevel) : Prop := (IntKind.i64.min ≤ x.Kind ∧ x.Kind ≤ IntKind.i64.max) ∧ (IntKind.i64.min ≤ x.N ∧ x.N ≤ IntKind.i64.max)
set_option maxRecDepth 20000 in
theorem opnApiKindLevel108 {H : Type} (enc : TypeId × Value → H) (w : World) (base : Nat) (spare : Nat → Bool) (held : Bool) : Opn enc Tryz.prog w base spare held 108 eApiKindLevel okApiKindLevel := by
  intro fuel cs x h
  have hl := opn_length Tryz.underlying108 h 2 (by kernel_rfl)
  obtain ⟨a0, v0, h0⟩ := opn_field Tryz.underlying108 h 0 32 0 1 (by kernel_rfl) (opn_int Tryz.underlying32)
  obtain ⟨a1, v1, h1⟩ := opn_field Tryz.underlying108 h 1 3 1 1 (by kernel_rfl) (opn_int Tryz.underlying3)
  exact ⟨⟨a0, a1⟩, ⟨v0, v1⟩, opn_struct [1, 1] (by rw [hl]; rfl) (RdC.append h0 (RdC.append h1 (RdC.nil w)))⟩
def okApiLevels (x : ApiLevels) : Prop := (x.Users.length ≤ maxLen ∧ ∀ y1 ∈ x.Users, okApiLevel y1) ∧ (x.Kinds.length ≤ maxLen ∧ ∀ y2 ∈ x.Kinds, okApiKindLevel y2) ∧ (IntKind.i64.min ≤ x.User ∧ x.User ≤ IntKind.i64.max) ∧ (IntKind.i64.min ≤ x.Message ∧ x.Message ≤ IntKind.i64.max) ∧ (IntKind.i64.min ≤ x.State ∧ x.State ≤ IntKind.i64.max) ∧ (IntKind.i64.min ≤ x.Invite ∧ x.Invite ≤ IntKind.i64.max) ∧ (IntKind.i64.min ≤ x.Kick ∧ x.Kick ≤ IntKind.i64.max) ∧ (IntKind.i64.min ≤ x.Ban ∧ x.Ban ≤ IntKind.i64.max) ∧ (IntKind.i64.min ≤ x.Redact ∧ x.Redact ≤ IntKind.i64.max)
set_option maxRecDepth 20000 in
theorem opnApiLevels37 {H : Type} (enc : TypeId × Value → H) (w : World) (base : Nat) (spare : Nat → Bool) (held : Bool) : Opn enc Tryz.prog w base spare held 37 eApiLevels okApiLevels := by
  intro fuel cs x h
  have hl := opn_length Tryz.underlying37 h 9 (by kernel_rfl)
  obtain ⟨a0, v0, h0⟩ := opn_field Tryz.underlying37 h 0 34 0 1 (by kernel_rfl) (opn_slice (sz := 2) Tryz.underlying34 (by kernel_rfl) (by decide) (fun _ => rfl) (opnApiLevel71 enc w base spare held))
  obtain ⟨a1, v1, h1⟩ := opn_field Tryz.underlying37 h 1 35 1 1 (by kernel_rfl) (opn_slice (sz := 2) Tryz.underlying35 (by kernel_rfl) (by decide) (fun _ => rfl) (opnApiKindLevel108 enc w base spare held))
  obtain ⟨a2, v2, h2⟩ := opn_field Tryz.underlying37 h 2 3 2 1 (by kernel_rfl) (opn_int Tryz.underlying3)
  obtain ⟨a3, v3, h3⟩ := opn_field Tryz.underlying37 h 3 3 3 1 (by kernel_rfl) (opn_int Tryz.underlying3)
  obtain ⟨a4, v4, h4⟩ := opn_field Tryz.underlying37 h 4 3 4 1 (by kernel_rfl) (opn_int Tryz.underlying3)
  obtain ⟨a5, v5, h5⟩ := opn_field Tryz.underlying37 h 5 3 5 1 (by kernel_rfl) (opn_int Tryz.underlying3)
  obtain ⟨a6, v6, h6⟩ := opn_field Tryz.underlying37 h 6 3 6 1 (by kernel_rfl) (opn_int Tryz.underlying3)
  obtain ⟨a7, v7, h7⟩ := opn_field Tryz.underlying37 h 7 3 7 1 (by kernel_rfl) (opn_int Tryz.underlying3)
  obtain ⟨a8, v8, h8⟩ := opn_field Tryz.underlying37 h 8 3 8 1 (by kernel_rfl) (opn_int Tryz.underlying3)
  exact ⟨⟨a0, a1, a2, a3, a4, a5, a6, a7, a8⟩, ⟨v0, v1, v2, v3, v4, v5, v6, v7, v8⟩, opn_struct [1, 1, 1, 1, 1, 1, 1, 1, 1] (by rw [hl]; rfl) (RdC.append h0 (RdC.append h1 (RdC.append h2 (RdC.append h3 (RdC.append h4 (RdC.append h5 (RdC.append h6 (RdC.append h7 (RdC.append h8 (RdC.nil w))))))))))⟩
def okApiContent (x : ApiContent) : Prop := x.Text.size ≤ maxLen ∧ (IntKind.i64.min ≤ x.N ∧ x.N ≤ IntKind.i64.max) ∧ (IntKind.i64.min ≤ x.Target ∧ x.Target ≤ IntKind.i64.max) ∧ True ∧ x.Via.size ≤ maxLen ∧ (x.Allow.length ≤ maxLen ∧ ∀ y3 ∈ x.Allow, y3.size ≤ maxLen) ∧ (x.Deny.length ≤ maxLen ∧ ∀ y4 ∈ x.Deny, y4.size ≤ maxLen) ∧ okApiLevels x.Levels
set_option maxRecDepth 20000 in
theorem opnApiContent39 {H : Type} (enc : TypeId × Value → H) (w : World) (base : Nat) (spare : Nat → Bool) (held : Bool) : Opn enc Tryz.prog w base spare held 39 eApiContent okApiContent := by
  intro fuel cs x h
  have hl := opn_length Tryz.underlying39 h 16 (by kernel_rfl)
  obtain ⟨a0, v0, h0⟩ := opn_field Tryz.underlying39 h 0 9 0 1 (by kernel_rfl) (opn_str Tryz.underlying9)
  obtain ⟨a1, v1, h1⟩ := opn_field Tryz.underlying39 h 1 3 1 1 (by kernel_rfl) (opn_int Tryz.underlying3)
  obtain ⟨a2, v2, h2⟩ := opn_field Tryz.underlying39 h 2 3 2 1 (by kernel_rfl) (opn_int Tryz.underlying3)
  obtain ⟨a3, v3, h3⟩ := opn_field Tryz.underlying39 h 3 4 3 1 (by kernel_rfl) (opn_bool Tryz.underlying4)
  obtain ⟨a4, v4, h4⟩ := opn_field Tryz.underlying39 h 4 9 4 1 (by kernel_rfl) (opn_str Tryz.underlying9)
  obtain ⟨a5, v5, h5⟩ := opn_field Tryz.underlying39 h 5 24 5 1 (by kernel_rfl) (opn_slice (sz := 1) Tryz.underlying24 (by kernel_rfl) (by decide) (fun _ => rfl) (opn_str Tryz.underlying9))
  obtain ⟨a6, v6, h6⟩ := opn_field Tryz.underlying39 h 6 24 6 1 (by kernel_rfl) (opn_slice (sz := 1) Tryz.underlying24 (by kernel_rfl) (by decide) (fun _ => rfl) (opn_str Tryz.underlying9))
  obtain ⟨a7, v7, h7⟩ := opn_field Tryz.underlying39 h 7 37 7 9 (by kernel_rfl) (opnApiLevels37 enc w base spare held)
  exact ⟨⟨a0, a1, a2, a3, a4, a5, a6, a7⟩, ⟨v0, v1, v2, v3, v4, v5, v6, v7⟩, opn_struct [1, 1, 1, 1, 1, 1, 1, 9] (by rw [hl]; rfl) (RdC.append h0 (RdC.append h1 (RdC.append h2 (RdC.append h3 (RdC.append h4 (RdC.append h5 (RdC.append h6 (RdC.append h7 (RdC.nil w)))))))))⟩
def okApiSig (x : ApiSig) : Prop := x.Server.size ≤ maxLen ∧ (IntKind.i64.min ≤ x.Sum ∧ x.Sum ≤ IntKind.i64.max)
set_option maxRecDepth 20000 in
theorem opnApiSig41 {H : Type} (enc : TypeId × Value → H) (w : World) (base : Nat) (spare : Nat → Bool) (held : Bool) : Opn enc Tryz.prog w base spare held 41 eApiSig okApiSig := by
  intro fuel cs x h
  have hl := opn_length Tryz.underlying41 h 2 (by kernel_rfl)
  obtain ⟨a0, v0, h0⟩ := opn_field Tryz.underlying41 h 0 9 0 1 (by kernel_rfl) (opn_str Tryz.underlying9)
  obtain ⟨a1, v1, h1⟩ := opn_field Tryz.underlying41 h 1 3 1 1 (by kernel_rfl) (opn_int Tryz.underlying3)
  exact ⟨⟨a0, a1⟩, ⟨v0, v1⟩, opn_struct [1, 1] (by rw [hl]; rfl) (RdC.append h0 (RdC.append h1 (RdC.nil w)))⟩
def okApiEvent (x : ApiEvent) : Prop := (IntKind.i64.min ≤ x.Id ∧ x.Id ≤ IntKind.i64.max) ∧ x.Room.size ≤ maxLen ∧ x.Sender.size ≤ maxLen ∧ (IntKind.i64.min ≤ x.Kind ∧ x.Kind ≤ IntKind.i64.max) ∧ True ∧ x.Key.size ≤ maxLen ∧ (IntKind.i64.min ≤ x.Time ∧ x.Time ≤ IntKind.i64.max) ∧ (IntKind.i64.min ≤ x.Depth ∧ x.Depth ≤ IntKind.i64.max) ∧ (x.Prev.length ≤ maxLen ∧ ∀ y5 ∈ x.Prev, (IntKind.i64.min ≤ y5 ∧ y5 ≤ IntKind.i64.max)) ∧ (x.Auth.length ≤ maxLen ∧ ∀ y6 ∈ x.Auth, (IntKind.i64.min ≤ y6 ∧ y6 ≤ IntKind.i64.max)) ∧ okApiContent x.Content ∧ (IntKind.i64.min ≤ x.Hash ∧ x.Hash ≤ IntKind.i64.max) ∧ okApiSig x.Sig
set_option maxRecDepth 20000 in
theorem opnApiEvent43 {H : Type} (enc : TypeId × Value → H) (w : World) (base : Nat) (spare : Nat → Bool) (held : Bool) : Opn enc Tryz.prog w base spare held 43 eApiEvent okApiEvent := by
  intro fuel cs x h
  have hl := opn_length Tryz.underlying43 h 29 (by kernel_rfl)
  obtain ⟨a0, v0, h0⟩ := opn_field Tryz.underlying43 h 0 3 0 1 (by kernel_rfl) (opn_int Tryz.underlying3)
  obtain ⟨a1, v1, h1⟩ := opn_field Tryz.underlying43 h 1 9 1 1 (by kernel_rfl) (opn_str Tryz.underlying9)
  obtain ⟨a2, v2, h2⟩ := opn_field Tryz.underlying43 h 2 9 2 1 (by kernel_rfl) (opn_str Tryz.underlying9)
  obtain ⟨a3, v3, h3⟩ := opn_field Tryz.underlying43 h 3 32 3 1 (by kernel_rfl) (opn_int Tryz.underlying32)
  obtain ⟨a4, v4, h4⟩ := opn_field Tryz.underlying43 h 4 4 4 1 (by kernel_rfl) (opn_bool Tryz.underlying4)
  obtain ⟨a5, v5, h5⟩ := opn_field Tryz.underlying43 h 5 9 5 1 (by kernel_rfl) (opn_str Tryz.underlying9)
  obtain ⟨a6, v6, h6⟩ := opn_field Tryz.underlying43 h 6 3 6 1 (by kernel_rfl) (opn_int Tryz.underlying3)
  obtain ⟨a7, v7, h7⟩ := opn_field Tryz.underlying43 h 7 3 7 1 (by kernel_rfl) (opn_int Tryz.underlying3)
  obtain ⟨a8, v8, h8⟩ := opn_field Tryz.underlying43 h 8 33 8 1 (by kernel_rfl) (opn_slice (sz := 1) Tryz.underlying33 (by kernel_rfl) (by decide) (fun _ => rfl) (opn_int Tryz.underlying3))
  obtain ⟨a9, v9, h9⟩ := opn_field Tryz.underlying43 h 9 33 9 1 (by kernel_rfl) (opn_slice (sz := 1) Tryz.underlying33 (by kernel_rfl) (by decide) (fun _ => rfl) (opn_int Tryz.underlying3))
  obtain ⟨a10, v10, h10⟩ := opn_field Tryz.underlying43 h 10 39 10 16 (by kernel_rfl) (opnApiContent39 enc w base spare held)
  obtain ⟨a11, v11, h11⟩ := opn_field Tryz.underlying43 h 11 3 26 1 (by kernel_rfl) (opn_int Tryz.underlying3)
  obtain ⟨a12, v12, h12⟩ := opn_field Tryz.underlying43 h 12 41 27 2 (by kernel_rfl) (opnApiSig41 enc w base spare held)
  exact ⟨⟨a0, a1, a2, a3, a4, a5, a6, a7, a8, a9, a10, a11, a12⟩, ⟨v0, v1, v2, v3, v4, v5, v6, v7, v8, v9, v10, v11, v12⟩, opn_struct [1, 1, 1, 1, 1, 1, 1, 1, 1, 1, 16, 1, 2] (by rw [hl]; rfl) (RdC.append h0 (RdC.append h1 (RdC.append h2 (RdC.append h3 (RdC.append h4 (RdC.append h5 (RdC.append h6 (RdC.append h7 (RdC.append h8 (RdC.append h9 (RdC.append h10 (RdC.append h11 (RdC.append h12 (RdC.nil w))))))))))))))⟩
end Go.Proofs.YtmegkokogomfnaaGreat
