/- strings.IndexByte, and stringslite.Index for a text of one byte, in the form Runs. No condition. -/
import Derived.Test.YtmegkokogomfnaaGreatProg
import Derived.Test.YtmegkokogomfnaaGreatShelf
import Derived.Test.YtmegkokogomfnaaGreatAvH
namespace Go.Proofs.YtmegkokogomfnaaGreat
open Go.RowKit

def strings_IndexByte (s : ByteArray) (c : Int) : Option Int := some (Lib.indexByte s.data.toList c.toNat.toUInt8)
theorem strings_IndexByte_ok (s : ByteArray) (c : Int) (r : Int) (h : strings_IndexByte s c = some r) : Runs Tryz.prog 65 [.d (eS s), .d (eU8 c)] [] (.d (eI r)) [] := by
  rw [← Option.some.inj h]
  exact Runs.plain (vs := [.string s, .int .u8 c]) (v := .int .i64 (Lib.indexByte s.data.toList c.toNat.toUInt8)) (fun _ _ _ => .d _ _ (.lit _)) fun w => (Tryz.strings_IndexByte s c w).mono fun e w' ⟨h1, h2⟩ => ⟨h1, by rw [h2]; exact ⟨rfl, rfl, rfl, Nat.le_refl _, fun _ _ => rfl⟩⟩

def internal_stringslite_Index (s t : ByteArray) : Option Int := match t.data.toList with
  | [c] => some (Lib.indexByte s.data.toList c)
  | _ => none
theorem internal_stringslite_Index_ok (s t : ByteArray) (r : Int) (h : internal_stringslite_Index s t = some r) : Runs Tryz.prog 151 [.d (eS s), .d (eS t)] [] (.d (eI r)) [] := by
  unfold internal_stringslite_Index at h
  split at h
  · rename_i c hc
    rw [← Option.some.inj h]
    obtain ⟨⟨l⟩⟩ := t
    simp only at hc
    subst hc
    exact Runs.plain (vs := [.string s, .string ⟨#[c]⟩]) (v := .int .i64 (Lib.indexByte s.data.toList c)) (fun _ _ _ => .d _ _ (.lit _)) fun w => (Tryz.stringslite_Index_one s c w).mono fun e w' ⟨h1, h2⟩ => ⟨h1, by rw [h2]; exact ⟨rfl, rfl, rfl, Nat.le_refl _, fun _ _ => rfl⟩⟩
  · cases h
end Go.Proofs.YtmegkokogomfnaaGreat
