/-
  Contracts of the small functions over strings: LessString, Checksum.
  Conditions: none.
-/
import Derived.Test.YtlnhdjajbiahbaaDoorNum
namespace Go.Proofs.YtlnhdjajbiahbaaDoor
open Go.ChangeShapes Go.WideShapes Go.ChangeAt Go.RowKit
set_option linter.unusedVariables false

theorem take_snoc (s : ByteArray) (k : Nat) (h : k < s.size) : s.data.toList.take (k + 1) = s.data.toList.take k ++ [s[k]] := by
  rw [List.take_succ_eq_append_getElem (by simpa using h)]; rfl


/-- The checksum after the bytes of a list. -/
def sumStep (h : Int) (c : UInt8) : Int := (41 * h + c.toNat + 1) % 999979
def sumOf (l : List UInt8) : Int := l.foldl sumStep 7
theorem sumOf_bd (l : List UInt8) : 0 ≤ sumOf l ∧ sumOf l < 999979 := by
  rcases List.eq_nil_or_concat l with rfl | ⟨l', c, rfl⟩
  · simp [sumOf]
  · rw [sumOf, List.concat_eq_append, List.foldl_append]
    simp only [List.foldl_cons, List.foldl_nil, sumStep]
    omega
theorem sumOf_snoc (l : List UInt8) (c : UInt8) : sumOf (l ++ [c]) = (41 * sumOf l + c.toNat + 1) % 999979 := by
  simp [sumOf, sumStep, List.foldl_append]
theorem checksum_any (s : ByteArray) (hs : s.size ≤ maxLen) (w : World) : Calls Tryd.prog 33 #[.string s] w fun e w' => e = .returned (.int .i64 (sumOf s.data.toList)) ∧ w = w' := by
  unfold maxLen at hs
  go_enter Tryd.func33, Tryd.ntmps33
  go_wp2
  go_loop [3, 4] (fun h i => ∃ k : Nat, k ≤ s.size ∧ i = .int .i64 k ∧ h = .int .i64 (sumOf (s.data.toList.take k))) (fun _ i => s.size - (intOf i).toNat)
  case atStart => exact ⟨0, Nat.zero_le _, rfl, rfl⟩
  case round =>
    obtain ⟨k, hk, rfl, rfl⟩ := hrel
    have hd := sumOf_bd (s.data.toList.take k)
    by_cases hlt : k < s.size
    · have hsn := sumOf_snoc (s.data.toList.take k) s[k]
      rw [← take_snoc s k hlt] at hsn
      have HS := Lib.hid hsn
      clear hsn
      have hb : (s[k].toNat : Int) < 256 := by have := s[k].toNat_lt; omega
      go_wp2
      go_round
      case rel => exact ⟨k + 1, by omega, by go_num, by rw [HS.out]⟩
      case measure => simp [intOf]; omega
    · go_wp2
      go_ret
      exact ⟨ret_int (by rw [List.take_of_length_le (by simp; omega)]), rfl⟩
theorem l1Sum_any (s : ByteArray) (hs : s.size ≤ maxLen) (w : World) : Calls Tryd.prog 43 #[.string s] w fun e w' => e = .returned (.int .i64 (sumOf s.data.toList)) ∧ w = w' := by
  unfold maxLen at hs
  go_enter Tryd.func43, Tryd.ntmps43
  go_wp2
  go_loop [3, 4] (fun h i => ∃ k : Nat, k ≤ s.size ∧ i = .int .i64 k ∧ h = .int .i64 (sumOf (s.data.toList.take k))) (fun _ i => s.size - (intOf i).toNat)
  case atStart => exact ⟨0, Nat.zero_le _, rfl, rfl⟩
  case round =>
    obtain ⟨k, hk, rfl, rfl⟩ := hrel
    have hd := sumOf_bd (s.data.toList.take k)
    by_cases hlt : k < s.size
    · have hsn := sumOf_snoc (s.data.toList.take k) s[k]
      rw [← take_snoc s k hlt] at hsn
      have HS := Lib.hid hsn
      clear hsn
      have hb : (s[k].toNat : Int) < 256 := by have := s[k].toNat_lt; omega
      go_wp2
      go_round
      case rel => exact ⟨k + 1, by omega, by go_num, by rw [HS.out]⟩
      case measure => simp [intOf]; omega
    · go_wp2
      go_ret
      exact ⟨ret_int (by rw [List.take_of_length_le (by simp; omega)]), rfl⟩

/-- What Checksum returns. -/
def ckOk (s : ByteArray) : Bool := decide (s.size ≤ 4000)
def ckVal (s : ByteArray) : Int := if s.size ≤ 4000 then sumOf s.data.toList else 0
end Go.Proofs.YtlnhdjajbiahbaaDoor
