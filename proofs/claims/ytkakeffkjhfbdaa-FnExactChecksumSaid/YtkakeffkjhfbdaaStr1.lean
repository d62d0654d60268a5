/-
  Contracts of the small functions over strings: LessString, Checksum.
  Conditions: none.
-/
import Derived.Test.YtkakeffkjhfbdaaNum
namespace Go.Proofs.Ytkakeffkjhfbdaa
open Go.ChangeShapes Go.WideShapes Go.ChangeAt Go.RowKit
set_option linter.unusedVariables false

theorem take_snoc (s : ByteArray) (k : Nat) (h : k < s.size) : s.data.toList.take (k + 1) = s.data.toList.take k ++ [s[k]] := by
  rw [List.take_succ_eq_append_getElem (by simpa using h)]; rfl

theorem lawLessString (s : ByteArray) (hs : s.size ≤ maxLen) (t : ByteArray) (ht : t.size ≤ maxLen) (w : World) : Calls Try.prog 4 #[.string s, .string t] w fun e w' => e = .returned (.bool true) ∧ Kept w w' := by
  unfold maxLen at hs ht
  go_enter Try.func4, Try.ntmps4
  go_wp2
  all_goals go_ret
  all_goals exact ⟨rfl, by (repeat (first | exact Kept.refl _ | assumption | refine Kept.alloc ?_ _ | refine Kept.drew ?_ | refine Kept.drewN ?_ _ | refine Kept.setCell ?_ (by simp) _ | refine Kept.trans ?_ (by assumption)))⟩

/-- The checksum after the bytes of a list. -/
def sumStep (h : Int) (c : UInt8) : Int := (41 * h + c.toNat + 1) % 999979
def sumOf (l : List UInt8) : Int := l.foldl sumStep 7
theorem sumOf_bd (l : List UInt8) : 0 ≤ sumOf l ∧ sumOf l < 999979 := by
  rcases List.eq_nil_or_concat l with rfl | ⟨l', c, rfl⟩
  · simp [sumOf]
  · rw [sumOf, List.concat_eq_append, List.foldl_append]
    simp only [List.foldl_cons, List.foldl_nil, sumStep]
    omega
theorem sumOf_snoc (l : List UInt8) (c : UInt8) : sumOf (l ++ [c]) = (41 * sumOf l + c.toNat + 1) % 999979 := by
  simp [sumOf, sumStep, List.foldl_append]
theorem checksum_any (s : ByteArray) (hs : s.size ≤ maxLen) (w : World) : Calls Try.prog 25 #[.string s] w fun e w' => e = .returned (.int .i64 (sumOf s.data.toList)) ∧ w = w' := by
  unfold maxLen at hs
  go_enter Try.func25, Try.ntmps25
  go_wp2
  go_loop [3, 4] (fun h i => ∃ k : Nat, k ≤ s.size ∧ i = .int .i64 k ∧ h = .int .i64 (sumOf (s.data.toList.take k))) (fun _ i => s.size - (intOf i).toNat)
  case atStart => exact ⟨0, Nat.zero_le _, rfl, rfl⟩
  case round =>
    obtain ⟨k, hk, rfl, rfl⟩ := hrel
    have hd := sumOf_bd (s.data.toList.take k)
    by_cases hlt : k < s.size
    · have hsn := sumOf_snoc (s.data.toList.take k) s[k]
      rw [← take_snoc s k hlt] at hsn
      have HS := Lib.hid hsn
      clear hsn
      have hb : (s[k].toNat : Int) < 256 := by have := s[k].toNat_lt; omega
      go_wp2
      go_round
      case rel => exact ⟨k + 1, by omega, by go_num, by rw [HS.out]⟩
      case measure => simp [intOf]; omega
    · go_wp2
      go_ret
      exact ⟨ret_int (by rw [List.take_of_length_le (by simp; omega)]), rfl⟩
theorem l1Sum_any (s : ByteArray) (hs : s.size ≤ maxLen) (w : World) : Calls Try.prog 24 #[.string s] w fun e w' => e = .returned (.int .i64 (sumOf s.data.toList)) ∧ w = w' := by
  unfold maxLen at hs
  go_enter Try.func24, Try.ntmps24
  go_wp2
  go_loop [3, 4] (fun h i => ∃ k : Nat, k ≤ s.size ∧ i = .int .i64 k ∧ h = .int .i64 (sumOf (s.data.toList.take k))) (fun _ i => s.size - (intOf i).toNat)
  case atStart => exact ⟨0, Nat.zero_le _, rfl, rfl⟩
  case round =>
    obtain ⟨k, hk, rfl, rfl⟩ := hrel
    have hd := sumOf_bd (s.data.toList.take k)
    by_cases hlt : k < s.size
    · have hsn := sumOf_snoc (s.data.toList.take k) s[k]
      rw [← take_snoc s k hlt] at hsn
      have HS := Lib.hid hsn
      clear hsn
      have hb : (s[k].toNat : Int) < 256 := by have := s[k].toNat_lt; omega
      go_wp2
      go_round
      case rel => exact ⟨k + 1, by omega, by go_num, by rw [HS.out]⟩
      case measure => simp [intOf]; omega
    · go_wp2
      go_ret
      exact ⟨ret_int (by rw [List.take_of_length_le (by simp; omega)]), rfl⟩

/-- What Checksum returns. -/
def ckOk (s : ByteArray) : Bool := decide (s.size ≤ 4000)
def ckVal (s : ByteArray) : Int := if s.size ≤ 4000 then sumOf s.data.toList else 0
theorem cksum_any (s : ByteArray) (hs : s.size ≤ maxLen) (w : World) : Calls Try.prog 18 #[.string s] w fun e w' => e = .returned (.tuple #[.int .i64 (ckVal s), .bool (ckOk s)]) ∧ w = w' := by
  have hs' := hs
  unfold maxLen at hs
  by_cases h : s.size ≤ 4000
  · have e1 := Lib.hid (show ckVal s = sumOf s.data.toList by simp [ckVal, h])
    have e2 := Lib.hid (show ckOk s = true by simp [ckOk, h])
    go_enter Try.func18, Try.ntmps18
    go_wp2_with (go_at_call 25; (with_reducible refine (checksum_any _ hs' _).mono ?_); rintro e w' ⟨rfl, rfl⟩)
    go_ret2
    exact ⟨ret_ib e1.out e2.out, rfl⟩
  · have e1 := Lib.hid (show ckVal s = 0 by simp [ckVal, h])
    have e2 := Lib.hid (show ckOk s = false by simp [ckOk, h])
    go_enter Try.func18, Try.ntmps18
    go_wp2
    go_ret2
    exact ⟨ret_ib e1.out e2.out, rfl⟩
theorem sCksum_any (s : ByteArray) (hs : s.size ≤ maxLen) (w : World) : Calls Try.prog 17 #[.string s] w fun e w' => e = .returned (.tuple #[.int .i64 (ckVal s), .bool (ckOk s)]) ∧ w = w' := by
  have hs' := hs
  unfold maxLen at hs
  by_cases h : s.size ≤ 4000
  · have e1 := Lib.hid (show ckVal s = sumOf s.data.toList by simp [ckVal, h])
    have e2 := Lib.hid (show ckOk s = true by simp [ckOk, h])
    go_enter Try.func17, Try.ntmps17
    go_wp2_with (go_at_call 24; (with_reducible refine (l1Sum_any _ hs' _).mono ?_); rintro e w' ⟨rfl, rfl⟩)
    go_ret2
    exact ⟨ret_ib e1.out e2.out, rfl⟩
  · have e1 := Lib.hid (show ckVal s = 0 by simp [ckVal, h])
    have e2 := Lib.hid (show ckOk s = false by simp [ckOk, h])
    go_enter Try.func17, Try.ntmps17
    go_wp2
    go_ret2
    exact ⟨ret_ib e1.out e2.out, rfl⟩
theorem lawChecksum (s : ByteArray) (hs : s.size ≤ maxLen) (w : World) : Calls Try.prog 7 #[.string s] w fun e w' => e = .returned (.bool true) ∧ Kept w w' := by
  have hs' := hs
  unfold maxLen at hs
  go_enter Try.func7, Try.ntmps7
  go_wp2_with (first | (go_at_call 18; (with_reducible refine (cksum_any _ hs' _).mono ?_); rintro e w' ⟨rfl, rfl⟩) | (go_at_call 17; (with_reducible refine (sCksum_any _ hs' _).mono ?_); rintro e w' ⟨rfl, rfl⟩))
  all_goals go_ret
  all_goals exact ⟨rfl, by (repeat (first | exact Kept.refl _ | assumption | refine Kept.alloc ?_ _ | refine Kept.drew ?_ | refine Kept.drewN ?_ _ | refine Kept.setCell ?_ (by simp) _ | refine Kept.trans ?_ (by assumption)))⟩
theorem lawConstants (w : World) : Calls Try.prog 3 #[] w fun e w' => e = .returned (.bool true) ∧ Kept w w' := by
  go_enter Try.func3, Try.ntmps3
  go_wp2
  go_ret
  exact ⟨rfl, by (repeat (first | exact Kept.refl _ | assumption | refine Kept.alloc ?_ _ | refine Kept.drew ?_ | refine Kept.drewN ?_ _ | refine Kept.setCell ?_ (by simp) _ | refine Kept.trans ?_ (by assumption)))⟩
end Go.Proofs.Ytkakeffkjhfbdaa
