/-
  Contracts of the functions over words, the program's and the reference's.
  Conditions: none.
-/
import Derived.Test.YtopdnhlolfehcaaMem
namespace Go.Proofs.Ytopdnhlolfehcaa
open Go.ChangeShapes Go.WideShapes Go.ChangeAt Go.RowKit
set_option linter.unusedVariables false

def byteI (s : ByteArray) (i : Nat) : Int := ((s.data.toList.getD i 0).toNat : Int)
theorem byteI_at {s : ByteArray} {k : Nat} (h : k < s.size) : byteI s k = (s[k].toNat : Int) := by
  have h' : k < s.data.toList.length := by simpa using h
  rw [byteI, List.getD_eq_getElem?_getD, List.getElem?_eq_getElem h']
  rfl
def wordAt (s : ByteArray) (i : Nat) : Bool := inB (byteI s i) 97 122
def wordB (s : ByteArray) : Bool := allB s.size (wordAt s) && inB s.size 1 10
theorem wordB_all {s : ByteArray} (h : ∀ i, i < s.size → wordAt s i = true) : wordB s = inB s.size 1 10 := by simp [wordB, allB_true h]
theorem wordB_no {s : ByteArray} {k : Nat} (hk : k < s.size) (h : wordAt s k = false) : wordB s = false := by simp [wordB, allB_false hk h]
theorem isWord_any (s : ByteArray) (hs : s.size ≤ maxLen) (w : World) : Calls Try.prog 75 #[.string s] w fun e w' => e = .returned (.bool (wordB s)) ∧ w = w' := by
  unfold maxLen at hs
  go_enter Try.func75, Try.ntmps75
  go_wp2
  go_loop [3] (fun i => ∃ k : Nat, k ≤ s.size ∧ i = .int .i64 k ∧ ∀ i, i < k → wordAt s i = true) (fun i => s.size - (intOf i).toNat)
  case atStart => exact ⟨0, Nat.zero_le _, rfl, fun i h => absurd h (by omega)⟩
  case round =>
    obtain ⟨k, hk, rfl, hall⟩ := hrel
    have HA := Lib.hid hall
    clear hall
    by_cases hlt : k < s.size
    · have hb := byteI_at hlt
      have hb0 : (0 : Int) ≤ s[k].toNat := by omega
      by_cases h1 : (s[k].toNat : Int) < 97
      · have HN := Lib.hid (wordB_no hlt (show wordAt s k = false by simp only [wordAt, hb, inB]; simp; omega))
        clear hb
        go_wp2
        go_ret
        exact ⟨ret_bool HN.out.symm, rfl⟩
      · by_cases h2 : (122 : Int) < s[k].toNat
        · have HN := Lib.hid (wordB_no hlt (show wordAt s k = false by simp only [wordAt, hb, inB]; simp; omega))
          clear hb
          go_wp2
          go_ret
          exact ⟨ret_bool HN.out.symm, rfl⟩
        · have HB := Lib.hid (upto_succ (p := fun i => wordAt s i = true) HA.out (show wordAt s k = true by simp only [wordAt, hb, inB]; simp; omega))
          clear hb
          go_wp2
          go_round
          case rel => exact ⟨k + 1, by omega, by go_num, HB.out⟩
          case measure => simp [intOf]; omega
    · have HF := Lib.hid (wordB_all (s := s) (fun i hi => HA.out i (by omega)))
      go_wp2_with (go_at_call 74; (with_reducible refine (inside_any _ _ _ _).mono ?_); rintro e w' ⟨rfl, rfl⟩)
      go_ret
      exact ⟨ret_bool HF.out.symm, rfl⟩
theorem l2Word_any (s : ByteArray) (hs : s.size ≤ maxLen) (w : World) : Calls Try.prog 104 #[.string s] w fun e w' => e = .returned (.bool (wordB s)) ∧ w = w' := by
  unfold maxLen at hs
  go_enter Try.func104, Try.ntmps104
  go_wp2
  go_loop [3] (fun i => ∃ k : Nat, k ≤ s.size ∧ i = .int .i64 k ∧ ∀ i, i < k → wordAt s i = true) (fun i => s.size - (intOf i).toNat)
  case atStart => exact ⟨0, Nat.zero_le _, rfl, fun i h => absurd h (by omega)⟩
  case round =>
    obtain ⟨k, hk, rfl, hall⟩ := hrel
    have HA := Lib.hid hall
    clear hall
    by_cases hlt : k < s.size
    · have hb := byteI_at hlt
      have hb0 : (0 : Int) ≤ s[k].toNat := by omega
      by_cases h1 : (s[k].toNat : Int) < 97
      · have HN := Lib.hid (wordB_no hlt (show wordAt s k = false by simp only [wordAt, hb, inB]; simp; omega))
        clear hb
        go_wp2
        go_ret
        exact ⟨ret_bool HN.out.symm, rfl⟩
      · by_cases h2 : (122 : Int) < s[k].toNat
        · have HN := Lib.hid (wordB_no hlt (show wordAt s k = false by simp only [wordAt, hb, inB]; simp; omega))
          clear hb
          go_wp2
          go_ret
          exact ⟨ret_bool HN.out.symm, rfl⟩
        · have HB := Lib.hid (upto_succ (p := fun i => wordAt s i = true) HA.out (show wordAt s k = true by simp only [wordAt, hb, inB]; simp; omega))
          clear hb
          go_wp2
          go_round
          case rel => exact ⟨k + 1, by omega, by go_num, HB.out⟩
          case measure => simp [intOf]; omega
    · have HF := Lib.hid (wordB_all (s := s) (fun i hi => HA.out i (by omega)))
      go_wp2_with (go_at_call 77; (with_reducible refine (l1In_any _ _ _ _).mono ?_); rintro e w' ⟨rfl, rfl⟩)
      go_ret
      exact ⟨ret_bool HF.out.symm, rfl⟩

end Go.Proofs.Ytopdnhlolfehcaa
