/-
  Plain facts: what is split and joined again is what it was; texts are ordered one way only.
  Conditions: none.
-/
import Derived.Test.YtlnhdjajbiahbaaJoin
namespace Go.Proofs.Ytlnhdjajbiahbaa
open Go.ChangeShapes Go.WideShapes Go.ChangeAt Go.RowKit
set_option linter.unusedVariables false
set_option linter.unusedSimpArgs false

theorem ext_list (s : ByteArray) (p k : Nat) : (s.extract p k).data.toList = (s.data.toList.take k).drop p := by
  rw [List.drop_take]
  simp [ByteArray.data_extract]
theorem take_step {s : ByteArray} {k : Nat} (h : k < s.size) : s.data.toList.take (k + 1) = s.data.toList.take k ++ [bt s k] := by
  rw [List.take_add_one, bt_list h]
  rfl
theorem join_last (l : List (List UInt8)) (x y sep : List UInt8) : Lib.join (l ++ [x ++ y]) sep = Lib.join (l ++ [x]) sep ++ y := by
  by_cases h : l = []
  · subst h
    simp [Lib.join_one]
  · rw [join_snoc _ _ _ h, join_snoc _ _ _ h]
    simp
/-- The whole parts and the open one, joined, are the text so far; no part holds the sign. -/
theorem split_join (s : ByteArray) (b : UInt8) : ∀ k, k ≤ s.size → Lib.join (ls (spTo s b k).1 ++ [(s.data.toList.take k).drop (spTo s b k).2]) [b] = s.data.toList.take k ∧
    (∀ x ∈ (spTo s b k).1, ¬ b ∈ x.data.toList ∧ x.size ≤ s.size) ∧ ¬ b ∈ (s.data.toList.take k).drop (spTo s b k).2
  | 0, _ => by simp [spTo, ls, Lib.join_one]
  | k + 1, h => by
    obtain ⟨h1, h2, h3⟩ := split_join s b k (by omega)
    have hp := (sp_le s b k).1
    have hl : (s.data.toList.take k).length = k := by
      have : s.data.toList.length = s.size := by simp
      simp
      omega
    by_cases hb : bt s k = b
    · rw [sp_yes hb]
      have e1 : (s.data.toList.take (k + 1)).drop (k + 1) = [] := List.drop_eq_nil_of_le (by rw [take_step (by omega), List.length_append, hl]; simp)
      have e2 : ls ((spTo s b k).1 ++ [s.extract (spTo s b k).2 k]) = ls (spTo s b k).1 ++ [(s.data.toList.take k).drop (spTo s b k).2] := by
        simp only [ls, List.map_append, List.map_cons, List.map_nil, ext_list]
      refine ⟨?_, fun x hx => ?_, ?_⟩
      · simp only []
        rw [e1, e2, join_snoc _ _ _ (by simp), h1, take_step (by omega), hb]
        simp
      · rcases List.mem_append.1 hx with hx | hx
        · exact h2 x hx
        · rw [List.mem_singleton] at hx
          subst hx
          refine ⟨by rw [ext_list]; exact h3, ?_⟩
          rw [ByteArray.size_extract]
          omega
      · simp only []
        rw [e1]
        simp
    · rw [sp_no hb]
      have e1 : (s.data.toList.take (k + 1)).drop (spTo s b k).2 = (s.data.toList.take k).drop (spTo s b k).2 ++ [bt s k] := by
        rw [take_step (by omega), List.drop_append_of_le_length (by rw [hl]; exact hp)]
      refine ⟨?_, h2, ?_⟩
      · rw [e1, join_last, h1, ← take_step (by omega)]
      · rw [e1, List.mem_append]
        rintro (hm | hm)
        · exact h3 hm
        · rw [List.mem_singleton] at hm
          exact hb hm.symm
theorem xz_mem {xs : List ByteArray} {i : Nat} (h : i < xs.length) : XZ xs i ∈ xs := by
  simp [XZ, List.getD_eq_getElem?_getD, h]
theorem one_list {t : ByteArray} (h : t.size = 1) : t.data.toList = [bt t 0] := by
  have h0 := bt_list (s := t) (k := 0) (by omega)
  have hl : t.data.toList.length = 1 := by simpa using h
  match ht : t.data.toList, hl with
  | [c], _ =>
    rw [ht] at h0
    simpa using h0
/-- What SplitString made, JoinStrings makes whole again. -/
theorem back (s t : ByteArray) (hs : s.size ≤ 4000) (ht : t.size = 1) : jnOk (splV s t) t = true ∧ jnV (splV s t) t = s ∧ (∀ i, i < (splV s t).length → (XZ (splV s t) i).size ≤ 1048576) ∧ (splV s t).length ≤ 1048576 := by
  have hok : splOk s t = true := by simp [splOk, hs, ht]
  have hlen := spl_len s t
  rw [spl_yes hok] at hlen ⊢
  obtain ⟨h1, h2, h3⟩ := split_join s (bt t 0) s.size (Nat.le_refl _)
  have htk : s.data.toList.take s.size = s.data.toList := List.take_of_length_le (by simp)
  have hlast : (s.extract (spTo s (bt t 0) s.size).2 s.size).data.toList = (s.data.toList.take s.size).drop (spTo s (bt t 0) s.size).2 := ext_list _ _ _
  have hmem : ∀ x ∈ spAll s (bt t 0), ¬ bt t 0 ∈ x.data.toList ∧ x.size ≤ s.size := fun x hx => by
    rcases List.mem_append.1 hx with hx | hx
    · exact h2 x hx
    · rw [List.mem_singleton] at hx
      subst hx
      refine ⟨by rw [hlast]; exact h3, ?_⟩
      rw [ByteArray.size_extract]
      omega
  have hjo : jo (spAll s (bt t 0)) t (spAll s (bt t 0)).length = s := by
    apply ba_list
    have e1 : (ls (spAll s (bt t 0))).take (spAll s (bt t 0)).length = ls (spAll s (bt t 0)) := List.take_of_length_le (by simp [ls])
    have e2 : ls (spAll s (bt t 0)) = ls (spTo s (bt t 0) s.size).1 ++ [(s.data.toList.take s.size).drop (spTo s (bt t 0) s.size).2] := by
      simp only [ls, spAll, List.map_append, List.map_cons, List.map_nil, ext_list]
    rw [jo, e1, e2, one_list ht, h1, htk]
  have h0 : 0 < (spAll s (bt t 0)).length := by simp [spAll]
  have hsz := jo_size (xs := spAll s (bt t 0)) ht (spAll s (bt t 0)).length (Nat.le_refl _)
  rw [hjo, if_neg (by omega)] at hsz
  have hgood : jnOk (spAll s (bt t 0)) t = true := jn_good h0 ht (fun j hj => by
    rw [hasIn, decide_eq_false_iff_not]
    exact (hmem _ (xz_mem hj)).1) (by omega)
  refine ⟨hgood, by rw [jn_yes hgood, hjo], fun i hi => ?_, by omega⟩
  have := (hmem _ (xz_mem hi)).2
  omega
theorem less_asym : ∀ a b : List UInt8, Op.bytesLess a b = true → Op.bytesLess b a = false
  | [], [], h => by simp [Op.bytesLess] at h
  | [], y :: b, _ => by simp [Op.bytesLess]
  | x :: a, [], h => by simp [Op.bytesLess] at h
  | x :: a, y :: b, h => by
    have ih := less_asym a b
    simp only [Op.bytesLess] at h ⊢
    by_cases e : x = y
    · subst e
      simp at h ⊢
      simpa using ih (by simpa using h)
    · by_cases hl : x < y
      · have h2 : ¬ y < x := fun h2 => by
          have := UInt8.lt_iff_toNat_lt.1 hl
          have := UInt8.lt_iff_toNat_lt.1 h2
          omega
        simp [e, hl, h2, Ne.symm e]
      · simp [e, hl] at h
end Go.Proofs.Ytlnhdjajbiahbaa
