/-
  The plain laws of FnLevels: high waters are within the range; the error of the zero and the common times, both ways.
  Conditions: none.
-/
import Derived.Test.YtopdnhlolfehcaaRGauge
import Derived.Test.YtopdnhlolfehcaaZero3
import Derived.Test.YtopdnhlolfehcaaRange
import Derived.Test.YtopdnhlolfehcaaHighW
namespace Go.Proofs.Ytopdnhlolfehcaa
open Go.ChangeShapes Go.WideShapes Go.ChangeAt Go.RowKit
set_option linter.unusedVariables false
set_option linter.unusedSimpArgs false

theorem lohi_at (xs : List (Int × Int)) : ∀ (k j : Nat), j < k → loTo xs k ≤ P2 xs j ∧ P2 xs j ≤ hiTo xs k := by
  intro k
  induction k with
  | zero => intro j hj; omega
  | succ k ih =>
    intro j hj
    simp only [loTo, hiTo, mnI, mxI]
    by_cases e : j = k
    · subst e
      (repeat' split) <;> omega
    · have := ih j (by omega)
      (repeat' split) <;> omega
theorem high_in {id z : Int} {nm : ByteArray} {xs : List (Int × Int)} {k : Nat} (hk : k < (hwVal id nm z xs).length) : rgOk id nm z xs = true ∧ rgL id nm z xs ≤ P2 (hwVal id nm z xs) k + z ∧ P2 (hwVal id nm z xs) k + z ≤ rgH id nm z xs ∧ IntKind.i64.wrap (P2 (hwVal id nm z xs) k + z) = P2 (hwVal id nm z xs) k + z := by
  have hP := P2_at hk
  unfold hwVal at hk hP ⊢
  split at hk
  · rename_i h
    simp only [h, if_true] at hP ⊢
    have hm : (hwTo xs (xs.length - 2))[k] ∈ hwTo xs (xs.length - 2) := List.getElem_mem hk
    obtain ⟨q, hq⟩ : ∃ q, q = (hwTo xs (xs.length - 2))[k] := ⟨_, rfl⟩
    rw [← hq] at hm hP
    unfold hwTo at hm
    rw [List.mem_map] at hm
    obtain ⟨j, hj, e⟩ := hm
    rw [List.mem_filter, List.mem_range] at hj
    have hj1 : j + 1 < xs.length := by omega
    have hv : P2 (hwTo xs (xs.length - 2)) k = P2 xs (j + 1) := by rw [hP, ← e]
    have hok : rgOk id nm z xs = true := by simp [rgOk, h]; omega
    obtain ⟨y1, y2⟩ := rg_yes hok
    have hb := lohi_at xs xs.length (j + 1) hj1
    have hz := (gaugeB_1 h).2.1
    have hp := (gaugeB_at h hj1).2.1
    rw [hv, y1, y2]
    exact ⟨hok, by omega, by omega, IntWalk.i64_in _ (by omega)⟩
  · simp at hk
theorem two_sym (gs : List Gz) (a b : Int) : twoOk gs b a = twoOk gs a b := by
  simp only [twoOk]
  rw [show (idxI (gI gs b) == idxI (gI gs a)) = (idxI (gI gs a) == idxI (gI gs b)) from Bool.beq_comm ..]
  cases gaugesB gs <;> cases decide (0 ≤ idxI (gI gs a)) <;> cases decide (0 ≤ idxI (gI gs b)) <;> rfl
theorem sorted_ext : ∀ {l m : List Int}, l.Pairwise (· < ·) → m.Pairwise (· < ·) → (∀ t, t ∈ l ↔ t ∈ m) → l = m
  | [], [], _, _, _ => rfl
  | [], b :: m, _, _, h => absurd ((h b).2 List.mem_cons_self) (by simp)
  | a :: l, [], _, _, h => absurd ((h a).1 List.mem_cons_self) (by simp)
  | a :: l, b :: m, hl, hm, h => by
    rw [List.pairwise_cons] at hl hm
    have hab : a = b := by
      have h1 := (h a).1 List.mem_cons_self
      have h2 := (h b).2 List.mem_cons_self
      rcases List.mem_cons.1 h1 with h1 | h1
      · exact h1
      rcases List.mem_cons.1 h2 with h2 | h2
      · exact h2.symm
      have := hm.1 a h1
      have := hl.1 b h2
      omega
    subst hab
    congr 1
    refine sorted_ext hl.2 hm.2 fun t => ⟨fun ht => ?_, fun ht => ?_⟩
    · rcases List.mem_cons.1 ((h t).1 (List.mem_cons_of_mem _ ht)) with e | e
      · have := hl.1 t ht
        omega
      · exact e
    · rcases List.mem_cons.1 ((h t).2 (List.mem_cons_of_mem _ ht)) with e | e
      · have := hm.1 t ht
        omega
      · exact e
theorem ht_some {xs : List (Int × Int)} {t : Int} : (htI xs t).isSome = true ↔ ∃ j, j < xs.length ∧ P1 xs j = t := by
  constructor
  · intro h
    obtain ⟨j, hj⟩ := Option.isSome_iff_exists.1 h
    obtain ⟨h1, h2, -⟩ := find_is hj
    exact ⟨j, h1, by simpa [htAt] using h2⟩
  · rintro ⟨j, hj, e⟩
    cases h : htI xs t with
    | some i => rfl
    | none =>
      have := find_no h j hj
      simp [htAt, e] at this
theorem cmT_mem {xs ys : List (Int × Int)} {t : Int} : t ∈ cmT xs ys xs.length ↔ (∃ j, j < xs.length ∧ P1 xs j = t) ∧ (htI ys t).isSome = true := by
  unfold cmT cmI
  rw [List.mem_map]
  constructor
  · rintro ⟨j, hj, rfl⟩
    rw [List.mem_filter, List.mem_range] at hj
    exact ⟨⟨j, hj.1, rfl⟩, hj.2⟩
  · rintro ⟨⟨j, hj, rfl⟩, h⟩
    exact ⟨j, by rw [List.mem_filter, List.mem_range]; exact ⟨hj, h⟩, rfl⟩
theorem cmT_sorted {id z : Int} {nm : ByteArray} {xs ys : List (Int × Int)} (h : gaugeB id nm z xs = true) : (cmT xs ys xs.length).Pairwise (· < ·) := by
  unfold cmT cmI
  rw [List.pairwise_map]
  refine List.Pairwise.imp_of_mem (R := (· < ·)) (fun {a b} ha hb hab => ?_) ((List.pairwise_lt_range (n := xs.length)).filter _)
  rw [List.mem_filter, List.mem_range] at hb
  exact gauge_mono h b a hb.1 hab
theorem ts_sym {gs : List Gz} {a b : Int} (h : twoOk gs a b = true) : tsV gs b a = tsV gs a b := by
  obtain ⟨⟨-, -, hA⟩, -, -, hB⟩ := two_yes2 h
  refine sorted_ext (cmT_sorted hB) (cmT_sorted hA) fun t => ?_
  rw [tsV, tsV, cmT_mem, cmT_mem, ht_some, ht_some]
  exact And.comm
theorem getD_ext {l m : List Int} (hl : l.length = m.length) (h : ∀ n, n < l.length → l.getD n 0 = m.getD n 0) : l = m := by
  refine List.ext_getElem hl fun n h1 h2 => ?_
  have := h n h1
  simpa [List.getD_eq_getElem?_getD, h1, h2] using this
theorem sums_sym {gs : List Gz} {a b : Int} (h : twoOk gs a b = true) : fsV gs b a = ssV gs a b ∧ ssV gs b a = fsV gs a b := by
  have h' : twoOk gs b a = true := by rw [two_sym]; exact h
  obtain ⟨⟨l1, l2, -⟩, -, -, hn⟩ := lists_fact h
  obtain ⟨⟨l1', l2', -⟩, -, -, hn'⟩ := lists_fact h'
  have ht := ts_sym h
  rw [ht] at l1' l2' hn'
  constructor
  · refine getD_ext (by omega) fun n hl => ?_
    rw [← (hn' n (by omega)).1, (hn n (by omega)).2]
  · refine getD_ext (by omega) fun n hl => ?_
    rw [← (hn' n (by omega)).2, (hn n (by omega)).1]
theorem red_neg (s n : Int) : redN (-s) n = -redN s n ∧ redD (-s) n = redD s n := by
  simp [redN, redD, gcdI, Int.neg_tdiv]
theorem ze_sym (gs : List Gz) (a b : Int) : zeOk gs b a = zeOk gs a b ∧ zeN gs b a = -zeN gs a b ∧ zeD gs b a = zeD gs a b := by
  cases h : twoOk gs a b
  · have h' : twoOk gs b a = false := by rw [two_sym]; exact h
    have z1 : zeOk gs a b = false := by simp [zeOk, h]
    have z2 : zeOk gs b a = false := by simp [zeOk, h']
    simp [zeN, zeD, z1, z2]
  · have h' : twoOk gs b a = true := by rw [two_sym]; exact h
    have ht := ts_sym h
    obtain ⟨hf, hs⟩ := sums_sym h
    have hS : zeS gs b a = -zeS gs a b := by
      unfold zeS
      rw [hf, hs]
      omega
    have z1 : zeOk gs b a = zeOk gs a b := by simp [zeOk, h, h', ht]
    obtain ⟨r1, r2⟩ := red_neg (zeS gs a b) ((tsV gs a b).length : Int)
    refine ⟨z1, ?_, ?_⟩
    · unfold zeN
      rw [z1, hS, ht, r1]
      split <;> simp
    · unfold zeD
      rw [z1, hS, ht, r2]
theorem ct_sym (gs : List Gz) (a b : Int) : ctV gs b a = ctV gs a b := by
  unfold ctV
  rw [two_sym]
  split
  · rename_i h
    exact ts_sym h
  · rfl
theorem ze_ct (gs : List Gz) (a b : Int) : zeOk gs a b = decide (0 < (ctV gs a b).length) := by
  cases h : twoOk gs a b
  · simp [zeOk, ctV, h]
  · simp [zeOk, ctV, h]
theorem zeN_bd (gs : List Gz) (a b : Int) : -200000 ≤ zeN gs a b ∧ zeN gs a b ≤ 200000 := by
  unfold zeN
  split
  · rename_i h
    simp only [zeOk, Bool.and_eq_true, decide_eq_true_eq] at h
    obtain ⟨⟨l1, l2, l3⟩, b1, b2, -⟩ := lists_fact h.1
    have s1 := sm_bd b1 _ (Nat.le_refl _)
    have s2 := sm_bd b2 _ (Nat.le_refl _)
    have hS : -150000 ≤ zeS gs a b ∧ zeS gs a b ≤ 150000 := by
      unfold zeS
      omega
    have hp : (0 : Int) < ((tsV gs a b).length : Int) := by omega
    have hg := gcdI_pos (a := zeS gs a b) hp
    obtain ⟨m1, -⟩ := red_mul (a := zeS gs a b) hp
    generalize redN (zeS gs a b) ((tsV gs a b).length : Int) = r at m1
    generalize gcdI (zeS gs a b) ((tsV gs a b).length : Int) = d at m1 hg
    have hn : r.natAbs ≤ (zeS gs a b).natAbs := by
      rw [← m1, Int.natAbs_mul]
      exact Nat.le_mul_of_pos_right _ (by omega)
    omega
  · omega
end Go.Proofs.Ytopdnhlolfehcaa
