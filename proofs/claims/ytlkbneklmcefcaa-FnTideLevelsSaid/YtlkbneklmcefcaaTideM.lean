/-
  Plain facts for the drawn law FnTideLevels.
  Conditions: none.
-/
import Derived.Test.YtlkbneklmcefcaaHwM
import Derived.Test.YtlkbneklmcefcaaReduced
import Derived.Test.YtlkbneklmcefcaaBetween2
import Derived.Test.YtlkbneklmcefcaaRaise
namespace Go.Proofs.Ytlkbneklmcefcaa
open Go.ChangeShapes Go.WideShapes Go.ChangeAt Go.RowKit
set_option linter.unusedVariables false

theorem lvl_1 {xs : List (Int × Int)} {t : Int} (h : lvlOk xs t = true) : tideB xs = true ∧ timeB t = true ∧ lvOk xs t = true := by
  simp only [lvlOk, askB, Bool.and_eq_true] at h
  exact ⟨h.1.1, h.1.2, h.2⟩
theorem lvl_bd {xs : List (Int × Int)} {t : Int} (h : lvlOk xs t = true) : (-40000000 ≤ lvlN xs t ∧ lvlN xs t ≤ 40000000) ∧ (1 ≤ lvlD xs t ∧ lvlD xs t ≤ 60) := by
  obtain ⟨hB, ht, hl⟩ := lvl_1 h
  have hlb := lv_bd hB ht hl
  obtain ⟨eN, eD⟩ := lvl_yes h
  rw [eN, eD]
  have := (red_bd (lvN xs t) (b := lvD xs t) (by omega)).2
  have := redD_pos (a := lvN xs t) (b := lvD xs t) (by omega)
  exact ⟨redN_bd _ (by omega) hlb.1.1 hlb.1.2, by omega, by omega⟩
theorem lvl_all {xs : List (Int × Int)} {t lo hi : Int} (h : lvlOk xs t = true) (hlo : ∀ i, i < xs.length → lo ≤ P2 xs i) (hhi : ∀ i, i < xs.length → P2 xs i ≤ hi) : lo * lvlD xs t ≤ lvlN xs t ∧ lvlN xs t ≤ hi * lvlD xs t := by
  obtain ⟨hB, ht, hl⟩ := lvl_1 h
  have hlb := lv_bd hB ht hl
  obtain ⟨eN, eD⟩ := lvl_yes h
  rw [eN, eD]
  have hb := lv_between_all hlo hhi hl
  have hm := red_mul (a := lvN xs t) (b := lvD xs t) (by omega)
  have hg := gcdI_pos (a := lvN xs t) (b := lvD xs t) (by omega)
  generalize redN (lvN xs t) (lvD xs t) = n at hm ⊢
  generalize redD (lvN xs t) (lvD xs t) = d at hm ⊢
  generalize gcdI (lvN xs t) (lvD xs t) = g at hm hg
  rw [← hm.1, ← hm.2, ← Int.mul_assoc, ← Int.mul_assoc] at hb
  exact ⟨Int.le_of_mul_le_mul_right hb.1 hg, Int.le_of_mul_le_mul_right hb.2 hg⟩
theorem rd_1 {xs : List (Int × Int)} {d t : Int} (h : rdOk xs d t = true) : lvlOk xs t = true ∧ 0 ≤ d ∧ d ≤ 30000 := by
  simp only [rdOk, Bool.and_eq_true, inB_true] at h
  exact ⟨by simp [lvlOk, h.1.1, h.2], h.1.2.1, h.1.2.2⟩
theorem rd_fact {xs : List (Int × Int)} {d t : Int} (h : rdOk xs d t = true) : (-45000000 ≤ rdV xs d t ∧ rdV xs d t ≤ 45000000) ∧ rdV xs d t * lvlD xs t ≤ d * lvlD xs t - lvlN xs t ∧ d * lvlD xs t - lvlN xs t < (rdV xs d t + 1) * lvlD xs t := by
  obtain ⟨hl, d0, d1⟩ := rd_1 h
  obtain ⟨hB, ht, hlv⟩ := lvl_1 hl
  have hlb := lv_bd hB ht hlv
  obtain ⟨⟨n0, n1⟩, b0, b1⟩ := lvl_bd hl
  obtain ⟨eN, eD⟩ := lvl_yes hl
  have hv : rdV xs d t = (d * lvlD xs t - lvlN xs t) / lvlD xs t := by rw [rd_yes h, eN, eD, floor_lv _ _ _ (by omega)]
  rw [hv]
  have hm := dep_mul (l := d) (d := lvlD xs t) (inB_true.2 ⟨d0, d1⟩) ⟨b0, b1⟩
  generalize hX : d * lvlD xs t - lvlN xs t = X
  generalize lvlD xs t = b at *
  refine ⟨⟨?_, ?_⟩, Int.ediv_mul_le _ (by omega), Int.lt_ediv_add_one_mul_self _ (by omega)⟩
  · exact (Int.le_ediv_iff_mul_le (by omega)).2 (by omega)
  · have := (Int.ediv_lt_iff_lt_mul (a := X) (b := 45000001) (c := b) (by omega)).2 (by omega)
    omega
theorem shift_P1 (xs : List (Int × Int)) (d : Int) (i : Nat) (hi : i < xs.length) : P1 (shiftL xs d) i = P1 xs i ∧ P2 (shiftL xs d) i = P2 xs i + d := by
  have h1 : i < (shiftL xs d).length := by rw [shift_len]; exact hi
  rw [P1_at h1, P2_at h1, P1_at hi, P2_at hi]
  simp [shiftL]
theorem step_shift (xs : List (Int × Int)) (d t : Int) (i : Nat) (hi : i < xs.length) : lvStep (shiftL xs d) t i = (lvStep xs t i).map (fun r => (r.1 + d * r.2, r.2)) := by
  obtain ⟨e1, e2⟩ := shift_P1 xs d i hi
  unfold lvStep
  rw [e1, e2]
  by_cases h0 : P1 xs i = t
  · rw [if_pos h0, if_pos h0]
    simp
  · rw [if_neg h0, if_neg h0]
    by_cases hz : 0 < i
    · obtain ⟨e3, e4⟩ := shift_P1 xs d (i - 1) (by omega)
      rw [e3, e4]
      by_cases h1 : 0 < i ∧ P1 xs (i - 1) < t ∧ t < P1 xs i
      · rw [if_pos h1, if_pos h1]
        simp only [Option.map_some]
        congr 2
        have e : d * (P1 xs i - P1 xs (i - 1)) = d * (P1 xs i - t) + d * (t - P1 xs (i - 1)) := by rw [← Int.mul_add]; congr 1; omega
        rw [Int.add_mul, Int.add_mul, e]
        omega
      · rw [if_neg h1, if_neg h1]
        rfl
    · rw [if_neg (by omega), if_neg (by omega)]
      rfl
theorem to_shift (xs : List (Int × Int)) (d t : Int) : ∀ k, k ≤ xs.length → lvTo (shiftL xs d) t k = (lvTo xs t k).map (fun r => (r.1 + d * r.2, r.2))
  | 0, _ => rfl
  | k + 1, h => by
    rw [lvTo, lvTo, to_shift xs d t k (by omega)]
    cases lvTo xs t k with
    | some r => rfl
    | none => exact step_shift xs d t k (by omega)
theorem lv_shift (xs : List (Int × Int)) (d t : Int) : lv (shiftL xs d) t = (lv xs t).map (fun r => (r.1 + d * r.2, r.2)) := by
  unfold lv
  rw [shift_len]
  exact to_shift xs d t xs.length (Nat.le_refl _)
theorem lvs_shift (xs : List (Int × Int)) (d t : Int) (h : lvOk xs t = true) : lvOk (shiftL xs d) t = true ∧ lvN (shiftL xs d) t = lvN xs t + d * lvD xs t ∧ lvD (shiftL xs d) t = lvD xs t := by
  have hs := lv_shift xs d t
  have h0 := h
  unfold lvOk at h0
  cases hl : lv xs t with
  | none => rw [hl] at h0; cases h0
  | some r =>
    rw [hl] at h0 hs
    have hr : r.2 ≤ 60 := by simpa using h0
    have hv := lv_vals hl hr
    have hv2 := lv_vals (r := (r.1 + d * r.2, r.2)) hs hr
    rw [hv2.2.1, hv2.2.2, hv.2.1, hv.2.2]
    exact ⟨hv2.1, rfl, rfl⟩
theorem raise_rd {xs : List (Int × Int)} {d t b : Int} (h : rdOk xs d t = true) (hr : raiseOk xs b = true) : rdOk (raiseVal xs b) d t = true ∧ rdV (raiseVal xs b) d t = rdV xs d t - b := by
  have hval : raiseVal xs b = shiftL xs b := by rw [raiseVal, if_pos hr]
  have hB : tideB (shiftL xs b) = true := by
    simp only [raiseOk, Bool.and_eq_true] at hr
    exact hr.2
  rw [hval]
  have h0 := h
  simp only [rdOk, askB, Bool.and_eq_true] at h0
  obtain ⟨⟨⟨hx, ht⟩, hd⟩, hl⟩ := h0
  obtain ⟨e1, e2, e3⟩ := lvs_shift xs b t hl
  have hlb := lv_bd hx ht hl
  have hok : rdOk (shiftL xs b) d t = true := by simp [rdOk, askB, hB, ht, hd, e1]
  refine ⟨hok, ?_⟩
  rw [rd_yes hok, rd_yes h, e2, e3]
  have e : d * lvD xs t - (lvN xs t + b * lvD xs t) = (d * lvD xs t - lvN xs t) + (-b) * lvD xs t := by rw [Int.neg_mul]; omega
  rw [e, Int.add_mul_ediv_right _ _ (by omega)]
  omega
theorem lb_symm (xs ys : List (Int × Int)) (x y t : Int) : lbOk ys xs y x t = lbOk xs ys x y t ∧ lbN ys xs y x t = lbN xs ys x y t ∧ lbD ys xs y x t = lbD xs ys x y t := by
  have h : lbOk ys xs y x t = lbOk xs ys x y t := by
    unfold lbOk lbIn
    cases tideB xs <;> cases tideB ys <;> cases inB x 1 10000 <;> cases inB y 1 10000 <;> cases timeB t <;> cases lvOk xs t <;> cases lvOk ys t <;> rfl
  have hA : lbA ys xs y x t = lbA xs ys x y t := by
    unfold lbA
    omega
  have hB : lbB ys xs y x t = lbB xs ys x y t := by
    unfold lbB
    rw [Int.add_comm y x, Int.mul_assoc, Int.mul_assoc, Int.mul_comm (lvD ys t)]
  refine ⟨h, ?_, ?_⟩
  · unfold lbN
    rw [h, hA, hB]
  · unfold lbD
    rw [h, hA, hB]
end Go.Proofs.Ytlkbneklmcefcaa
