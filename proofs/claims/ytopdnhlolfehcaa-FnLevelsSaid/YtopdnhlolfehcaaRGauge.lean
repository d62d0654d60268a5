/-
  Contracts of the comparing functions rInts, rReadings, rGauge, rTable; the plain laws of FnGauges.
  Conditions: none.
-/
import Derived.Test.YtopdnhlolfehcaaGapsL
import Derived.Test.YtopdnhlolfehcaaAdd2
import Derived.Test.YtopdnhlolfehcaaHeight
namespace Go.Proofs.Ytopdnhlolfehcaa
open Go.ChangeShapes Go.WideShapes Go.ChangeAt Go.RowKit
set_option linter.unusedVariables false
set_option linter.unusedSimpArgs false

theorem rBig_any (A : Option Addr) (len cap : Nat) (w : World) : Calls Try.prog 15 #[.slice A len cap] w fun e w' => e = .returned (.bool (decide ((65536 : Int) < (len : Int)))) ∧ w = w' := by
  go_enter Try.func15, Try.ntmps15
  go_wp2
  go_ret
  exact ⟨rfl, rfl⟩
theorem rInts_any (u v : Value) (xs : List Int) (w : World) (hU : Lies w 1 intC u xs) (hV : Lies w 1 intC v xs) : Calls Try.prog 64 #[u, v] w fun e w' => e = .returned (.bool true) ∧ Kept w w' := by
  have hm := hU.len
  unfold maxLen at hm
  obtain ⟨A, c, rfl, hlc, hcm, hA⟩ := lies_ints hU
  obtain ⟨A', c', rfl, hlc', hcm', hA'⟩ := lies_ints hV
  clear hU hV
  go_enter Try.func64, Try.ntmps64
  go_wp2
  go_loopw [5] (fun i wr => ∃ k : Nat, k ≤ xs.length ∧ i = .int .i64 k ∧ Kept w wr) (fun i _ => xs.length - (intOf i).toNat)
  case atStart => exact ⟨0, Nat.zero_le _, rfl, Kept.refl _⟩
  case round =>
    obtain ⟨k, hk, rfl, hkw⟩ := hrel
    by_cases hlt : k < xs.length
    · obtain ⟨b, off, rfl, hc⟩ := hA (by omega)
      obtain ⟨b', off', rfl, hc'⟩ := hA' (by omega)
      have c0 := hkw.keep (hc k hlt)
      have d0 := hkw.keep (hc' k hlt)
      have k0 : (0 : Int) ≤ (k : Int) := by omega
      have k1 : (k : Int) < (xs.length : Int) := by omega
      clear hc hc' hA hA'
      go_wp2_with fail
      go_quiet (fail)
      go_wp2
      go_roundw
      case rel => exact ⟨k + 1, by omega, by go_num, by (repeat (first | exact Kept.refl _ | assumption | refine Kept.alloc ?_ _ | refine Kept.drew ?_ | refine Kept.drewN ?_ _ | refine Kept.setCell ?_ (by first | (simp; done) | (simp; omega) | omega | exact Kept.size (by (repeat (first | exact Kept.refl _ | assumption | refine Kept.alloc ?_ _ | refine Kept.drew ?_ | refine Kept.drewN ?_ _ | refine Kept.trans ?_ (by assumption))))) _ | refine Kept.trans ?_ (by assumption)))⟩
      case measure => simp [intOf]; omega
    · go_wp2
      go_ret
      exact ⟨rfl, by (repeat (first | exact Kept.refl _ | assumption | refine Kept.alloc ?_ _ | refine Kept.drew ?_ | refine Kept.drewN ?_ _ | refine Kept.setCell ?_ (by first | (simp; done) | (simp; omega) | omega | exact Kept.size (by (repeat (first | exact Kept.refl _ | assumption | refine Kept.alloc ?_ _ | refine Kept.drew ?_ | refine Kept.drewN ?_ _ | refine Kept.trans ?_ (by assumption))))) _ | refine Kept.trans ?_ (by assumption)))⟩
theorem rReadings_any (u v : Value) (xs : List (Int × Int)) (w : World) (hU : Lies w 2 pairC u xs) (hV : Lies w 2 pairC v xs) : Calls Try.prog 62 #[u, v] w fun e w' => e = .returned (.bool true) ∧ Kept w w' := by
  have hm := hU.len
  unfold maxLen at hm
  obtain ⟨A, c, rfl, hlc, hcm, hA⟩ := lies_pairs hU
  obtain ⟨A', c', rfl, hlc', hcm', hA'⟩ := lies_pairs hV
  clear hU hV
  go_enter Try.func62, Try.ntmps62
  go_wp2
  go_loopw [5] (fun i wr => ∃ k : Nat, k ≤ xs.length ∧ i = .int .i64 k ∧ Kept w wr) (fun i _ => xs.length - (intOf i).toNat)
  case atStart => exact ⟨0, Nat.zero_le _, rfl, Kept.refl _⟩
  case round =>
    obtain ⟨k, hk, rfl, hkw⟩ := hrel
    by_cases hlt : k < xs.length
    · obtain ⟨b, off, rfl, hc⟩ := hA (by omega)
      obtain ⟨b', off', rfl, hc'⟩ := hA' (by omega)
      have c0 := hkw.keep (hc k hlt).1
      have c1 := hkw.keep (hc k hlt).2
      have d0 := hkw.keep (hc' k hlt).1
      have d1 := hkw.keep (hc' k hlt).2
      have k0 : (0 : Int) ≤ (k : Int) := by omega
      have k1 : (k : Int) < (xs.length : Int) := by omega
      clear hc hc' hA hA'
      go_wp2_with fail
      go_quiet (fail)
      go_wp2
      go_roundw
      case rel => exact ⟨k + 1, by omega, by go_num, by (repeat (first | exact Kept.refl _ | assumption | refine Kept.alloc ?_ _ | refine Kept.drew ?_ | refine Kept.drewN ?_ _ | refine Kept.setCell ?_ (by first | (simp; done) | (simp; omega) | omega | exact Kept.size (by (repeat (first | exact Kept.refl _ | assumption | refine Kept.alloc ?_ _ | refine Kept.drew ?_ | refine Kept.drewN ?_ _ | refine Kept.trans ?_ (by assumption))))) _ | refine Kept.trans ?_ (by assumption)))⟩
      case measure => simp [intOf]; omega
    · go_wp2
      go_ret
      exact ⟨rfl, by (repeat (first | exact Kept.refl _ | assumption | refine Kept.alloc ?_ _ | refine Kept.drew ?_ | refine Kept.drewN ?_ _ | refine Kept.setCell ?_ (by first | (simp; done) | (simp; omega) | omega | exact Kept.size (by (repeat (first | exact Kept.refl _ | assumption | refine Kept.alloc ?_ _ | refine Kept.drew ?_ | refine Kept.drewN ?_ _ | refine Kept.trans ?_ (by assumption))))) _ | refine Kept.trans ?_ (by assumption)))⟩
theorem rGauge_any (id : Int) (nm : ByteArray) (z : Int) (u v : Value) (xs : List (Int × Int)) (w : World) (hU : Lies w 2 pairC u xs) (hV : Lies w 2 pairC v xs) : Calls Try.prog 19 #[.agg #[.int .i64 id, .string nm, .int .i64 z, u], .agg #[.int .i64 id, .string nm, .int .i64 z, v]] w fun e w' => e = .returned (.bool true) ∧ Kept w w' := by
  have HU := Lib.hid hU
  have HV := Lib.hid hV
  obtain ⟨A, c, rfl, hlc, hcm, hA⟩ := hU
  obtain ⟨A', c', rfl, hlc', hcm', hA'⟩ := hV
  clear hA hA'
  go_enter Try.func19, Try.ntmps19
  go_wp2_with (go_at_call 62; (with_reducible refine (rReadings_any _ _ _ _ (by exact HU.out.kept (by (repeat (first | exact Kept.refl _ | assumption | refine Kept.alloc ?_ _ | refine Kept.drew ?_ | refine Kept.drewN ?_ _ | refine Kept.setCell ?_ (by first | (simp; done) | (simp; omega) | omega | exact Kept.size (by (repeat (first | exact Kept.refl _ | assumption | refine Kept.alloc ?_ _ | refine Kept.drew ?_ | refine Kept.drewN ?_ _ | refine Kept.trans ?_ (by assumption))))) _ | refine Kept.trans ?_ (by assumption))))) (by exact HV.out.kept (by (repeat (first | exact Kept.refl _ | assumption | refine Kept.alloc ?_ _ | refine Kept.drew ?_ | refine Kept.drewN ?_ _ | refine Kept.setCell ?_ (by first | (simp; done) | (simp; omega) | omega | exact Kept.size (by (repeat (first | exact Kept.refl _ | assumption | refine Kept.alloc ?_ _ | refine Kept.drew ?_ | refine Kept.drewN ?_ _ | refine Kept.trans ?_ (by assumption))))) _ | refine Kept.trans ?_ (by assumption)))))).mono ?_); rintro e w' ⟨rfl, hk⟩; (try have hkr := Root.trans (by assumption) hk); (first | (have hkf := From.step (by assumption) hk; obtain ⟨hc, hf⟩ := hkf.cells) | (have hkf := From.start hk; obtain ⟨hc, hf⟩ := hkf.cells)))
  go_ret
  exact ⟨rfl, by (repeat (first | exact Kept.refl _ | assumption | refine Kept.alloc ?_ _ | refine Kept.drew ?_ | refine Kept.drewN ?_ _ | refine Kept.setCell ?_ (by first | (simp; done) | (simp; omega) | omega | exact Kept.size (by (repeat (first | exact Kept.refl _ | assumption | refine Kept.alloc ?_ _ | refine Kept.drew ?_ | refine Kept.drewN ?_ _ | refine Kept.trans ?_ (by assumption))))) _ | refine Kept.trans ?_ (by assumption)))⟩
theorem rTable_any (B B' : Nat) (E I E' I' : TypeId) (u v : Value) (bs bs' : List Nat) (L : List (Int × Int)) (w : World) (hU : PRows w B E I u bs (prs L)) (hV : PRows w B' E' I' v bs' (prs L)) : Calls Try.prog 28 #[u, v] w fun e w' => e = .returned (.bool true) ∧ Kept w w' := by
  obtain ⟨A, c, rfl, hlc, hcm, hA⟩ := own_form hU.out
  obtain ⟨A', c', rfl, hlc', hcm', hA'⟩ := own_form hV.out
  have HU := Lib.hid hU
  have HV := Lib.hid hV
  have HL := Lib.hid (hU.len.trans (prs_len L))
  have HL' := Lib.hid (hV.len.trans (prs_len L))
  rw [prs_len] at *
  unfold maxLen at hcm
  clear hU hV hA hA'
  go_enter Try.func28, Try.ntmps28
  go_wp2
  go_loopw [5] (fun i wr => ∃ k : Nat, k ≤ L.length ∧ i = .int .i64 k ∧ Kept w wr) (fun i _ => L.length - (intOf i).toNat)
  case atStart => exact ⟨0, Nat.zero_le _, rfl, Kept.refl _⟩
  case round =>
    obtain ⟨k, hk, rfl, hkw⟩ := hrel
    by_cases hlt : k < L.length
    · obtain ⟨b, hb⟩ : ∃ b, bs[k]? = some b := ⟨bs[k]'(by rw [HL.out]; exact hlt), List.getElem?_eq_getElem _⟩
      obtain ⟨b', hb'⟩ : ∃ b, bs'[k]? = some b := ⟨bs'[k]'(by rw [HL'.out]; exact hlt), List.getElem?_eq_getElem _⟩
      have hp : L[k]? = some L[k] := List.getElem?_eq_getElem hlt
      obtain ⟨g, rfl, d0⟩ := (HU.out.kept hkw).cell hb
      obtain ⟨g', rfl, d1⟩ := (HV.out.kept hkw).cell hb'
      have HR := Lib.hid (lies_row (HU.out.kept hkw) hb hp)
      have HR' := Lib.hid (lies_row (HV.out.kept hkw) hb' hp)
      clear hb hb' hp
      go_wp2_with fail
      have kf1_0 : ∀ w' : World, Root (wr) w' → w'.cell? ⟨g, k, none⟩ = some (rowV b) := fun w' h => h.keep (by first | assumption | exact (Kept.alloc (Kept.refl _) _).keep (by assumption) | (simp [go_sem]; done) | (simp [go_sem, *]; done))
      have kf1_1 : ∀ w' : World, Root (wr) w' → w'.cell? ⟨g', k, none⟩ = some (rowV b') := fun w' h => h.keep (by first | assumption | exact (Kept.alloc (Kept.refl _) _).keep (by assumption) | (simp [go_sem]; done) | (simp [go_sem, *]; done))
      go_region_held3 (fun w' => Root (wr) w')
        (first | assumption | exact Root.trans (by assumption) hk | exact Root.drew (Root.refl _) | (repeat (first | exact Root.refl _ | assumption | refine Root.alloc ?_ _ | refine Root.drew ?_ | refine Root.setCell ?_ (by first | (simp; done) | (simp; omega) | omega | exact Root.size (by assumption)) _ | refine Root.trans ?_ (by assumption))))
        (first | (go_at_call 64; refine (rInts_any _ _ _ _ (HR.out.kept (by (repeat (first | exact Kept.refl _ | assumption | refine Kept.alloc ?_ _ | refine Kept.drew ?_ | refine Kept.drewN ?_ _ | refine Kept.setCell ?_ (by first | (simp; done) | (simp; omega) | omega | exact Kept.size (by (repeat (first | exact Kept.refl _ | assumption | refine Kept.alloc ?_ _ | refine Kept.drew ?_ | refine Kept.drewN ?_ _ | refine Kept.trans ?_ (by assumption))))) _ | refine Kept.trans ?_ (by assumption))))) (HR'.out.kept (by (repeat (first | exact Kept.refl _ | assumption | refine Kept.alloc ?_ _ | refine Kept.drew ?_ | refine Kept.drewN ?_ _ | refine Kept.setCell ?_ (by first | (simp; done) | (simp; omega) | omega | exact Kept.size (by (repeat (first | exact Kept.refl _ | assumption | refine Kept.alloc ?_ _ | refine Kept.drew ?_ | refine Kept.drewN ?_ _ | refine Kept.trans ?_ (by assumption))))) _ | refine Kept.trans ?_ (by assumption)))))).mono ?_; rintro e w1 ⟨rfl, hk⟩; (have hkr := Root.trans (by assumption) hk); (first | (have hkf := From.step (by assumption) hk; obtain ⟨hc, hf⟩ := hkf.cells) | (have hkf := From.start hk; obtain ⟨hc, hf⟩ := hkf.cells))))
      go_wp2
      go_roundw
      case rel => exact ⟨k + 1, by omega, by go_num, by (repeat (first | exact Kept.refl _ | assumption | refine Kept.alloc ?_ _ | refine Kept.drew ?_ | refine Kept.drewN ?_ _ | refine Kept.setCell ?_ (by first | (simp; done) | (simp; omega) | omega | exact Kept.size (by (repeat (first | exact Kept.refl _ | assumption | refine Kept.alloc ?_ _ | refine Kept.drew ?_ | refine Kept.drewN ?_ _ | refine Kept.trans ?_ (by assumption))))) _ | refine Kept.trans ?_ (by assumption)))⟩
      case measure => simp [intOf]; omega
    · go_wp2
      go_ret
      exact ⟨rfl, by (repeat (first | exact Kept.refl _ | assumption | refine Kept.alloc ?_ _ | refine Kept.drew ?_ | refine Kept.drewN ?_ _ | refine Kept.setCell ?_ (by first | (simp; done) | (simp; omega) | omega | exact Kept.size (by (repeat (first | exact Kept.refl _ | assumption | refine Kept.alloc ?_ _ | refine Kept.drew ?_ | refine Kept.drewN ?_ _ | refine Kept.trans ?_ (by assumption))))) _ | refine Kept.trans ?_ (by assumption)))⟩
/-- The height of the reading that was added. -/
theorem at_lt : ∀ (xs : List (Int × Int)) (t : Int) (j : Nat), j < atOf xs t → P1 xs j < t
  | [], t, j, h => by simp [atOf] at h
  | x :: xs, t, 0, h => by
    by_cases h0 : x.1 < t
    · simpa [P1] using h0
    · simp [atOf, h0] at h
  | x :: xs, t, j + 1, h => by
    by_cases h0 : x.1 < t
    · have := at_lt xs t j (by simpa [atOf, h0] using h)
      simpa [P1] using this
    · simp [atOf, h0] at h
theorem at_le : ∀ (xs : List (Int × Int)) (t : Int), atOf xs t ≤ xs.length
  | [], t => by simp [atOf]
  | x :: xs, t => by
    by_cases h0 : x.1 < t
    · have := at_le xs t
      simp [atOf, h0]
      exact this
    · simp [atOf, h0]
theorem mid_at (l r : List (Int × Int)) (p : Int × Int) : P1 (l ++ [p] ++ r) l.length = p.1 ∧ P2 (l ++ [p] ++ r) l.length = p.2 ∧ ∀ j, j < l.length → P1 (l ++ [p] ++ r) j = P1 l j := by
  refine ⟨?_, ?_, fun j hj => ?_⟩
  · simp [P1, List.getD_eq_getElem?_getD]
  · simp [P2, List.getD_eq_getElem?_getD]
  · simp [P1, List.getD_eq_getElem?_getD, List.append_assoc, List.getElem?_append_left hj]
theorem ad_height {id z : Int} {nm : ByteArray} {xs : List (Int × Int)} {rt rl : Int} (h : adOk id nm z xs rt rl = true) : hoOk id nm z (adL xs rt rl) rt = true ∧ hoV id nm z (adL xs rt rl) rt = rl + z ∧ gaugeB id nm z (adL xs rt rl) = true := by
  simp only [adOk, Bool.and_eq_true] at h
  have hk := at_le xs rt
  have hlen : (xs.take (atOf xs rt)).length = atOf xs rt := by rw [List.length_take]; omega
  obtain ⟨r, hr⟩ : ∃ r, adL xs rt rl = xs.take (atOf xs rt) ++ [(rt, rl)] ++ r := by
    unfold adL
    split
    · exact ⟨_, rfl⟩
    · exact ⟨_, rfl⟩
  obtain ⟨m1, m2, m3⟩ := mid_at (xs.take (atOf xs rt)) r (rt, rl)
  rw [← hr, hlen] at m1 m2
  rw [← hr] at m3
  have hI : htI (adL xs rt rl) rt = some (atOf xs rt) := by
    refine ht_yes (by rw [hr]; simp; omega) (fun j hj => ?_) m1
    have h2 := m3 j (by omega)
    have h3 := at_lt xs rt j hj
    have h4 : P1 (xs.take (atOf xs rt)) j = P1 xs j := by simp [P1, List.getD_eq_getElem?_getD, List.getElem?_take, hj]
    simp only [htAt, decide_eq_false_iff_not, h2, h4]
    omega
  obtain ⟨v1, v2⟩ := htR_yes (z := z) hI
  refine ⟨by simp [hoOk, h.2, v2], ?_, h.2⟩
  simp only [hoV, h.2, if_true, v1, m2]
/-- The place of a reading's own time. -/
theorem gauge_mono {id z : Int} {nm : ByteArray} {xs : List (Int × Int)} (h : gaugeB id nm z xs = true) : ∀ (k j : Nat), k < xs.length → j < k → P1 xs j < P1 xs k := by
  intro k
  induction k with
  | zero => intro j _ hj; omega
  | succ k ih =>
    intro j hk hj
    have h1 := (gaugeB_at h hk).2.2
    have h2 : P1 xs k < P1 xs (k + 1) := by
      rcases h1 with h1 | h1
      · omega
      · simpa using h1
    by_cases e : j = k
    · rw [e]; exact h2
    · have := ih j (by omega) (by omega)
      omega
theorem own_height {id z : Int} {nm : ByteArray} {xs : List (Int × Int)} (h : gaugeB id nm z xs = true) {k : Nat} (hk : k < xs.length) : hoOk id nm z xs (P1 xs k) = true ∧ hoV id nm z xs (P1 xs k) = P2 xs k + z := by
  have hI : htI xs (P1 xs k) = some k := ht_yes hk (fun j hj => by
    have := gauge_mono h k j hk hj
    simp only [htAt, decide_eq_false_iff_not]
    omega) rfl
  obtain ⟨v1, v2⟩ := htR_yes (z := z) hI
  exact ⟨by simp [hoOk, h, v2], by simp [hoV, h, v1]⟩
theorem shift_at (xs : List (Int × Int)) (d : Int) {k : Nat} (hk : k < xs.length) : P1 (shiftL xs d) k = P1 xs k ∧ P2 (shiftL xs d) k = P2 xs k + d := by
  have hk2 : k < (shiftL xs d).length := by rw [shift_len]; exact hk
  rw [P1_at hk2, P2_at hk2, P1_at hk, P2_at hk]
  simp [shiftL]
theorem shift_height {id z tt : Int} {nm : ByteArray} {xs : List (Int × Int)} (h : szOk id nm z xs tt = true) {k : Nat} (hk : k < xs.length) : hoOk id nm z xs (P1 xs k) = true ∧ hoOk id nm tt (shiftL xs (z - tt)) (P1 xs k) = true ∧ hoV id nm tt (shiftL xs (z - tt)) (P1 xs k) = hoV id nm z xs (P1 xs k) := by
  simp only [szOk, Bool.and_eq_true] at h
  obtain ⟨a1, a2⟩ := own_height h.1.1 hk
  have hk2 : k < (shiftL xs (z - tt)).length := by rw [shift_len]; exact hk
  obtain ⟨b1, b2⟩ := own_height h.2 hk2
  obtain ⟨s1, s2⟩ := shift_at xs (z - tt) hk
  rw [s1] at b1 b2
  rw [s2] at b2
  exact ⟨a1, b1, by rw [a2, b2]; omega⟩
theorem gap_height {id z m : Int} {nm : ByteArray} {xs : List (Int × Int)} {k : Nat} (hk : k < (gpVal id nm z xs m).length) : ∃ a b, (gpVal id nm z xs m)[k]? = some (a, b) ∧ hoOk id nm z xs a = true ∧ hoOk id nm z xs b = true ∧ m < b - a ∧ -10000 ≤ b - a ∧ b - a ≤ 10000 := by
  unfold gpVal at hk ⊢
  split at hk
  · rename_i h
    rw [if_pos h]
    simp only [gpOk, Bool.and_eq_true] at h
    have hm : (gpTo xs m (xs.length - 1))[k] ∈ gpTo xs m (xs.length - 1) := List.getElem_mem hk
    obtain ⟨q, hq⟩ : ∃ q, q = (gpTo xs m (xs.length - 1))[k] := ⟨_, rfl⟩
    rw [← hq] at hm
    unfold gpTo at hm
    rw [List.mem_map] at hm
    obtain ⟨j, hj, e⟩ := hm
    rw [List.mem_filter, List.mem_range] at hj
    obtain ⟨j1, j2⟩ := hj
    have h1 := own_height h.1 (k := j) (by omega)
    have h2 := own_height h.1 (k := j + 1) (by omega)
    have b1 := (gaugeB_at h.1 (k := j) (by omega)).1
    have b2 := (gaugeB_at h.1 (k := j + 1) (by omega)).1
    refine ⟨P1 xs j, P1 xs (j + 1), ?_, h1.1, h2.1, by simpa [gpAt] using j2, by omega, by omega⟩
    rw [List.getElem?_eq_getElem hk, ← hq, ← e]
  · simp at hk
end Go.Proofs.Ytopdnhlolfehcaa
