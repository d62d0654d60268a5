/-
  Contracts of FirstMinuteWith, the program's and the reference's, and the law.
  Conditions: none.
-/
import Derived.Test.YtlkbneklmcefcaaMinWith
namespace Go.Proofs.Ytlkbneklmcefcaa
open Go.ChangeShapes Go.WideShapes Go.ChangeAt Go.RowKit
set_option linter.unusedVariables false

def firstTo (xs : List (Int × Int)) (l f : Int) : Nat → Option Int
  | 0 => none
  | k + 1 => match firstTo xs l f k with
    | some r => some r
    | none => if hasB xs l (f + k) = true then some (f + k) else none
theorem first_none {xs : List (Int × Int)} {l f : Int} : ∀ K : Nat, (∀ j : Nat, j < K → hasB xs l (f + j) = false) → firstTo xs l f K = none
  | 0, _ => rfl
  | K + 1, h => by
    rw [firstTo, first_none K (fun j hj => h j (by omega))]
    simp [h K (by omega)]
theorem first_mono {xs : List (Int × Int)} {l f : Int} {k : Nat} {r : Int} (h : firstTo xs l f k = some r) : ∀ m, k ≤ m → firstTo xs l f m = some r
  | 0, hm => by
    obtain rfl : k = 0 := by omega
    exact h
  | m + 1, hm => by
    by_cases e : k = m + 1
    · subst e; exact h
    · rw [firstTo, first_mono h m (by omega)]
theorem first_some {xs : List (Int × Int)} {l f : Int} {K k : Nat} (hk : k < K) (h0 : ∀ j : Nat, j < k → hasB xs l (f + j) = false) (h : hasB xs l (f + k) = true) : firstTo xs l f K = some (f + k) :=
  first_mono (k := k + 1) (by rw [firstTo, first_none k h0]; simp [h]) _ hk
def fmIn (xs : List (Int × Int)) (l f : Int) : Bool := tideB xs && levB l && timeB f
def fmR (xs : List (Int × Int)) (l f : Int) : Option Int := if fmIn xs l f = true then firstTo xs l f (10001 - f).toNat else none
def fmOk (xs : List (Int × Int)) (l f : Int) : Bool := (fmR xs l f).isSome
def fmV (xs : List (Int × Int)) (l f : Int) : Int := (fmR xs l f).getD 0
theorem fm_out {xs : List (Int × Int)} {l f : Int} (h : fmIn xs l f = false) : fmV xs l f = 0 ∧ fmOk xs l f = false := by simp [fmV, fmOk, fmR, h]
theorem fm_no {xs : List (Int × Int)} {l f : Int} (h : ∀ j : Nat, f + j ≤ 10000 → hasB xs l (f + j) = false) : fmV xs l f = 0 ∧ fmOk xs l f = false := by
  have : fmR xs l f = none := by
    unfold fmR
    split
    · exact first_none _ (fun j hj => h j (by omega))
    · rfl
  simp [fmV, fmOk, this]
theorem fm_yes {xs : List (Int × Int)} {l f : Int} {k : Nat} (hi : fmIn xs l f = true) (hk : f + k ≤ 10000) (h0 : ∀ j : Nat, j < k → hasB xs l (f + j) = false) (h : hasB xs l (f + k) = true) : fmV xs l f = f + k ∧ fmOk xs l f = true := by
  have : fmR xs l f = some (f + k) := by
    rw [fmR, if_pos hi]
    exact first_some (by omega) h0 h
  simp [fmV, fmOk, this]
/-- Behind the last tide there is no level. -/
theorem has_late {xs : List (Int × Int)} {l t : Int} (ha : Asc xs) (h1 : 1 ≤ xs.length) (h : P1 xs (xs.length - 1) < t) : hasB xs l t = false := by
  have : lv xs t = none := lvTo_none _ (fun j hj => by
    by_cases e : j = xs.length - 1
    · subst e; exact h
    · exact Int.lt_trans (ha.lt (xs.length - 1) (by omega) (by omega)) h)
  simp [hasB, lvOk, this]
theorem fmIn_1 {xs : List (Int × Int)} {l f : Int} (h : fmIn xs l f = true) : tideB xs = true ∧ levB l = true ∧ timeB f = true := by
  simp only [fmIn, Bool.and_eq_true] at h
  exact ⟨h.1.1, h.1.2, h.2⟩
theorem firstMinute_yes (v : Value) (xs : List (Int × Int)) (l f : Int) (w : World) (hL : Lies w 2 pairC v xs) (h0 : fmIn xs l f = true) : Calls Try.prog 35 #[v, .int .i64 l, .int .i64 f] w fun e w' => e = .returned (.tuple #[.int .i64 (fmV xs l f), .bool (fmOk xs l f)]) ∧ Kept w w' := by
  have HL := Lib.hid hL
  have H0 := Lib.hid h0
  obtain ⟨h1, h2, h3⟩ := fmIn_1 h0
  have h2' : inB l (-1000) 2000 = true := h2
  have ht := inB_true.1 h3
  obtain ⟨f1, f2⟩ := ht
  have H1 := Lib.hid h1
  have H2 := Lib.hid h2
  obtain ⟨A, c, rfl, hlc, hcm, hA⟩ := hL
  clear hA h0
  go_enter Try.func35, Try.ntmps35
  go_wp2_with (first | (go_at_call 17; (with_reducible refine (isTideCurve_any _ _ _ HL.out).mono ?_); rintro e w' ⟨rfl, hk⟩; (try have hkr := Root.trans (by assumption) hk); (first | (have hkf := From.step (by assumption) hk; obtain ⟨hc, hf⟩ := hkf.cells) | (have hkf := From.start hk; obtain ⟨hc, hf⟩ := hkf.cells))) | (go_at_call 54; (with_reducible refine (inside_any _ _ _ _).mono ?_); rintro e w' ⟨rfl, rfl⟩) | (go_at_call 53; (with_reducible refine (isTime_any _ _).mono ?_); rintro e w' ⟨rfl, rfl⟩))
  clear hc hf hkf
  go_loopw [8] (fun i wr => ∃ k : Nat, f + k ≤ 10001 ∧ i = .int .i64 (f + k) ∧ Kept w wr ∧ ∀ j : Nat, j < k → hasB xs l (f + j) = false) (fun i _ => (10001 - intOf i).toNat)
  case atStart => exact ⟨0, by omega, by simp, by (repeat (first | exact Kept.refl _ | assumption | refine Kept.alloc ?_ _ | refine Kept.drew ?_ | refine Kept.drewN ?_ _ | refine Kept.setCell ?_ (by first | (simp; done) | (simp; omega) | omega | exact Kept.size (by (repeat (first | exact Kept.refl _ | assumption | refine Kept.alloc ?_ _ | refine Kept.drew ?_ | refine Kept.drewN ?_ _ | refine Kept.trans ?_ (by assumption))))) _ | refine Kept.trans ?_ (by assumption))), fun j h => absurd h (by omega)⟩
  case round =>
    obtain ⟨k, hk, rfl, hkw, hall⟩ := hrel
    have HA := Lib.hid hall
    clear hall
    by_cases hlt : f + k ≤ 10000
    · have HT := Lib.hid (timeB_2 (t := f + k) (by omega) (by omega))
      cases h4 : hasB xs l (f + k)
      · have HB := Lib.hid (upto_succ (p := fun j => hasB xs l (f + (j : Nat)) = false) HA.out h4)
        go_wp2_with (go_at_call 67; (with_reducible refine (hasLevel_any _ _ _ _ _ (by exact HL.out.kept (by (repeat (first | exact Kept.refl _ | assumption | refine Kept.alloc ?_ _ | refine Kept.drew ?_ | refine Kept.drewN ?_ _ | refine Kept.setCell ?_ (by first | (simp; done) | (simp; omega) | omega | exact Kept.size (by (repeat (first | exact Kept.refl _ | assumption | refine Kept.alloc ?_ _ | refine Kept.drew ?_ | refine Kept.drewN ?_ _ | refine Kept.trans ?_ (by assumption))))) _ | refine Kept.trans ?_ (by assumption))))) H1.out HT.out H2.out).mono ?_); rintro e w' ⟨rfl, hk⟩; (try have hkr := Root.trans (by assumption) hk); (first | (have hkf := From.step (by assumption) hk; obtain ⟨hc, hf⟩ := hkf.cells) | (have hkf := From.start hk; obtain ⟨hc, hf⟩ := hkf.cells)))
        go_roundw
        case rel => exact ⟨k + 1, by omega, by go_num, by (repeat (first | exact Kept.refl _ | assumption | refine Kept.alloc ?_ _ | refine Kept.drew ?_ | refine Kept.drewN ?_ _ | refine Kept.setCell ?_ (by first | (simp; done) | (simp; omega) | omega | exact Kept.size (by (repeat (first | exact Kept.refl _ | assumption | refine Kept.alloc ?_ _ | refine Kept.drew ?_ | refine Kept.drewN ?_ _ | refine Kept.trans ?_ (by assumption))))) _ | refine Kept.trans ?_ (by assumption))), HB.out⟩
        case measure => simp [intOf]; omega
      · have HV := Lib.hid (fm_yes H0.out hlt HA.out h4)
        go_wp2_with (go_at_call 67; (with_reducible refine (hasLevel_any _ _ _ _ _ (by exact HL.out.kept (by (repeat (first | exact Kept.refl _ | assumption | refine Kept.alloc ?_ _ | refine Kept.drew ?_ | refine Kept.drewN ?_ _ | refine Kept.setCell ?_ (by first | (simp; done) | (simp; omega) | omega | exact Kept.size (by (repeat (first | exact Kept.refl _ | assumption | refine Kept.alloc ?_ _ | refine Kept.drew ?_ | refine Kept.drewN ?_ _ | refine Kept.trans ?_ (by assumption))))) _ | refine Kept.trans ?_ (by assumption))))) H1.out HT.out H2.out).mono ?_); rintro e w' ⟨rfl, hk⟩; (try have hkr := Root.trans (by assumption) hk); (first | (have hkf := From.step (by assumption) hk; obtain ⟨hc, hf⟩ := hkf.cells) | (have hkf := From.start hk; obtain ⟨hc, hf⟩ := hkf.cells)))
        go_ret2
        exact ⟨ret_ib HV.out.1 HV.out.2, by (repeat (first | exact Kept.refl _ | assumption | refine Kept.alloc ?_ _ | refine Kept.drew ?_ | refine Kept.drewN ?_ _ | refine Kept.setCell ?_ (by first | (simp; done) | (simp; omega) | omega | exact Kept.size (by (repeat (first | exact Kept.refl _ | assumption | refine Kept.alloc ?_ _ | refine Kept.drew ?_ | refine Kept.drewN ?_ _ | refine Kept.trans ?_ (by assumption))))) _ | refine Kept.trans ?_ (by assumption)))⟩
    · have HV := Lib.hid (fm_no (xs := xs) (l := l) (f := f) (fun j hj => HA.out j (by omega)))
      go_wp2
      go_ret2
      exact ⟨ret_ib HV.out.1 HV.out.2, by (repeat (first | exact Kept.refl _ | assumption | refine Kept.alloc ?_ _ | refine Kept.drew ?_ | refine Kept.drewN ?_ _ | refine Kept.setCell ?_ (by first | (simp; done) | (simp; omega) | omega | exact Kept.size (by (repeat (first | exact Kept.refl _ | assumption | refine Kept.alloc ?_ _ | refine Kept.drew ?_ | refine Kept.drewN ?_ _ | refine Kept.trans ?_ (by assumption))))) _ | refine Kept.trans ?_ (by assumption)))⟩
theorem sFirstMinute_yes (v : Value) (xs : List (Int × Int)) (l f : Int) (w : World) (hL : Lies w 2 pairC v xs) (h0 : fmIn xs l f = true) : Calls Try.prog 34 #[v, .int .i64 l, .int .i64 f] w fun e w' => e = .returned (.tuple #[.int .i64 (fmV xs l f), .bool (fmOk xs l f)]) ∧ Kept w w' := by
  have HL := Lib.hid hL
  have H0 := Lib.hid h0
  obtain ⟨h1, h2, h3⟩ := fmIn_1 h0
  have h2' : inB l (-1000) 2000 = true := h2
  have ha : askB xs f = true := by simp [askB, h1, h3]
  have ht := inB_true.1 h3
  obtain ⟨f1, f2⟩ := ht
  have H1 := Lib.hid h1
  have H2 := Lib.hid h2
  have hlen := tideB_len h1
  obtain ⟨l1, l2⟩ := hlen
  have HAsc := Lib.hid (tide_asc h1)
  have hlast := (tideB_at h1 (k := xs.length - 1) (by omega)).1
  obtain ⟨b1, b2⟩ := hlast
  obtain ⟨A, c, rfl, hlc, hcm, hA⟩ := lies_pairs hL
  obtain ⟨b, off, rfl, hc⟩ := hA (by omega)
  have c0 := (hc (xs.length - 1) (by omega)).1
  clear hA h0 hc hL
  go_enter Try.func34, Try.ntmps34
  go_wp2_with (first | (go_at_call 57; (with_reducible refine (l4Asked_any _ _ _ _ HL.out).mono ?_); rintro e w' ⟨rfl, hk⟩; (try have hkr := Root.trans (by assumption) hk); (first | (have hkf := From.step (by assumption) hk; obtain ⟨hc, hf⟩ := hkf.cells) | (have hkf := From.start hk; obtain ⟨hc, hf⟩ := hkf.cells))) | (go_at_call 65; (with_reducible refine (l4Height_any _ _).mono ?_); rintro e w' ⟨rfl, rfl⟩))
  clear hc hf hkf
  go_loopw [8] (fun i wr => ∃ k : Nat, f + k ≤ 10001 ∧ i = .int .i64 (f + k) ∧ Kept w wr ∧ ∀ j : Nat, j < k → hasB xs l (f + j) = false) (fun i _ => (10001 - intOf i).toNat)
  case atStart => exact ⟨0, by omega, by simp, by (repeat (first | exact Kept.refl _ | assumption | refine Kept.alloc ?_ _ | refine Kept.drew ?_ | refine Kept.drewN ?_ _ | refine Kept.setCell ?_ (by first | (simp; done) | (simp; omega) | omega | exact Kept.size (by (repeat (first | exact Kept.refl _ | assumption | refine Kept.alloc ?_ _ | refine Kept.drew ?_ | refine Kept.drewN ?_ _ | refine Kept.trans ?_ (by assumption))))) _ | refine Kept.trans ?_ (by assumption))), fun j h => absurd h (by omega)⟩
  case round =>
    obtain ⟨k, hk, rfl, hkw, hall⟩ := hrel
    have HA := Lib.hid hall
    clear hall
    have c1 := hkw.keep c0
    by_cases hlt : f + k ≤ P1 xs (xs.length - 1)
    · have HT := Lib.hid (timeB_2 (t := f + k) (by omega) (by omega))
      cases h4 : hasB xs l (f + k)
      · have HB := Lib.hid (upto_succ (p := fun j => hasB xs l (f + (j : Nat)) = false) HA.out h4)
        go_wp2_with (go_at_call 66; (with_reducible refine (l4Has_any _ _ _ _ _ (by exact HL.out.kept (by (repeat (first | exact Kept.refl _ | assumption | refine Kept.alloc ?_ _ | refine Kept.drew ?_ | refine Kept.drewN ?_ _ | refine Kept.setCell ?_ (by first | (simp; done) | (simp; omega) | omega | exact Kept.size (by (repeat (first | exact Kept.refl _ | assumption | refine Kept.alloc ?_ _ | refine Kept.drew ?_ | refine Kept.drewN ?_ _ | refine Kept.trans ?_ (by assumption))))) _ | refine Kept.trans ?_ (by assumption))))) H1.out HT.out H2.out).mono ?_); rintro e w' ⟨rfl, hk⟩; (try have hkr := Root.trans (by assumption) hk); (first | (have hkf := From.step (by assumption) hk; obtain ⟨hc, hf⟩ := hkf.cells) | (have hkf := From.start hk; obtain ⟨hc, hf⟩ := hkf.cells)))
        go_roundw
        case rel => exact ⟨k + 1, by omega, by go_num, by (repeat (first | exact Kept.refl _ | assumption | refine Kept.alloc ?_ _ | refine Kept.drew ?_ | refine Kept.drewN ?_ _ | refine Kept.setCell ?_ (by first | (simp; done) | (simp; omega) | omega | exact Kept.size (by (repeat (first | exact Kept.refl _ | assumption | refine Kept.alloc ?_ _ | refine Kept.drew ?_ | refine Kept.drewN ?_ _ | refine Kept.trans ?_ (by assumption))))) _ | refine Kept.trans ?_ (by assumption))), HB.out⟩
        case measure => simp [intOf]; omega
      · have HV := Lib.hid (fm_yes H0.out (by omega) HA.out h4)
        go_wp2_with (go_at_call 66; (with_reducible refine (l4Has_any _ _ _ _ _ (by exact HL.out.kept (by (repeat (first | exact Kept.refl _ | assumption | refine Kept.alloc ?_ _ | refine Kept.drew ?_ | refine Kept.drewN ?_ _ | refine Kept.setCell ?_ (by first | (simp; done) | (simp; omega) | omega | exact Kept.size (by (repeat (first | exact Kept.refl _ | assumption | refine Kept.alloc ?_ _ | refine Kept.drew ?_ | refine Kept.drewN ?_ _ | refine Kept.trans ?_ (by assumption))))) _ | refine Kept.trans ?_ (by assumption))))) H1.out HT.out H2.out).mono ?_); rintro e w' ⟨rfl, hk⟩; (try have hkr := Root.trans (by assumption) hk); (first | (have hkf := From.step (by assumption) hk; obtain ⟨hc, hf⟩ := hkf.cells) | (have hkf := From.start hk; obtain ⟨hc, hf⟩ := hkf.cells)))
        go_ret2
        exact ⟨ret_ib HV.out.1 HV.out.2, by (repeat (first | exact Kept.refl _ | assumption | refine Kept.alloc ?_ _ | refine Kept.drew ?_ | refine Kept.drewN ?_ _ | refine Kept.setCell ?_ (by first | (simp; done) | (simp; omega) | omega | exact Kept.size (by (repeat (first | exact Kept.refl _ | assumption | refine Kept.alloc ?_ _ | refine Kept.drew ?_ | refine Kept.drewN ?_ _ | refine Kept.trans ?_ (by assumption))))) _ | refine Kept.trans ?_ (by assumption)))⟩
    · have HV := Lib.hid (fm_no (xs := xs) (l := l) (f := f) (fun j hj => by
        by_cases e : j < k
        · exact HA.out j e
        · exact has_late HAsc.out (by omega) (by omega)))
      go_wp2
      go_ret2
      exact ⟨ret_ib HV.out.1 HV.out.2, by (repeat (first | exact Kept.refl _ | assumption | refine Kept.alloc ?_ _ | refine Kept.drew ?_ | refine Kept.drewN ?_ _ | refine Kept.setCell ?_ (by first | (simp; done) | (simp; omega) | omega | exact Kept.size (by (repeat (first | exact Kept.refl _ | assumption | refine Kept.alloc ?_ _ | refine Kept.drew ?_ | refine Kept.drewN ?_ _ | refine Kept.trans ?_ (by assumption))))) _ | refine Kept.trans ?_ (by assumption)))⟩
theorem firstMinute_any (v : Value) (xs : List (Int × Int)) (l f : Int) (w : World) (hL : Lies w 2 pairC v xs) : Calls Try.prog 35 #[v, .int .i64 l, .int .i64 f] w fun e w' => e = .returned (.tuple #[.int .i64 (fmV xs l f), .bool (fmOk xs l f)]) ∧ Kept w w' := by
  cases h0 : fmIn xs l f
  · have HL := Lib.hid hL
    have HN := Lib.hid (fm_out h0)
    obtain ⟨A, c, rfl, hlc, hcm, hA⟩ := hL
    clear hA
    cases h1 : tideB xs
    · have ha : askB xs f = false := by simp [askB, h1]
      clear h0
      (go_enter Try.func35, Try.ntmps35; go_wp2_with (first | (go_at_call 17; (with_reducible refine (isTideCurve_any _ _ _ HL.out).mono ?_); rintro e w' ⟨rfl, hk⟩; (try have hkr := Root.trans (by assumption) hk); (first | (have hkf := From.step (by assumption) hk; obtain ⟨hc, hf⟩ := hkf.cells) | (have hkf := From.start hk; obtain ⟨hc, hf⟩ := hkf.cells))) | (go_at_call 54; (with_reducible refine (inside_any _ _ _ _).mono ?_); rintro e w' ⟨rfl, rfl⟩) | (go_at_call 53; (with_reducible refine (isTime_any _ _).mono ?_); rintro e w' ⟨rfl, rfl⟩) | (go_at_call 57; (with_reducible refine (l4Asked_any _ _ _ _ HL.out).mono ?_); rintro e w' ⟨rfl, hk⟩; (try have hkr := Root.trans (by assumption) hk); (first | (have hkf := From.step (by assumption) hk; obtain ⟨hc, hf⟩ := hkf.cells) | (have hkf := From.start hk; obtain ⟨hc, hf⟩ := hkf.cells))) | (go_at_call 65; (with_reducible refine (l4Height_any _ _).mono ?_); rintro e w' ⟨rfl, rfl⟩)); (all_goals go_ret2); all_goals exact ⟨ret_ib HN.out.1 HN.out.2, by (repeat (first | exact Kept.refl _ | assumption | refine Kept.alloc ?_ _ | refine Kept.drew ?_ | refine Kept.drewN ?_ _ | refine Kept.setCell ?_ (by first | (simp; done) | (simp; omega) | omega | exact Kept.size (by (repeat (first | exact Kept.refl _ | assumption | refine Kept.alloc ?_ _ | refine Kept.drew ?_ | refine Kept.drewN ?_ _ | refine Kept.trans ?_ (by assumption))))) _ | refine Kept.trans ?_ (by assumption)))⟩)
    · cases h2 : levB l
      · have h2' : inB l (-1000) 2000 = false := h2
        clear h0
        (go_enter Try.func35, Try.ntmps35; go_wp2_with (first | (go_at_call 17; (with_reducible refine (isTideCurve_any _ _ _ HL.out).mono ?_); rintro e w' ⟨rfl, hk⟩; (try have hkr := Root.trans (by assumption) hk); (first | (have hkf := From.step (by assumption) hk; obtain ⟨hc, hf⟩ := hkf.cells) | (have hkf := From.start hk; obtain ⟨hc, hf⟩ := hkf.cells))) | (go_at_call 54; (with_reducible refine (inside_any _ _ _ _).mono ?_); rintro e w' ⟨rfl, rfl⟩) | (go_at_call 53; (with_reducible refine (isTime_any _ _).mono ?_); rintro e w' ⟨rfl, rfl⟩) | (go_at_call 57; (with_reducible refine (l4Asked_any _ _ _ _ HL.out).mono ?_); rintro e w' ⟨rfl, hk⟩; (try have hkr := Root.trans (by assumption) hk); (first | (have hkf := From.step (by assumption) hk; obtain ⟨hc, hf⟩ := hkf.cells) | (have hkf := From.start hk; obtain ⟨hc, hf⟩ := hkf.cells))) | (go_at_call 65; (with_reducible refine (l4Height_any _ _).mono ?_); rintro e w' ⟨rfl, rfl⟩)); (all_goals go_ret2); all_goals exact ⟨ret_ib HN.out.1 HN.out.2, by (repeat (first | exact Kept.refl _ | assumption | refine Kept.alloc ?_ _ | refine Kept.drew ?_ | refine Kept.drewN ?_ _ | refine Kept.setCell ?_ (by first | (simp; done) | (simp; omega) | omega | exact Kept.size (by (repeat (first | exact Kept.refl _ | assumption | refine Kept.alloc ?_ _ | refine Kept.drew ?_ | refine Kept.drewN ?_ _ | refine Kept.trans ?_ (by assumption))))) _ | refine Kept.trans ?_ (by assumption)))⟩)
      · have h3 : timeB f = false := by cases h : timeB f <;> simp [fmIn, h1, h2, h] at h0 ⊢
        have h2' : inB l (-1000) 2000 = true := h2
        have ha : askB xs f = false := by simp [askB, h3]
        clear h0
        (go_enter Try.func35, Try.ntmps35; go_wp2_with (first | (go_at_call 17; (with_reducible refine (isTideCurve_any _ _ _ HL.out).mono ?_); rintro e w' ⟨rfl, hk⟩; (try have hkr := Root.trans (by assumption) hk); (first | (have hkf := From.step (by assumption) hk; obtain ⟨hc, hf⟩ := hkf.cells) | (have hkf := From.start hk; obtain ⟨hc, hf⟩ := hkf.cells))) | (go_at_call 54; (with_reducible refine (inside_any _ _ _ _).mono ?_); rintro e w' ⟨rfl, rfl⟩) | (go_at_call 53; (with_reducible refine (isTime_any _ _).mono ?_); rintro e w' ⟨rfl, rfl⟩) | (go_at_call 57; (with_reducible refine (l4Asked_any _ _ _ _ HL.out).mono ?_); rintro e w' ⟨rfl, hk⟩; (try have hkr := Root.trans (by assumption) hk); (first | (have hkf := From.step (by assumption) hk; obtain ⟨hc, hf⟩ := hkf.cells) | (have hkf := From.start hk; obtain ⟨hc, hf⟩ := hkf.cells))) | (go_at_call 65; (with_reducible refine (l4Height_any _ _).mono ?_); rintro e w' ⟨rfl, rfl⟩)); (all_goals go_ret2); all_goals exact ⟨ret_ib HN.out.1 HN.out.2, by (repeat (first | exact Kept.refl _ | assumption | refine Kept.alloc ?_ _ | refine Kept.drew ?_ | refine Kept.drewN ?_ _ | refine Kept.setCell ?_ (by first | (simp; done) | (simp; omega) | omega | exact Kept.size (by (repeat (first | exact Kept.refl _ | assumption | refine Kept.alloc ?_ _ | refine Kept.drew ?_ | refine Kept.drewN ?_ _ | refine Kept.trans ?_ (by assumption))))) _ | refine Kept.trans ?_ (by assumption)))⟩)
  · exact firstMinute_yes v xs l f w hL h0
theorem sFirstMinute_any (v : Value) (xs : List (Int × Int)) (l f : Int) (w : World) (hL : Lies w 2 pairC v xs) : Calls Try.prog 34 #[v, .int .i64 l, .int .i64 f] w fun e w' => e = .returned (.tuple #[.int .i64 (fmV xs l f), .bool (fmOk xs l f)]) ∧ Kept w w' := by
  cases h0 : fmIn xs l f
  · have HL := Lib.hid hL
    have HN := Lib.hid (fm_out h0)
    obtain ⟨A, c, rfl, hlc, hcm, hA⟩ := hL
    clear hA
    cases h1 : tideB xs
    · have ha : askB xs f = false := by simp [askB, h1]
      clear h0
      (go_enter Try.func34, Try.ntmps34; go_wp2_with (first | (go_at_call 17; (with_reducible refine (isTideCurve_any _ _ _ HL.out).mono ?_); rintro e w' ⟨rfl, hk⟩; (try have hkr := Root.trans (by assumption) hk); (first | (have hkf := From.step (by assumption) hk; obtain ⟨hc, hf⟩ := hkf.cells) | (have hkf := From.start hk; obtain ⟨hc, hf⟩ := hkf.cells))) | (go_at_call 54; (with_reducible refine (inside_any _ _ _ _).mono ?_); rintro e w' ⟨rfl, rfl⟩) | (go_at_call 53; (with_reducible refine (isTime_any _ _).mono ?_); rintro e w' ⟨rfl, rfl⟩) | (go_at_call 57; (with_reducible refine (l4Asked_any _ _ _ _ HL.out).mono ?_); rintro e w' ⟨rfl, hk⟩; (try have hkr := Root.trans (by assumption) hk); (first | (have hkf := From.step (by assumption) hk; obtain ⟨hc, hf⟩ := hkf.cells) | (have hkf := From.start hk; obtain ⟨hc, hf⟩ := hkf.cells))) | (go_at_call 65; (with_reducible refine (l4Height_any _ _).mono ?_); rintro e w' ⟨rfl, rfl⟩)); (all_goals go_ret2); all_goals exact ⟨ret_ib HN.out.1 HN.out.2, by (repeat (first | exact Kept.refl _ | assumption | refine Kept.alloc ?_ _ | refine Kept.drew ?_ | refine Kept.drewN ?_ _ | refine Kept.setCell ?_ (by first | (simp; done) | (simp; omega) | omega | exact Kept.size (by (repeat (first | exact Kept.refl _ | assumption | refine Kept.alloc ?_ _ | refine Kept.drew ?_ | refine Kept.drewN ?_ _ | refine Kept.trans ?_ (by assumption))))) _ | refine Kept.trans ?_ (by assumption)))⟩)
    · cases h2 : levB l
      · have h2' : inB l (-1000) 2000 = false := h2
        clear h0
        (go_enter Try.func34, Try.ntmps34; go_wp2_with (first | (go_at_call 17; (with_reducible refine (isTideCurve_any _ _ _ HL.out).mono ?_); rintro e w' ⟨rfl, hk⟩; (try have hkr := Root.trans (by assumption) hk); (first | (have hkf := From.step (by assumption) hk; obtain ⟨hc, hf⟩ := hkf.cells) | (have hkf := From.start hk; obtain ⟨hc, hf⟩ := hkf.cells))) | (go_at_call 54; (with_reducible refine (inside_any _ _ _ _).mono ?_); rintro e w' ⟨rfl, rfl⟩) | (go_at_call 53; (with_reducible refine (isTime_any _ _).mono ?_); rintro e w' ⟨rfl, rfl⟩) | (go_at_call 57; (with_reducible refine (l4Asked_any _ _ _ _ HL.out).mono ?_); rintro e w' ⟨rfl, hk⟩; (try have hkr := Root.trans (by assumption) hk); (first | (have hkf := From.step (by assumption) hk; obtain ⟨hc, hf⟩ := hkf.cells) | (have hkf := From.start hk; obtain ⟨hc, hf⟩ := hkf.cells))) | (go_at_call 65; (with_reducible refine (l4Height_any _ _).mono ?_); rintro e w' ⟨rfl, rfl⟩)); (all_goals go_ret2); all_goals exact ⟨ret_ib HN.out.1 HN.out.2, by (repeat (first | exact Kept.refl _ | assumption | refine Kept.alloc ?_ _ | refine Kept.drew ?_ | refine Kept.drewN ?_ _ | refine Kept.setCell ?_ (by first | (simp; done) | (simp; omega) | omega | exact Kept.size (by (repeat (first | exact Kept.refl _ | assumption | refine Kept.alloc ?_ _ | refine Kept.drew ?_ | refine Kept.drewN ?_ _ | refine Kept.trans ?_ (by assumption))))) _ | refine Kept.trans ?_ (by assumption)))⟩)
      · have h3 : timeB f = false := by cases h : timeB f <;> simp [fmIn, h1, h2, h] at h0 ⊢
        have h2' : inB l (-1000) 2000 = true := h2
        have ha : askB xs f = false := by simp [askB, h3]
        clear h0
        (go_enter Try.func34, Try.ntmps34; go_wp2_with (first | (go_at_call 17; (with_reducible refine (isTideCurve_any _ _ _ HL.out).mono ?_); rintro e w' ⟨rfl, hk⟩; (try have hkr := Root.trans (by assumption) hk); (first | (have hkf := From.step (by assumption) hk; obtain ⟨hc, hf⟩ := hkf.cells) | (have hkf := From.start hk; obtain ⟨hc, hf⟩ := hkf.cells))) | (go_at_call 54; (with_reducible refine (inside_any _ _ _ _).mono ?_); rintro e w' ⟨rfl, rfl⟩) | (go_at_call 53; (with_reducible refine (isTime_any _ _).mono ?_); rintro e w' ⟨rfl, rfl⟩) | (go_at_call 57; (with_reducible refine (l4Asked_any _ _ _ _ HL.out).mono ?_); rintro e w' ⟨rfl, hk⟩; (try have hkr := Root.trans (by assumption) hk); (first | (have hkf := From.step (by assumption) hk; obtain ⟨hc, hf⟩ := hkf.cells) | (have hkf := From.start hk; obtain ⟨hc, hf⟩ := hkf.cells))) | (go_at_call 65; (with_reducible refine (l4Height_any _ _).mono ?_); rintro e w' ⟨rfl, rfl⟩)); (all_goals go_ret2); all_goals exact ⟨ret_ib HN.out.1 HN.out.2, by (repeat (first | exact Kept.refl _ | assumption | refine Kept.alloc ?_ _ | refine Kept.drew ?_ | refine Kept.drewN ?_ _ | refine Kept.setCell ?_ (by first | (simp; done) | (simp; omega) | omega | exact Kept.size (by (repeat (first | exact Kept.refl _ | assumption | refine Kept.alloc ?_ _ | refine Kept.drew ?_ | refine Kept.drewN ?_ _ | refine Kept.trans ?_ (by assumption))))) _ | refine Kept.trans ?_ (by assumption)))⟩)
  · exact sFirstMinute_yes v xs l f w hL h0
theorem lawFirstMinuteWith (v : Value) (xs : List (Int × Int)) (l f : Int) (w : World) (hL : Lies w 2 pairC v xs) : Calls Try.prog 9 #[v, .int .i64 l, .int .i64 f] w fun e w' => e = .returned (.bool true) ∧ Kept w w' := by
  have HL := Lib.hid hL
  by_cases hn : xs.length ≤ 1048576
  · obtain ⟨A, c, rfl, hlc, hcm, hA⟩ := hL
    clear hA
    go_enter Try.func9, Try.ntmps9
    go_wp2_with (first | (go_at_call 14; (with_reducible refine (szTideS_ok _ _ _ HL.out hn).mono ?_); rintro e w' ⟨rfl, rfl⟩) | (go_at_call 16; refine (toTideS_any _ _ _ (by exact HL.out.kept (by (repeat (first | exact Kept.refl _ | assumption | refine Kept.alloc ?_ _ | refine Kept.drew ?_ | refine Kept.drewN ?_ _ | refine Kept.setCell ?_ (by first | (simp; done) | (simp; omega) | omega | exact Kept.size (by (repeat (first | exact Kept.refl _ | assumption | refine Kept.alloc ?_ _ | refine Kept.drew ?_ | refine Kept.drewN ?_ _ | refine Kept.trans ?_ (by assumption))))) _ | refine Kept.trans ?_ (by assumption))))) hn).mono ?_; rintro e w1 ⟨u1, rfl, hu1, hk⟩; (try have hkr := Root.trans (by assumption) hk); (first | have hl1 := pairs_own hu1 | have hl1 := crafts_own hu1); clear hu1) | (go_at_call 34; (with_reducible refine (sFirstMinute_any _ _ _ _ _ (by first | assumption | exact Lies.kept (by assumption) (by (repeat (first | exact Kept.refl _ | assumption | refine Kept.alloc ?_ _ | refine Kept.drew ?_ | refine Kept.drewN ?_ _ | refine Kept.setCell ?_ (by first | (simp; done) | (simp; omega) | omega | exact Kept.size (by (repeat (first | exact Kept.refl _ | assumption | refine Kept.alloc ?_ _ | refine Kept.drew ?_ | refine Kept.drewN ?_ _ | refine Kept.trans ?_ (by assumption))))) _ | refine Kept.trans ?_ (by assumption)))))).mono ?_); rintro e w' ⟨rfl, hk⟩; (try have hkr := Root.trans (by assumption) hk); (first | (have hkf := From.step (by assumption) hk; obtain ⟨hc, hf⟩ := hkf.cells) | (have hkf := From.start hk; obtain ⟨hc, hf⟩ := hkf.cells))) | (go_at_call 35; (with_reducible refine (firstMinute_any _ _ _ _ _ (by first | assumption | exact Lies.kept (by assumption) (by (repeat (first | exact Kept.refl _ | assumption | refine Kept.alloc ?_ _ | refine Kept.drew ?_ | refine Kept.drewN ?_ _ | refine Kept.setCell ?_ (by first | (simp; done) | (simp; omega) | omega | exact Kept.size (by (repeat (first | exact Kept.refl _ | assumption | refine Kept.alloc ?_ _ | refine Kept.drew ?_ | refine Kept.drewN ?_ _ | refine Kept.trans ?_ (by assumption))))) _ | refine Kept.trans ?_ (by assumption)))))).mono ?_); rintro e w' ⟨rfl, hk⟩; (try have hkr := Root.trans (by assumption) hk); (first | (have hkf := From.step (by assumption) hk; obtain ⟨hc, hf⟩ := hkf.cells) | (have hkf := From.start hk; obtain ⟨hc, hf⟩ := hkf.cells))) | (go_at_call 18; (with_reducible refine (eqTideS_any _ _ _ _ (by first | assumption | exact Lies.kept (by assumption) (by (repeat (first | exact Kept.refl _ | assumption | refine Kept.alloc ?_ _ | refine Kept.drew ?_ | refine Kept.drewN ?_ _ | refine Kept.setCell ?_ (by first | (simp; done) | (simp; omega) | omega | exact Kept.size (by (repeat (first | exact Kept.refl _ | assumption | refine Kept.alloc ?_ _ | refine Kept.drew ?_ | refine Kept.drewN ?_ _ | refine Kept.trans ?_ (by assumption))))) _ | refine Kept.trans ?_ (by assumption))))) (by first | assumption | exact Lies.kept (by assumption) (by (repeat (first | exact Kept.refl _ | assumption | refine Kept.alloc ?_ _ | refine Kept.drew ?_ | refine Kept.drewN ?_ _ | refine Kept.setCell ?_ (by first | (simp; done) | (simp; omega) | omega | exact Kept.size (by (repeat (first | exact Kept.refl _ | assumption | refine Kept.alloc ?_ _ | refine Kept.drew ?_ | refine Kept.drewN ?_ _ | refine Kept.trans ?_ (by assumption))))) _ | refine Kept.trans ?_ (by assumption)))))).mono ?_); rintro e w' ⟨rfl, hk⟩; (try have hkr := Root.trans (by assumption) hk); (first | (have hkf := From.step (by assumption) hk; obtain ⟨hc, hf⟩ := hkf.cells) | (have hkf := From.start hk; obtain ⟨hc, hf⟩ := hkf.cells))))
    go_ret
    exact ⟨rfl, by (repeat (first | exact Kept.refl _ | assumption | refine Kept.alloc ?_ _ | refine Kept.drew ?_ | refine Kept.drewN ?_ _ | refine Kept.setCell ?_ (by first | (simp; done) | (simp; omega) | omega | exact Kept.size (by (repeat (first | exact Kept.refl _ | assumption | refine Kept.alloc ?_ _ | refine Kept.drew ?_ | refine Kept.drewN ?_ _ | refine Kept.trans ?_ (by assumption))))) _ | refine Kept.trans ?_ (by assumption)))⟩
  · obtain ⟨A, c, rfl, hlc, hcm, hA⟩ := hL
    clear hA
    go_enter Try.func9, Try.ntmps9
    go_wp2_with (go_at_call 14; (with_reducible refine (szTideS_no _ _ _ HL.out (by omega)).mono ?_); rintro e w' ⟨rfl, rfl⟩)
    go_ret
    exact ⟨rfl, by (repeat (first | exact Kept.refl _ | assumption | refine Kept.alloc ?_ _ | refine Kept.drew ?_ | refine Kept.drewN ?_ _ | refine Kept.setCell ?_ (by first | (simp; done) | (simp; omega) | omega | exact Kept.size (by (repeat (first | exact Kept.refl _ | assumption | refine Kept.alloc ?_ _ | refine Kept.drew ?_ | refine Kept.drewN ?_ _ | refine Kept.trans ?_ (by assumption))))) _ | refine Kept.trans ?_ (by assumption)))⟩
end Go.Proofs.Ytlkbneklmcefcaa
