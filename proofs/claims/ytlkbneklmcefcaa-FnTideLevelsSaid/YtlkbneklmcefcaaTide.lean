/-
  Contracts of IsTideCurve and of the small functions over times and levels.
  Conditions: none.
-/
import Derived.Test.YtlkbneklmcefcaaPairs
namespace Go.Proofs.Ytlkbneklmcefcaa
open Go.ChangeShapes Go.WideShapes Go.ChangeAt Go.RowKit
set_option linter.unusedVariables false

theorem flipw {P : Program} {f : FuncId} {args : Array Value} {w : World} {v : Ending} (h : Calls P f args w fun e w' => e = v ∧ w = w') : Calls P f args w fun e w' => e = v ∧ w' = w := h.mono fun _ _ ⟨a, b⟩ => ⟨a, b.symm⟩
def timeB (t : Int) : Bool := inB t 0 10000
def levB (t : Int) : Bool := inB t (-1000) 2000
theorem isTime_any (t : Int) (w : World) : Calls Try.prog 53 #[.int .i64 t] w fun e w' => e = .returned (.bool (timeB t)) ∧ w = w' := by
  go_enter Try.func53, Try.ntmps53
  go_wp2_with (go_at_call 54; (with_reducible refine (inside_any _ _ _ _).mono ?_); rintro e w' ⟨rfl, rfl⟩)
  go_ret
  exact ⟨rfl, rfl⟩
theorem l2Time_any (t : Int) (w : World) : Calls Try.prog 76 #[.int .i64 t] w fun e w' => e = .returned (.bool (timeB t)) ∧ w = w' := by
  go_enter Try.func76, Try.ntmps76
  go_wp2_with (go_at_call 56; (with_reducible refine (l1In_any _ _ _ _).mono ?_); rintro e w' ⟨rfl, rfl⟩)
  go_ret
  exact ⟨rfl, rfl⟩
theorem l4Height_any (t : Int) (w : World) : Calls Try.prog 65 #[.int .i64 t] w fun e w' => e = .returned (.bool (levB t)) ∧ w = w' := by
  go_enter Try.func65, Try.ntmps65
  go_wp2_with (go_at_call 56; (with_reducible refine (l1In_any _ _ _ _).mono ?_); rintro e w' ⟨rfl, rfl⟩)
  go_ret
  exact ⟨rfl, rfl⟩
def tideAt (xs : List (Int × Int)) (i : Nat) : Bool := timeB (P1 xs i) && levB (P2 xs i) && decide (i = 0 ∨ P1 xs (i - 1) < P1 xs i)
def tideB (xs : List (Int × Int)) : Bool := allB xs.length (tideAt xs) && inB xs.length 1 12
theorem tideB_all {xs : List (Int × Int)} (h : ∀ i, i < xs.length → tideAt xs i = true) : tideB xs = inB xs.length 1 12 := by simp [tideB, allB_true h]
theorem tideB_no {xs : List (Int × Int)} {k : Nat} (hk : k < xs.length) (h : tideAt xs k = false) : tideB xs = false := by simp [tideB, allB_false hk h]

theorem isTideCurve_any (v : Value) (xs : List (Int × Int)) (w : World) (hL : Lies w 2 pairC v xs) : Calls Try.prog 17 #[v] w fun e w' => e = .returned (.bool (tideB xs)) ∧ Kept w w' := by
  have hm := hL.len
  unfold maxLen at hm
  obtain ⟨A, c, rfl, hlc, hcm, hA⟩ := lies_pairs hL
  clear hL
  go_enter Try.func17, Try.ntmps17
  go_wp2
  go_loopw [7] (fun i wr => ∃ k : Nat, k ≤ xs.length ∧ i = .int .i64 k ∧ Kept w wr ∧ ∀ i, i < k → tideAt xs i = true) (fun i _ => xs.length - (intOf i).toNat)
  case atStart => exact ⟨0, Nat.zero_le _, rfl, Kept.refl _, fun i h => absurd h (by omega)⟩
  case round =>
    obtain ⟨k, hk, rfl, hkw, hall⟩ := hrel
    have HA := Lib.hid hall
    clear hall
    by_cases hlt : k < xs.length
    · obtain ⟨b, off, rfl, hc⟩ := hA (by omega)
      have c0 := hkw.keep (hc k hlt).1
      have c1 := hkw.keep (hc k hlt).2
      have HC := Lib.hid hc
      clear hc hA
      cases h1 : timeB (P1 xs k)
      · have HN := Lib.hid (tideB_no hlt (show tideAt xs k = false by simp [tideAt, h1]))
        go_wp2_with fail
        go_quiet ((first | (go_at_call 53; exact Calls.quiet_of_same (flipw (isTime_any _ _))) | (go_at_call 54; exact Calls.quiet_of_same (flipw (inside_any _ _ _ _)))))
        go_wp2
        go_ret
        exact ⟨ret_bool HN.out.symm, by (repeat (first | exact Kept.refl _ | assumption | refine Kept.alloc ?_ _ | refine Kept.drew ?_ | refine Kept.drewN ?_ _ | refine Kept.setCell ?_ (by first | (simp; done) | (simp; omega) | omega | exact Kept.size (by (repeat (first | exact Kept.refl _ | assumption | refine Kept.alloc ?_ _ | refine Kept.drew ?_ | refine Kept.drewN ?_ _ | refine Kept.trans ?_ (by assumption))))) _ | refine Kept.trans ?_ (by assumption)))⟩
      · cases h2 : levB (P2 xs k)
        · have HN := Lib.hid (tideB_no hlt (show tideAt xs k = false by simp [tideAt, h1, h2]))
          have h2' : inB (P2 xs k) (-1000) 2000 = false := h2
          go_wp2_with fail
          go_quiet ((first | (go_at_call 53; exact Calls.quiet_of_same (flipw (isTime_any _ _))) | (go_at_call 54; exact Calls.quiet_of_same (flipw (inside_any _ _ _ _)))))
          go_wp2
          go_ret
          exact ⟨ret_bool HN.out.symm, by (repeat (first | exact Kept.refl _ | assumption | refine Kept.alloc ?_ _ | refine Kept.drew ?_ | refine Kept.drewN ?_ _ | refine Kept.setCell ?_ (by first | (simp; done) | (simp; omega) | omega | exact Kept.size (by (repeat (first | exact Kept.refl _ | assumption | refine Kept.alloc ?_ _ | refine Kept.drew ?_ | refine Kept.drewN ?_ _ | refine Kept.trans ?_ (by assumption))))) _ | refine Kept.trans ?_ (by assumption)))⟩
        · have h2' : inB (P2 xs k) (-1000) 2000 = true := h2
          by_cases h3 : k = 0
          · subst h3
            simp only [Nat.zero_mul, Nat.add_zero] at c0 c1
            have HB := Lib.hid (upto_succ (p := fun i => tideAt xs i = true) HA.out (show tideAt xs 0 = true by simp [tideAt, h1, h2]))
            go_wp2_with fail
            go_quiet ((first | (go_at_call 53; exact Calls.quiet_of_same (flipw (isTime_any _ _))) | (go_at_call 54; exact Calls.quiet_of_same (flipw (inside_any _ _ _ _)))))
            go_wp2
            go_roundw
            case rel => exact ⟨1, by omega, by go_num, by (repeat (first | exact Kept.refl _ | assumption | refine Kept.alloc ?_ _ | refine Kept.drew ?_ | refine Kept.drewN ?_ _ | refine Kept.setCell ?_ (by first | (simp; done) | (simp; omega) | omega | exact Kept.size (by (repeat (first | exact Kept.refl _ | assumption | refine Kept.alloc ?_ _ | refine Kept.drew ?_ | refine Kept.drewN ?_ _ | refine Kept.trans ?_ (by assumption))))) _ | refine Kept.trans ?_ (by assumption))), HB.out⟩
            case measure => simp [intOf]; omega
          · have d0 := hkw.keep (HC.out (k - 1) (by omega)).1
            have d0' : ∀ o : Obj, (wr.alloc o).cell? ⟨b, off + (k - 1) * 2, none⟩ = some (.int .i64 (P1 xs (k - 1))) := fun o => (Kept.alloc (Kept.refl _) o).keep d0
            have k0 : (0 : Int) < (k : Int) := by omega
            have k0' : (1 : Int) ≤ (k : Int) := by omega
            have kN : 0 < k := by omega
            have j0 : (0 : Int) ≤ (k : Int) - 1 := by omega
            have j1 : (k : Int) - 1 < (xs.length : Int) := by omega
            have k2 : (k : Int) < (xs.length : Int) := by omega
            by_cases h4 : P1 xs (k - 1) < P1 xs k
            · have HB := Lib.hid (upto_succ (p := fun i => tideAt xs i = true) HA.out (show tideAt xs k = true by simp [tideAt, h1, h2, h4]))
              go_wp2_with fail
              have ew : IntKind.i64.wrap ((k : Int) - 1) = (k : Int) - 1 := IntWalk.i64_in _ (by omega)
              go_quiet ((first | (go_at_call 53; exact Calls.quiet_of_same (flipw (isTime_any _ _))) | (go_at_call 54; exact Calls.quiet_of_same (flipw (inside_any _ _ _ _)))))
              clear ew
              go_wp2
              go_roundw
              case rel => exact ⟨k + 1, by omega, by go_num, by (repeat (first | exact Kept.refl _ | assumption | refine Kept.alloc ?_ _ | refine Kept.drew ?_ | refine Kept.drewN ?_ _ | refine Kept.setCell ?_ (by first | (simp; done) | (simp; omega) | omega | exact Kept.size (by (repeat (first | exact Kept.refl _ | assumption | refine Kept.alloc ?_ _ | refine Kept.drew ?_ | refine Kept.drewN ?_ _ | refine Kept.trans ?_ (by assumption))))) _ | refine Kept.trans ?_ (by assumption))), HB.out⟩
              case measure => simp [intOf]; omega
            · have HN := Lib.hid (tideB_no hlt (show tideAt xs k = false by simp [tideAt, h3]; omega))
              have h5 : P1 xs k ≤ P1 xs (k - 1) := by omega
              go_wp2_with fail
              have ew : IntKind.i64.wrap ((k : Int) - 1) = (k : Int) - 1 := IntWalk.i64_in _ (by omega)
              go_quiet ((first | (go_at_call 53; exact Calls.quiet_of_same (flipw (isTime_any _ _))) | (go_at_call 54; exact Calls.quiet_of_same (flipw (inside_any _ _ _ _)))))
              clear ew
              go_wp2
              go_ret
              exact ⟨ret_bool HN.out.symm, by (repeat (first | exact Kept.refl _ | assumption | refine Kept.alloc ?_ _ | refine Kept.drew ?_ | refine Kept.drewN ?_ _ | refine Kept.setCell ?_ (by first | (simp; done) | (simp; omega) | omega | exact Kept.size (by (repeat (first | exact Kept.refl _ | assumption | refine Kept.alloc ?_ _ | refine Kept.drew ?_ | refine Kept.drewN ?_ _ | refine Kept.trans ?_ (by assumption))))) _ | refine Kept.trans ?_ (by assumption)))⟩
    · have e : k = xs.length := by omega
      have HF := Lib.hid (tideB_all (fun i hi => HA.out i (by omega)))
      clear e
      go_wp2_with (go_at_call 54; (with_reducible refine (inside_any _ _ _ _).mono ?_); rintro e w' ⟨rfl, rfl⟩)
      go_ret
      exact ⟨ret_bool HF.out.symm, by (repeat (first | exact Kept.refl _ | assumption | refine Kept.alloc ?_ _ | refine Kept.drew ?_ | refine Kept.drewN ?_ _ | refine Kept.setCell ?_ (by first | (simp; done) | (simp; omega) | omega | exact Kept.size (by (repeat (first | exact Kept.refl _ | assumption | refine Kept.alloc ?_ _ | refine Kept.drew ?_ | refine Kept.drewN ?_ _ | refine Kept.trans ?_ (by assumption))))) _ | refine Kept.trans ?_ (by assumption)))⟩
theorem l4Good_any (v : Value) (xs : List (Int × Int)) (w : World) (hL : Lies w 2 pairC v xs) : Calls Try.prog 51 #[v] w fun e w' => e = .returned (.bool (tideB xs)) ∧ Kept w w' := by
  have hm := hL.len
  unfold maxLen at hm
  obtain ⟨A, c, rfl, hlc, hcm, hA⟩ := lies_pairs hL
  clear hL
  go_enter Try.func51, Try.ntmps51
  go_wp2
  go_loopw [3] (fun i wr => ∃ k : Nat, k ≤ xs.length ∧ i = .int .i64 k ∧ Kept w wr ∧ ∀ i, i < k → tideAt xs i = true) (fun i _ => xs.length - (intOf i).toNat)
  case atStart => exact ⟨0, Nat.zero_le _, rfl, Kept.refl _, fun i h => absurd h (by omega)⟩
  case round =>
    obtain ⟨k, hk, rfl, hkw, hall⟩ := hrel
    have HA := Lib.hid hall
    clear hall
    by_cases hlt : k < xs.length
    · obtain ⟨b, off, rfl, hc⟩ := hA (by omega)
      have c0 := hkw.keep (hc k hlt).1
      have c1 := hkw.keep (hc k hlt).2
      have HC := Lib.hid hc
      clear hc hA
      cases h1 : timeB (P1 xs k)
      · have HN := Lib.hid (tideB_no hlt (show tideAt xs k = false by simp [tideAt, h1]))
        go_wp2_with fail
        go_quiet ((first | (go_at_call 76; exact Calls.quiet_of_same (flipw (l2Time_any _ _))) | (go_at_call 65; exact Calls.quiet_of_same (flipw (l4Height_any _ _)))))
        go_wp2
        go_ret
        exact ⟨ret_bool HN.out.symm, by (repeat (first | exact Kept.refl _ | assumption | refine Kept.alloc ?_ _ | refine Kept.drew ?_ | refine Kept.drewN ?_ _ | refine Kept.setCell ?_ (by first | (simp; done) | (simp; omega) | omega | exact Kept.size (by (repeat (first | exact Kept.refl _ | assumption | refine Kept.alloc ?_ _ | refine Kept.drew ?_ | refine Kept.drewN ?_ _ | refine Kept.trans ?_ (by assumption))))) _ | refine Kept.trans ?_ (by assumption)))⟩
      · cases h2 : levB (P2 xs k)
        · have HN := Lib.hid (tideB_no hlt (show tideAt xs k = false by simp [tideAt, h1, h2]))
          go_wp2_with fail
          go_quiet ((first | (go_at_call 76; exact Calls.quiet_of_same (flipw (l2Time_any _ _))) | (go_at_call 65; exact Calls.quiet_of_same (flipw (l4Height_any _ _)))))
          go_wp2
          go_ret
          exact ⟨ret_bool HN.out.symm, by (repeat (first | exact Kept.refl _ | assumption | refine Kept.alloc ?_ _ | refine Kept.drew ?_ | refine Kept.drewN ?_ _ | refine Kept.setCell ?_ (by first | (simp; done) | (simp; omega) | omega | exact Kept.size (by (repeat (first | exact Kept.refl _ | assumption | refine Kept.alloc ?_ _ | refine Kept.drew ?_ | refine Kept.drewN ?_ _ | refine Kept.trans ?_ (by assumption))))) _ | refine Kept.trans ?_ (by assumption)))⟩
        · have h2' : inB (P2 xs k) (-1000) 2000 = true := h2
          by_cases h3 : k = 0
          · subst h3
            simp only [Nat.zero_mul, Nat.add_zero] at c0 c1
            have HB := Lib.hid (upto_succ (p := fun i => tideAt xs i = true) HA.out (show tideAt xs 0 = true by simp [tideAt, h1, h2]))
            go_wp2_with fail
            go_quiet ((first | (go_at_call 76; exact Calls.quiet_of_same (flipw (l2Time_any _ _))) | (go_at_call 65; exact Calls.quiet_of_same (flipw (l4Height_any _ _)))))
            go_wp2
            go_roundw
            case rel => exact ⟨1, by omega, by go_num, by (repeat (first | exact Kept.refl _ | assumption | refine Kept.alloc ?_ _ | refine Kept.drew ?_ | refine Kept.drewN ?_ _ | refine Kept.setCell ?_ (by first | (simp; done) | (simp; omega) | omega | exact Kept.size (by (repeat (first | exact Kept.refl _ | assumption | refine Kept.alloc ?_ _ | refine Kept.drew ?_ | refine Kept.drewN ?_ _ | refine Kept.trans ?_ (by assumption))))) _ | refine Kept.trans ?_ (by assumption))), HB.out⟩
            case measure => simp [intOf]; omega
          · have d0 := hkw.keep (HC.out (k - 1) (by omega)).1
            have d0' : ∀ o : Obj, (wr.alloc o).cell? ⟨b, off + (k - 1) * 2, none⟩ = some (.int .i64 (P1 xs (k - 1))) := fun o => (Kept.alloc (Kept.refl _) o).keep d0
            have k0 : (0 : Int) < (k : Int) := by omega
            have k0' : (1 : Int) ≤ (k : Int) := by omega
            have kN : 0 < k := by omega
            have j0 : (0 : Int) ≤ (k : Int) - 1 := by omega
            have j1 : (k : Int) - 1 < (xs.length : Int) := by omega
            have k2 : (k : Int) < (xs.length : Int) := by omega
            by_cases h4 : P1 xs (k - 1) < P1 xs k
            · have HB := Lib.hid (upto_succ (p := fun i => tideAt xs i = true) HA.out (show tideAt xs k = true by simp [tideAt, h1, h2, h4]))
              go_wp2_with fail
              go_quiet ((first | (go_at_call 76; exact Calls.quiet_of_same (flipw (l2Time_any _ _))) | (go_at_call 65; exact Calls.quiet_of_same (flipw (l4Height_any _ _)))))
              go_wp2
              go_roundw
              case rel => exact ⟨k + 1, by omega, by go_num, by (repeat (first | exact Kept.refl _ | assumption | refine Kept.alloc ?_ _ | refine Kept.drew ?_ | refine Kept.drewN ?_ _ | refine Kept.setCell ?_ (by first | (simp; done) | (simp; omega) | omega | exact Kept.size (by (repeat (first | exact Kept.refl _ | assumption | refine Kept.alloc ?_ _ | refine Kept.drew ?_ | refine Kept.drewN ?_ _ | refine Kept.trans ?_ (by assumption))))) _ | refine Kept.trans ?_ (by assumption))), HB.out⟩
              case measure => simp [intOf]; omega
            · have HN := Lib.hid (tideB_no hlt (show tideAt xs k = false by simp [tideAt, h3]; omega))
              have h5 : P1 xs k ≤ P1 xs (k - 1) := by omega
              go_wp2_with fail
              go_quiet ((first | (go_at_call 76; exact Calls.quiet_of_same (flipw (l2Time_any _ _))) | (go_at_call 65; exact Calls.quiet_of_same (flipw (l4Height_any _ _)))))
              go_wp2
              go_ret
              exact ⟨ret_bool HN.out.symm, by (repeat (first | exact Kept.refl _ | assumption | refine Kept.alloc ?_ _ | refine Kept.drew ?_ | refine Kept.drewN ?_ _ | refine Kept.setCell ?_ (by first | (simp; done) | (simp; omega) | omega | exact Kept.size (by (repeat (first | exact Kept.refl _ | assumption | refine Kept.alloc ?_ _ | refine Kept.drew ?_ | refine Kept.drewN ?_ _ | refine Kept.trans ?_ (by assumption))))) _ | refine Kept.trans ?_ (by assumption)))⟩
    · have e : k = xs.length := by omega
      have HF := Lib.hid (tideB_all (fun i hi => HA.out i (by omega)))
      clear e
      go_wp2_with (go_at_call 56; (with_reducible refine (l1In_any _ _ _ _).mono ?_); rintro e w' ⟨rfl, rfl⟩)
      go_ret
      exact ⟨ret_bool HF.out.symm, by (repeat (first | exact Kept.refl _ | assumption | refine Kept.alloc ?_ _ | refine Kept.drew ?_ | refine Kept.drewN ?_ _ | refine Kept.setCell ?_ (by first | (simp; done) | (simp; omega) | omega | exact Kept.size (by (repeat (first | exact Kept.refl _ | assumption | refine Kept.alloc ?_ _ | refine Kept.drew ?_ | refine Kept.drewN ?_ _ | refine Kept.trans ?_ (by assumption))))) _ | refine Kept.trans ?_ (by assumption)))⟩
theorem sIsTideCurve_any (v : Value) (xs : List (Int × Int)) (w : World) (hL : Lies w 2 pairC v xs) : Calls Try.prog 15 #[v] w fun e w' => e = .returned (.bool (tideB xs)) ∧ Kept w w' := by
  have HL := Lib.hid hL
  obtain ⟨A, c, rfl, hlc, hcm, hA⟩ := hL
  go_enter Try.func15, Try.ntmps15
  go_wp2_with (go_at_call 51; (with_reducible refine (l4Good_any _ _ _ HL.out).mono ?_); rintro e w' ⟨rfl, hk⟩; (try have hkr := Root.trans (by assumption) hk); (first | (have hkf := From.step (by assumption) hk; obtain ⟨hc, hf⟩ := hkf.cells) | (have hkf := From.start hk; obtain ⟨hc, hf⟩ := hkf.cells)))
  go_ret
  exact ⟨rfl, by (repeat (first | exact Kept.refl _ | assumption | refine Kept.alloc ?_ _ | refine Kept.drew ?_ | refine Kept.drewN ?_ _ | refine Kept.setCell ?_ (by first | (simp; done) | (simp; omega) | omega | exact Kept.size (by (repeat (first | exact Kept.refl _ | assumption | refine Kept.alloc ?_ _ | refine Kept.drew ?_ | refine Kept.drewN ?_ _ | refine Kept.trans ?_ (by assumption))))) _ | refine Kept.trans ?_ (by assumption)))⟩
theorem lawIsTideCurve (v : Value) (xs : List (Int × Int)) (w : World) (hL : Lies w 2 pairC v xs) : Calls Try.prog 3 #[v] w fun e w' => e = .returned (.bool true) ∧ Kept w w' := by
  have HL := Lib.hid hL
  by_cases hn : xs.length ≤ 1048576
  · obtain ⟨A, c, rfl, hlc, hcm, hA⟩ := hL
    clear hA
    go_enter Try.func3, Try.ntmps3
    go_wp2_with (first | (go_at_call 14; (with_reducible refine (szTideS_ok _ _ _ HL.out hn).mono ?_); rintro e w' ⟨rfl, rfl⟩) | (go_at_call 16; refine (toTideS_any _ _ _ (by exact HL.out.kept (by (repeat (first | exact Kept.refl _ | assumption | refine Kept.alloc ?_ _ | refine Kept.drew ?_ | refine Kept.drewN ?_ _ | refine Kept.setCell ?_ (by first | (simp; done) | (simp; omega) | omega | exact Kept.size (by (repeat (first | exact Kept.refl _ | assumption | refine Kept.alloc ?_ _ | refine Kept.drew ?_ | refine Kept.drewN ?_ _ | refine Kept.trans ?_ (by assumption))))) _ | refine Kept.trans ?_ (by assumption))))) hn).mono ?_; rintro e w1 ⟨u1, rfl, hu1, hk⟩; (try have hkr := Root.trans (by assumption) hk); (first | have hl1 := pairs_own hu1 | have hl1 := crafts_own hu1); clear hu1) | (go_at_call 15; (with_reducible refine (sIsTideCurve_any _ _ _ (by first | assumption | exact Lies.kept (by assumption) (by (repeat (first | exact Kept.refl _ | assumption | refine Kept.alloc ?_ _ | refine Kept.drew ?_ | refine Kept.drewN ?_ _ | refine Kept.setCell ?_ (by first | (simp; done) | (simp; omega) | omega | exact Kept.size (by (repeat (first | exact Kept.refl _ | assumption | refine Kept.alloc ?_ _ | refine Kept.drew ?_ | refine Kept.drewN ?_ _ | refine Kept.trans ?_ (by assumption))))) _ | refine Kept.trans ?_ (by assumption)))))).mono ?_); rintro e w' ⟨rfl, hk⟩; (try have hkr := Root.trans (by assumption) hk); (first | (have hkf := From.step (by assumption) hk; obtain ⟨hc, hf⟩ := hkf.cells) | (have hkf := From.start hk; obtain ⟨hc, hf⟩ := hkf.cells))) | (go_at_call 17; (with_reducible refine (isTideCurve_any _ _ _ (by first | assumption | exact Lies.kept (by assumption) (by (repeat (first | exact Kept.refl _ | assumption | refine Kept.alloc ?_ _ | refine Kept.drew ?_ | refine Kept.drewN ?_ _ | refine Kept.setCell ?_ (by first | (simp; done) | (simp; omega) | omega | exact Kept.size (by (repeat (first | exact Kept.refl _ | assumption | refine Kept.alloc ?_ _ | refine Kept.drew ?_ | refine Kept.drewN ?_ _ | refine Kept.trans ?_ (by assumption))))) _ | refine Kept.trans ?_ (by assumption)))))).mono ?_); rintro e w' ⟨rfl, hk⟩; (try have hkr := Root.trans (by assumption) hk); (first | (have hkf := From.step (by assumption) hk; obtain ⟨hc, hf⟩ := hkf.cells) | (have hkf := From.start hk; obtain ⟨hc, hf⟩ := hkf.cells))) | (go_at_call 18; (with_reducible refine (eqTideS_any _ _ _ _ (by first | assumption | exact Lies.kept (by assumption) (by (repeat (first | exact Kept.refl _ | assumption | refine Kept.alloc ?_ _ | refine Kept.drew ?_ | refine Kept.drewN ?_ _ | refine Kept.setCell ?_ (by first | (simp; done) | (simp; omega) | omega | exact Kept.size (by (repeat (first | exact Kept.refl _ | assumption | refine Kept.alloc ?_ _ | refine Kept.drew ?_ | refine Kept.drewN ?_ _ | refine Kept.trans ?_ (by assumption))))) _ | refine Kept.trans ?_ (by assumption))))) (by first | assumption | exact Lies.kept (by assumption) (by (repeat (first | exact Kept.refl _ | assumption | refine Kept.alloc ?_ _ | refine Kept.drew ?_ | refine Kept.drewN ?_ _ | refine Kept.setCell ?_ (by first | (simp; done) | (simp; omega) | omega | exact Kept.size (by (repeat (first | exact Kept.refl _ | assumption | refine Kept.alloc ?_ _ | refine Kept.drew ?_ | refine Kept.drewN ?_ _ | refine Kept.trans ?_ (by assumption))))) _ | refine Kept.trans ?_ (by assumption)))))).mono ?_); rintro e w' ⟨rfl, hk⟩; (try have hkr := Root.trans (by assumption) hk); (first | (have hkf := From.step (by assumption) hk; obtain ⟨hc, hf⟩ := hkf.cells) | (have hkf := From.start hk; obtain ⟨hc, hf⟩ := hkf.cells))))
    go_ret
    exact ⟨rfl, by (repeat (first | exact Kept.refl _ | assumption | refine Kept.alloc ?_ _ | refine Kept.drew ?_ | refine Kept.drewN ?_ _ | refine Kept.setCell ?_ (by first | (simp; done) | (simp; omega) | omega | exact Kept.size (by (repeat (first | exact Kept.refl _ | assumption | refine Kept.alloc ?_ _ | refine Kept.drew ?_ | refine Kept.drewN ?_ _ | refine Kept.trans ?_ (by assumption))))) _ | refine Kept.trans ?_ (by assumption)))⟩
  · obtain ⟨A, c, rfl, hlc, hcm, hA⟩ := hL
    clear hA
    go_enter Try.func3, Try.ntmps3
    go_wp2_with (go_at_call 14; (with_reducible refine (szTideS_no _ _ _ HL.out (by omega)).mono ?_); rintro e w' ⟨rfl, rfl⟩)
    go_ret
    exact ⟨rfl, by (repeat (first | exact Kept.refl _ | assumption | refine Kept.alloc ?_ _ | refine Kept.drew ?_ | refine Kept.drewN ?_ _ | refine Kept.setCell ?_ (by first | (simp; done) | (simp; omega) | omega | exact Kept.size (by (repeat (first | exact Kept.refl _ | assumption | refine Kept.alloc ?_ _ | refine Kept.drew ?_ | refine Kept.drewN ?_ _ | refine Kept.trans ?_ (by assumption))))) _ | refine Kept.trans ?_ (by assumption)))⟩
end Go.Proofs.Ytlkbneklmcefcaa
