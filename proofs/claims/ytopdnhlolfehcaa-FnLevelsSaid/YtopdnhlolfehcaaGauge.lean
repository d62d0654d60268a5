/-
  Contracts of IsGauge, the program's and the reference's, and the law.
  Conditions: none.
-/
import Derived.Test.YtopdnhlolfehcaaPairs
import Derived.Test.YtopdnhlolfehcaaWords
namespace Go.Proofs.Ytopdnhlolfehcaa
open Go.ChangeShapes Go.WideShapes Go.ChangeAt Go.RowKit
set_option linter.unusedVariables false

theorem flipw {P : Program} {f : FuncId} {args : Array Value} {w : World} {v : Ending} (h : Calls P f args w fun e w' => e = v ∧ w = w') : Calls P f args w fun e w' => e = v ∧ w' = w := h.mono fun _ _ ⟨a, b⟩ => ⟨a, b.symm⟩
def timeB (t : Int) : Bool := inB t 0 10000
theorem isTime_any (t : Int) (w : World) : Calls Try.prog 76 #[.int .i64 t] w fun e w' => e = .returned (.bool (timeB t)) ∧ w = w' := by
  go_enter Try.func76, Try.ntmps76
  go_wp2_with (go_at_call 74; (with_reducible refine (inside_any _ _ _ _).mono ?_); rintro e w' ⟨rfl, rfl⟩)
  go_ret
  exact ⟨rfl, rfl⟩
theorem l2Time_any (t : Int) (w : World) : Calls Try.prog 103 #[.int .i64 t] w fun e w' => e = .returned (.bool (timeB t)) ∧ w = w' := by
  go_enter Try.func103, Try.ntmps103
  go_wp2_with (go_at_call 77; (with_reducible refine (l1In_any _ _ _ _).mono ?_); rintro e w' ⟨rfl, rfl⟩)
  go_ret
  exact ⟨rfl, rfl⟩
def readAt (xs : List (Int × Int)) (i : Nat) : Bool := timeB (P1 xs i) && inB (P2 xs i) (-500) 2000 && decide (i = 0 ∨ P1 xs (i - 1) < P1 xs i)
def headB (id : Int) (nm : ByteArray) (z : Int) (n : Nat) : Bool := inB id 1 99 && wordB nm && inB z (-1000) 1000 && decide ((n : Int) ≤ 15)
def gaugeB (id : Int) (nm : ByteArray) (z : Int) (xs : List (Int × Int)) : Bool := headB id nm z xs.length && allB xs.length (readAt xs)
theorem gaugeB_all {id z : Int} {nm : ByteArray} {xs : List (Int × Int)} (h : ∀ i, i < xs.length → readAt xs i = true) : gaugeB id nm z xs = headB id nm z xs.length := by simp [gaugeB, allB_true h]
theorem gaugeB_no {id z : Int} {nm : ByteArray} {xs : List (Int × Int)} {k : Nat} (hk : k < xs.length) (h : readAt xs k = false) : gaugeB id nm z xs = false := by simp [gaugeB, allB_false hk h]
theorem gaugeB_head {id z : Int} {nm : ByteArray} {xs : List (Int × Int)} (h : headB id nm z xs.length = false) : gaugeB id nm z xs = false := by simp [gaugeB, h]
theorem gaugeB_1 {id z : Int} {nm : ByteArray} {xs : List (Int × Int)} (h : gaugeB id nm z xs = true) : (1 ≤ id ∧ id ≤ 99) ∧ (-1000 ≤ z ∧ z ≤ 1000) ∧ xs.length ≤ 15 ∧ wordB nm = true := by
  simp only [gaugeB, headB, Bool.and_eq_true, inB_true, decide_eq_true_eq] at h
  refine ⟨h.1.1.1.1, h.1.1.2, by omega, h.1.1.1.2⟩
theorem gaugeB_at {id z : Int} {nm : ByteArray} {xs : List (Int × Int)} (h : gaugeB id nm z xs = true) {k : Nat} (hk : k < xs.length) : (0 ≤ P1 xs k ∧ P1 xs k ≤ 10000) ∧ (-500 ≤ P2 xs k ∧ P2 xs k ≤ 2000) ∧ (k = 0 ∨ P1 xs (k - 1) < P1 xs k) := by
  simp only [gaugeB, Bool.and_eq_true] at h
  have := allB_at h.2 hk
  simp only [readAt, timeB, Bool.and_eq_true, inB_true, decide_eq_true_eq] at this
  exact ⟨this.1.1, this.1.2, this.2⟩
theorem isGauge_any (id : Int) (nm : ByteArray) (z : Int) (v : Value) (xs : List (Int × Int)) (hs : nm.size ≤ maxLen) (w : World) (hL : Lies w 2 pairC v xs) : Calls Try.prog 21 #[.agg #[.int .i64 id, .string nm, .int .i64 z, v]] w fun e w' => e = .returned (.bool (gaugeB id nm z xs)) ∧ Kept w w' := by
  have hm := hL.len
  unfold maxLen at hm
  obtain ⟨A, c, rfl, hlc, hcm, hA⟩ := lies_pairs hL
  clear hL
  cases g1 : inB id 1 99
  · have HN := Lib.hid (gaugeB_head (xs := xs) (show headB id nm z xs.length = false by simp [headB, g1]))
    clear hA
    (go_enter Try.func21, Try.ntmps21; go_wp2_with (first | (go_at_call 74; (with_reducible refine (inside_any _ _ _ _).mono ?_); rintro e w' ⟨rfl, rfl⟩) | (go_at_call 75; (with_reducible refine (isWord_any _ hs _).mono ?_); rintro e w' ⟨rfl, rfl⟩)); go_ret; exact ⟨ret_bool HN.out.symm, by (repeat (first | exact Kept.refl _ | assumption | refine Kept.alloc ?_ _ | refine Kept.drew ?_ | refine Kept.drewN ?_ _ | refine Kept.setCell ?_ (by first | (simp; done) | (simp; omega) | omega | exact Kept.size (by (repeat (first | exact Kept.refl _ | assumption | refine Kept.alloc ?_ _ | refine Kept.drew ?_ | refine Kept.drewN ?_ _ | refine Kept.trans ?_ (by assumption))))) _ | refine Kept.trans ?_ (by assumption)))⟩)
  cases g2 : wordB nm
  · have HN := Lib.hid (gaugeB_head (xs := xs) (show headB id nm z xs.length = false by simp [headB, g2]))
    clear hA
    (go_enter Try.func21, Try.ntmps21; go_wp2_with (first | (go_at_call 74; (with_reducible refine (inside_any _ _ _ _).mono ?_); rintro e w' ⟨rfl, rfl⟩) | (go_at_call 75; (with_reducible refine (isWord_any _ hs _).mono ?_); rintro e w' ⟨rfl, rfl⟩)); go_ret; exact ⟨ret_bool HN.out.symm, by (repeat (first | exact Kept.refl _ | assumption | refine Kept.alloc ?_ _ | refine Kept.drew ?_ | refine Kept.drewN ?_ _ | refine Kept.setCell ?_ (by first | (simp; done) | (simp; omega) | omega | exact Kept.size (by (repeat (first | exact Kept.refl _ | assumption | refine Kept.alloc ?_ _ | refine Kept.drew ?_ | refine Kept.drewN ?_ _ | refine Kept.trans ?_ (by assumption))))) _ | refine Kept.trans ?_ (by assumption)))⟩)
  cases g3 : inB z (-1000) 1000
  · have HN := Lib.hid (gaugeB_head (xs := xs) (show headB id nm z xs.length = false by simp [headB, g3]))
    clear hA
    (go_enter Try.func21, Try.ntmps21; go_wp2_with (first | (go_at_call 74; (with_reducible refine (inside_any _ _ _ _).mono ?_); rintro e w' ⟨rfl, rfl⟩) | (go_at_call 75; (with_reducible refine (isWord_any _ hs _).mono ?_); rintro e w' ⟨rfl, rfl⟩)); go_ret; exact ⟨ret_bool HN.out.symm, by (repeat (first | exact Kept.refl _ | assumption | refine Kept.alloc ?_ _ | refine Kept.drew ?_ | refine Kept.drewN ?_ _ | refine Kept.setCell ?_ (by first | (simp; done) | (simp; omega) | omega | exact Kept.size (by (repeat (first | exact Kept.refl _ | assumption | refine Kept.alloc ?_ _ | refine Kept.drew ?_ | refine Kept.drewN ?_ _ | refine Kept.trans ?_ (by assumption))))) _ | refine Kept.trans ?_ (by assumption)))⟩)
  by_cases g4 : (15 : Int) < (xs.length : Int)
  · have HN := Lib.hid (gaugeB_head (xs := xs) (show headB id nm z xs.length = false by simp [headB]; omega))
    clear hA
    (go_enter Try.func21, Try.ntmps21; go_wp2_with (first | (go_at_call 74; (with_reducible refine (inside_any _ _ _ _).mono ?_); rintro e w' ⟨rfl, rfl⟩) | (go_at_call 75; (with_reducible refine (isWord_any _ hs _).mono ?_); rintro e w' ⟨rfl, rfl⟩)); go_ret; exact ⟨ret_bool HN.out.symm, by (repeat (first | exact Kept.refl _ | assumption | refine Kept.alloc ?_ _ | refine Kept.drew ?_ | refine Kept.drewN ?_ _ | refine Kept.setCell ?_ (by first | (simp; done) | (simp; omega) | omega | exact Kept.size (by (repeat (first | exact Kept.refl _ | assumption | refine Kept.alloc ?_ _ | refine Kept.drew ?_ | refine Kept.drewN ?_ _ | refine Kept.trans ?_ (by assumption))))) _ | refine Kept.trans ?_ (by assumption)))⟩)
  have g5 : (xs.length : Int) ≤ 15 := by omega
  have HH := Lib.hid (show headB id nm z xs.length = true by simp [headB, g1, g2, g3]; omega)
  clear g4
  go_enter Try.func21, Try.ntmps21
  go_wp2_with (first | (go_at_call 74; (with_reducible refine (inside_any _ _ _ _).mono ?_); rintro e w' ⟨rfl, rfl⟩) | (go_at_call 75; (with_reducible refine (isWord_any _ hs _).mono ?_); rintro e w' ⟨rfl, rfl⟩))
  go_loopw [30] (fun i wr => ∃ k : Nat, k ≤ xs.length ∧ i = .int .i64 k ∧ Kept (w.alloc (.cells #[.int .i64 id, .string nm, .int .i64 z, .slice A xs.length c] 26)) wr ∧ ∀ i, i < k → readAt xs i = true) (fun i _ => xs.length - (intOf i).toNat)
  case atStart => exact ⟨0, Nat.zero_le _, rfl, Kept.refl _, fun i h => absurd h (by omega)⟩
  case round =>
    obtain ⟨k, hk, rfl, hkw, hall⟩ := hrel
    have p0 := hkw.keep (show (w.alloc (.cells #[.int .i64 id, .string nm, .int .i64 z, .slice A xs.length c] 26)).cell? ⟨w.heap.size, 0, none⟩ = some (.int .i64 id) by simp [go_sem])
    have p1 := hkw.keep (show (w.alloc (.cells #[.int .i64 id, .string nm, .int .i64 z, .slice A xs.length c] 26)).cell? ⟨w.heap.size, 1, none⟩ = some (.string nm) by simp [go_sem])
    have p2 := hkw.keep (show (w.alloc (.cells #[.int .i64 id, .string nm, .int .i64 z, .slice A xs.length c] 26)).cell? ⟨w.heap.size, 2, none⟩ = some (.int .i64 z) by simp [go_sem])
    have p3 := hkw.keep (show (w.alloc (.cells #[.int .i64 id, .string nm, .int .i64 z, .slice A xs.length c] 26)).cell? ⟨w.heap.size, 3, none⟩ = some (.slice A xs.length c) by simp [go_sem])
    have HA := Lib.hid hall
    clear hall
    by_cases hlt : k < xs.length
    · obtain ⟨b, off, rfl, hc⟩ := hA (by omega)
      have c0 := hkw.keep ((Kept.alloc (Kept.refl w) _).keep (hc k hlt).1)
      have c1 := hkw.keep ((Kept.alloc (Kept.refl w) _).keep (hc k hlt).2)
      have HC := Lib.hid hc
      clear hc hA
      cases h1 : timeB (P1 xs k)
      · have HN := Lib.hid (gaugeB_no (id := id) (nm := nm) (z := z) hlt (show readAt xs k = false by simp [readAt, h1]))
        go_wp2_with fail
        go_quiet ((first | (go_at_call 76; exact Calls.quiet_of_same (flipw (isTime_any _ _))) | (go_at_call 74; exact Calls.quiet_of_same (flipw (inside_any _ _ _ _)))))
        go_wp2
        go_ret
        exact ⟨ret_bool HN.out.symm, by (repeat (first | exact Kept.refl _ | assumption | refine Kept.alloc ?_ _ | refine Kept.drew ?_ | refine Kept.drewN ?_ _ | refine Kept.setCell ?_ (by first | (simp; done) | (simp; omega) | omega | exact Kept.size (by (repeat (first | exact Kept.refl _ | assumption | refine Kept.alloc ?_ _ | refine Kept.drew ?_ | refine Kept.drewN ?_ _ | refine Kept.trans ?_ (by assumption))))) _ | refine Kept.trans ?_ (by assumption)))⟩
      · cases h2 : inB (P2 xs k) (-500) 2000
        · have HN := Lib.hid (gaugeB_no (id := id) (nm := nm) (z := z) hlt (show readAt xs k = false by simp [readAt, h1, h2]))
          have h2' : inB (P2 xs k) (-500) 2000 = false := h2
          go_wp2_with fail
          go_quiet ((first | (go_at_call 76; exact Calls.quiet_of_same (flipw (isTime_any _ _))) | (go_at_call 74; exact Calls.quiet_of_same (flipw (inside_any _ _ _ _)))))
          go_wp2
          go_ret
          exact ⟨ret_bool HN.out.symm, by (repeat (first | exact Kept.refl _ | assumption | refine Kept.alloc ?_ _ | refine Kept.drew ?_ | refine Kept.drewN ?_ _ | refine Kept.setCell ?_ (by first | (simp; done) | (simp; omega) | omega | exact Kept.size (by (repeat (first | exact Kept.refl _ | assumption | refine Kept.alloc ?_ _ | refine Kept.drew ?_ | refine Kept.drewN ?_ _ | refine Kept.trans ?_ (by assumption))))) _ | refine Kept.trans ?_ (by assumption)))⟩
        · have h2' : inB (P2 xs k) (-500) 2000 = true := h2
          by_cases h3 : k = 0
          · subst h3
            simp only [Nat.zero_mul, Nat.add_zero] at c0 c1
            have HB := Lib.hid (upto_succ (p := fun i => readAt xs i = true) HA.out (show readAt xs 0 = true by simp [readAt, h1, h2]))
            go_wp2_with fail
            go_quiet ((first | (go_at_call 76; exact Calls.quiet_of_same (flipw (isTime_any _ _))) | (go_at_call 74; exact Calls.quiet_of_same (flipw (inside_any _ _ _ _)))))
            go_wp2
            go_roundw
            case rel => exact ⟨1, by omega, by go_num, by (repeat (first | exact Kept.refl _ | assumption | refine Kept.alloc ?_ _ | refine Kept.drew ?_ | refine Kept.drewN ?_ _ | refine Kept.setCell ?_ (by first | (simp; done) | (simp; omega) | omega | exact Kept.size (by (repeat (first | exact Kept.refl _ | assumption | refine Kept.alloc ?_ _ | refine Kept.drew ?_ | refine Kept.drewN ?_ _ | refine Kept.trans ?_ (by assumption))))) _ | refine Kept.trans ?_ (by assumption))), HB.out⟩
            case measure => simp [intOf]; omega
          · have d0 := hkw.keep ((Kept.alloc (Kept.refl w) _).keep (HC.out (k - 1) (by omega)).1)
            have d0' : ∀ o : Obj, (wr.alloc o).cell? ⟨b, off + (k - 1) * 2, none⟩ = some (.int .i64 (P1 xs (k - 1))) := fun o => (Kept.alloc (Kept.refl _) o).keep d0
            have p3' : ∀ o : Obj, (wr.alloc o).cell? ⟨w.heap.size, 3, none⟩ = some (.slice (some ⟨b, off, none⟩) xs.length c) := fun o => (Kept.alloc (Kept.refl _) o).keep p3
            have k0 : (0 : Int) < (k : Int) := by omega
            have k0' : (1 : Int) ≤ (k : Int) := by omega
            have kN : 0 < k := by omega
            have j0 : (0 : Int) ≤ (k : Int) - 1 := by omega
            have j1 : (k : Int) - 1 < (xs.length : Int) := by omega
            have k2 : (k : Int) < (xs.length : Int) := by omega
            by_cases h4 : P1 xs (k - 1) < P1 xs k
            · have HB := Lib.hid (upto_succ (p := fun i => readAt xs i = true) HA.out (show readAt xs k = true by simp [readAt, h1, h2, h4]))
              go_wp2_with fail
              have ew : IntKind.i64.wrap ((k : Int) - 1) = (k : Int) - 1 := IntWalk.i64_in _ (by omega)
              go_quiet ((first | (go_at_call 76; exact Calls.quiet_of_same (flipw (isTime_any _ _))) | (go_at_call 74; exact Calls.quiet_of_same (flipw (inside_any _ _ _ _)))))
              clear ew
              go_wp2
              go_roundw
              case rel => exact ⟨k + 1, by omega, by go_num, by (repeat (first | exact Kept.refl _ | assumption | refine Kept.alloc ?_ _ | refine Kept.drew ?_ | refine Kept.drewN ?_ _ | refine Kept.setCell ?_ (by first | (simp; done) | (simp; omega) | omega | exact Kept.size (by (repeat (first | exact Kept.refl _ | assumption | refine Kept.alloc ?_ _ | refine Kept.drew ?_ | refine Kept.drewN ?_ _ | refine Kept.trans ?_ (by assumption))))) _ | refine Kept.trans ?_ (by assumption))), HB.out⟩
              case measure => simp [intOf]; omega
            · have HN := Lib.hid (gaugeB_no (id := id) (nm := nm) (z := z) hlt (show readAt xs k = false by simp [readAt, h3]; omega))
              have h5 : P1 xs k ≤ P1 xs (k - 1) := by omega
              go_wp2_with fail
              have ew : IntKind.i64.wrap ((k : Int) - 1) = (k : Int) - 1 := IntWalk.i64_in _ (by omega)
              go_quiet ((first | (go_at_call 76; exact Calls.quiet_of_same (flipw (isTime_any _ _))) | (go_at_call 74; exact Calls.quiet_of_same (flipw (inside_any _ _ _ _)))))
              clear ew
              go_wp2
              go_ret
              exact ⟨ret_bool HN.out.symm, by (repeat (first | exact Kept.refl _ | assumption | refine Kept.alloc ?_ _ | refine Kept.drew ?_ | refine Kept.drewN ?_ _ | refine Kept.setCell ?_ (by first | (simp; done) | (simp; omega) | omega | exact Kept.size (by (repeat (first | exact Kept.refl _ | assumption | refine Kept.alloc ?_ _ | refine Kept.drew ?_ | refine Kept.drewN ?_ _ | refine Kept.trans ?_ (by assumption))))) _ | refine Kept.trans ?_ (by assumption)))⟩
    · have e : k = xs.length := by omega
      have HF := Lib.hid ((gaugeB_all (id := id) (nm := nm) (z := z) (fun i hi => HA.out i (by omega))).trans HH.out)
      clear e
      go_wp2
      go_ret
      exact ⟨ret_bool HF.out.symm, by (repeat (first | exact Kept.refl _ | assumption | refine Kept.alloc ?_ _ | refine Kept.drew ?_ | refine Kept.drewN ?_ _ | refine Kept.setCell ?_ (by first | (simp; done) | (simp; omega) | omega | exact Kept.size (by (repeat (first | exact Kept.refl _ | assumption | refine Kept.alloc ?_ _ | refine Kept.drew ?_ | refine Kept.drewN ?_ _ | refine Kept.trans ?_ (by assumption))))) _ | refine Kept.trans ?_ (by assumption)))⟩
theorem l3One_any (id : Int) (nm : ByteArray) (z : Int) (v : Value) (xs : List (Int × Int)) (hs : nm.size ≤ maxLen) (w : World) (hL : Lies w 2 pairC v xs) : Calls Try.prog 72 #[.agg #[.int .i64 id, .string nm, .int .i64 z, v]] w fun e w' => e = .returned (.bool (gaugeB id nm z xs)) ∧ Kept w w' := by
  have hm := hL.len
  unfold maxLen at hm
  obtain ⟨A, c, rfl, hlc, hcm, hA⟩ := lies_pairs hL
  clear hL
  go_enter Try.func72, Try.ntmps72
  go_wp2
  go_loopw [3] (fun i wr => ∃ k : Nat, k ≤ xs.length ∧ i = .int .i64 k ∧ Kept (w.alloc (.cells #[.int .i64 id, .string nm, .int .i64 z, .slice A xs.length c] 26)) wr ∧ ∀ i, i < k → readAt xs i = true) (fun i _ => xs.length - (intOf i).toNat)
  case atStart => exact ⟨0, Nat.zero_le _, rfl, Kept.refl _, fun i h => absurd h (by omega)⟩
  case round =>
    obtain ⟨k, hk, rfl, hkw, hall⟩ := hrel
    have p0 := hkw.keep (show (w.alloc (.cells #[.int .i64 id, .string nm, .int .i64 z, .slice A xs.length c] 26)).cell? ⟨w.heap.size, 0, none⟩ = some (.int .i64 id) by simp [go_sem])
    have p1 := hkw.keep (show (w.alloc (.cells #[.int .i64 id, .string nm, .int .i64 z, .slice A xs.length c] 26)).cell? ⟨w.heap.size, 1, none⟩ = some (.string nm) by simp [go_sem])
    have p2 := hkw.keep (show (w.alloc (.cells #[.int .i64 id, .string nm, .int .i64 z, .slice A xs.length c] 26)).cell? ⟨w.heap.size, 2, none⟩ = some (.int .i64 z) by simp [go_sem])
    have p3 := hkw.keep (show (w.alloc (.cells #[.int .i64 id, .string nm, .int .i64 z, .slice A xs.length c] 26)).cell? ⟨w.heap.size, 3, none⟩ = some (.slice A xs.length c) by simp [go_sem])
    have HA := Lib.hid hall
    clear hall
    by_cases hlt : k < xs.length
    · obtain ⟨b, off, rfl, hc⟩ := hA (by omega)
      have c0 := hkw.keep ((Kept.alloc (Kept.refl w) _).keep (hc k hlt).1)
      have c1 := hkw.keep ((Kept.alloc (Kept.refl w) _).keep (hc k hlt).2)
      have HC := Lib.hid hc
      clear hc hA
      cases h1 : timeB (P1 xs k)
      · have HN := Lib.hid (gaugeB_no (id := id) (nm := nm) (z := z) hlt (show readAt xs k = false by simp [readAt, h1]))
        go_wp2_with fail
        go_quiet ((first | (go_at_call 103; exact Calls.quiet_of_same (flipw (l2Time_any _ _))) | (go_at_call 77; exact Calls.quiet_of_same (flipw (l1In_any _ _ _ _)))))
        go_wp2
        go_ret
        exact ⟨ret_bool HN.out.symm, by (repeat (first | exact Kept.refl _ | assumption | refine Kept.alloc ?_ _ | refine Kept.drew ?_ | refine Kept.drewN ?_ _ | refine Kept.setCell ?_ (by first | (simp; done) | (simp; omega) | omega | exact Kept.size (by (repeat (first | exact Kept.refl _ | assumption | refine Kept.alloc ?_ _ | refine Kept.drew ?_ | refine Kept.drewN ?_ _ | refine Kept.trans ?_ (by assumption))))) _ | refine Kept.trans ?_ (by assumption)))⟩
      · cases h2 : inB (P2 xs k) (-500) 2000
        · have HN := Lib.hid (gaugeB_no (id := id) (nm := nm) (z := z) hlt (show readAt xs k = false by simp [readAt, h1, h2]))
          go_wp2_with fail
          go_quiet ((first | (go_at_call 103; exact Calls.quiet_of_same (flipw (l2Time_any _ _))) | (go_at_call 77; exact Calls.quiet_of_same (flipw (l1In_any _ _ _ _)))))
          go_wp2
          go_ret
          exact ⟨ret_bool HN.out.symm, by (repeat (first | exact Kept.refl _ | assumption | refine Kept.alloc ?_ _ | refine Kept.drew ?_ | refine Kept.drewN ?_ _ | refine Kept.setCell ?_ (by first | (simp; done) | (simp; omega) | omega | exact Kept.size (by (repeat (first | exact Kept.refl _ | assumption | refine Kept.alloc ?_ _ | refine Kept.drew ?_ | refine Kept.drewN ?_ _ | refine Kept.trans ?_ (by assumption))))) _ | refine Kept.trans ?_ (by assumption)))⟩
        · have h2' : inB (P2 xs k) (-500) 2000 = true := h2
          by_cases h3 : k = 0
          · subst h3
            simp only [Nat.zero_mul, Nat.add_zero] at c0 c1
            have HB := Lib.hid (upto_succ (p := fun i => readAt xs i = true) HA.out (show readAt xs 0 = true by simp [readAt, h1, h2]))
            go_wp2_with fail
            go_quiet ((first | (go_at_call 103; exact Calls.quiet_of_same (flipw (l2Time_any _ _))) | (go_at_call 77; exact Calls.quiet_of_same (flipw (l1In_any _ _ _ _)))))
            go_wp2
            go_roundw
            case rel => exact ⟨1, by omega, by go_num, by (repeat (first | exact Kept.refl _ | assumption | refine Kept.alloc ?_ _ | refine Kept.drew ?_ | refine Kept.drewN ?_ _ | refine Kept.setCell ?_ (by first | (simp; done) | (simp; omega) | omega | exact Kept.size (by (repeat (first | exact Kept.refl _ | assumption | refine Kept.alloc ?_ _ | refine Kept.drew ?_ | refine Kept.drewN ?_ _ | refine Kept.trans ?_ (by assumption))))) _ | refine Kept.trans ?_ (by assumption))), HB.out⟩
            case measure => simp [intOf]; omega
          · have d0 := hkw.keep ((Kept.alloc (Kept.refl w) _).keep (HC.out (k - 1) (by omega)).1)
            have d0' : ∀ o : Obj, (wr.alloc o).cell? ⟨b, off + (k - 1) * 2, none⟩ = some (.int .i64 (P1 xs (k - 1))) := fun o => (Kept.alloc (Kept.refl _) o).keep d0
            have p3' : ∀ o : Obj, (wr.alloc o).cell? ⟨w.heap.size, 3, none⟩ = some (.slice (some ⟨b, off, none⟩) xs.length c) := fun o => (Kept.alloc (Kept.refl _) o).keep p3
            have k0 : (0 : Int) < (k : Int) := by omega
            have k0' : (1 : Int) ≤ (k : Int) := by omega
            have kN : 0 < k := by omega
            have j0 : (0 : Int) ≤ (k : Int) - 1 := by omega
            have j1 : (k : Int) - 1 < (xs.length : Int) := by omega
            have k2 : (k : Int) < (xs.length : Int) := by omega
            by_cases h4 : P1 xs (k - 1) < P1 xs k
            · have HB := Lib.hid (upto_succ (p := fun i => readAt xs i = true) HA.out (show readAt xs k = true by simp [readAt, h1, h2, h4]))
              go_wp2_with fail
              go_quiet ((first | (go_at_call 103; exact Calls.quiet_of_same (flipw (l2Time_any _ _))) | (go_at_call 77; exact Calls.quiet_of_same (flipw (l1In_any _ _ _ _)))))
              go_wp2
              go_roundw
              case rel => exact ⟨k + 1, by omega, by go_num, by (repeat (first | exact Kept.refl _ | assumption | refine Kept.alloc ?_ _ | refine Kept.drew ?_ | refine Kept.drewN ?_ _ | refine Kept.setCell ?_ (by first | (simp; done) | (simp; omega) | omega | exact Kept.size (by (repeat (first | exact Kept.refl _ | assumption | refine Kept.alloc ?_ _ | refine Kept.drew ?_ | refine Kept.drewN ?_ _ | refine Kept.trans ?_ (by assumption))))) _ | refine Kept.trans ?_ (by assumption))), HB.out⟩
              case measure => simp [intOf]; omega
            · have HN := Lib.hid (gaugeB_no (id := id) (nm := nm) (z := z) hlt (show readAt xs k = false by simp [readAt, h3]; omega))
              have h5 : P1 xs k ≤ P1 xs (k - 1) := by omega
              go_wp2_with fail
              go_quiet ((first | (go_at_call 103; exact Calls.quiet_of_same (flipw (l2Time_any _ _))) | (go_at_call 77; exact Calls.quiet_of_same (flipw (l1In_any _ _ _ _)))))
              go_wp2
              go_ret
              exact ⟨ret_bool HN.out.symm, by (repeat (first | exact Kept.refl _ | assumption | refine Kept.alloc ?_ _ | refine Kept.drew ?_ | refine Kept.drewN ?_ _ | refine Kept.setCell ?_ (by first | (simp; done) | (simp; omega) | omega | exact Kept.size (by (repeat (first | exact Kept.refl _ | assumption | refine Kept.alloc ?_ _ | refine Kept.drew ?_ | refine Kept.drewN ?_ _ | refine Kept.trans ?_ (by assumption))))) _ | refine Kept.trans ?_ (by assumption)))⟩
    · have e : k = xs.length := by omega
      have HF := Lib.hid (gaugeB_all (id := id) (nm := nm) (z := z) (fun i hi => HA.out i (by omega)))
      clear e
      go_wp2_with (first | (go_at_call 77; (with_reducible refine (l1In_any _ _ _ _).mono ?_); rintro e w' ⟨rfl, rfl⟩) | (go_at_call 104; (with_reducible refine (l2Word_any _ hs _).mono ?_); rintro e w' ⟨rfl, rfl⟩))
      all_goals go_ret
      all_goals exact ⟨ret_bool (by rw [HF.out]; (first | (simp [headB, *]; done) | (simp [headB, *]; omega) | (simp only [Bool.not_eq_true', Bool.not_eq_false'] at *; simp [headB, *]; done) | (simp only [Bool.not_eq_true', Bool.not_eq_false'] at *; simp [headB, *]; omega) | (simp only [Bool.not_eq_false'] at *; simp [headB, *]; done) | (simp only [Bool.not_eq_false'] at *; simp [headB, *]; omega))), by (repeat (first | exact Kept.refl _ | assumption | refine Kept.alloc ?_ _ | refine Kept.drew ?_ | refine Kept.drewN ?_ _ | refine Kept.setCell ?_ (by first | (simp; done) | (simp; omega) | omega | exact Kept.size (by (repeat (first | exact Kept.refl _ | assumption | refine Kept.alloc ?_ _ | refine Kept.drew ?_ | refine Kept.drewN ?_ _ | refine Kept.trans ?_ (by assumption))))) _ | refine Kept.trans ?_ (by assumption)))⟩
theorem sIsGauge_any (id : Int) (nm : ByteArray) (z : Int) (v : Value) (xs : List (Int × Int)) (hs : nm.size ≤ maxLen) (w : World) (hL : Lies w 2 pairC v xs) : Calls Try.prog 32 #[.agg #[.int .i64 id, .string nm, .int .i64 z, v]] w fun e w' => e = .returned (.bool (gaugeB id nm z xs)) ∧ Kept w w' := by
  have HL := Lib.hid hL
  obtain ⟨A, c, rfl, hlc, hcm, hA⟩ := hL
  clear hA
  go_enter Try.func32, Try.ntmps32
  go_wp2_with (go_at_call 72; (with_reducible refine (l3One_any _ _ _ _ _ hs _ (by exact HL.out.kept (by (repeat (first | exact Kept.refl _ | assumption | refine Kept.alloc ?_ _ | refine Kept.drew ?_ | refine Kept.drewN ?_ _ | refine Kept.setCell ?_ (by first | (simp; done) | (simp; omega) | omega | exact Kept.size (by (repeat (first | exact Kept.refl _ | assumption | refine Kept.alloc ?_ _ | refine Kept.drew ?_ | refine Kept.drewN ?_ _ | refine Kept.trans ?_ (by assumption))))) _ | refine Kept.trans ?_ (by assumption)))))).mono ?_); rintro e w' ⟨rfl, hk⟩; (try have hkr := Root.trans (by assumption) hk); (first | (have hkf := From.step (by assumption) hk; obtain ⟨hc, hf⟩ := hkf.cells) | (have hkf := From.start hk; obtain ⟨hc, hf⟩ := hkf.cells)))
  go_ret
  exact ⟨rfl, by (repeat (first | exact Kept.refl _ | assumption | refine Kept.alloc ?_ _ | refine Kept.drew ?_ | refine Kept.drewN ?_ _ | refine Kept.setCell ?_ (by first | (simp; done) | (simp; omega) | omega | exact Kept.size (by (repeat (first | exact Kept.refl _ | assumption | refine Kept.alloc ?_ _ | refine Kept.drew ?_ | refine Kept.drewN ?_ _ | refine Kept.trans ?_ (by assumption))))) _ | refine Kept.trans ?_ (by assumption)))⟩
theorem szReadingS_left (v : Value) (xs : List (Int × Int)) (l : Int) (w : World) (hL : Lies w 2 pairC v xs) (h0 : 0 ≤ l) (h1 : l ≤ 1048576) : Calls Try.prog 80 #[v, .int .i64 l] w fun e w' => ∃ r : Int, e = .returned (.int .i64 r) ∧ (-1 ≤ r ∧ r ≤ l ∧ (0 ≤ r → xs.length ≤ 1048576)) ∧ w = w' := by
  have hm := hL.len
  unfold maxLen at hm
  obtain ⟨A, c, rfl, hlc, hcm, hA⟩ := lies_pairs hL
  clear hA hL
  by_cases h : (xs.length : Int) ≤ l
  · go_enter Try.func80, Try.ntmps80
    go_wp2
    go_ret
    exact ⟨_, rfl, ⟨by omega, by omega, fun _ => by omega⟩, rfl⟩
  · go_enter Try.func80, Try.ntmps80
    go_wp2
    go_ret
    exact ⟨_, rfl, ⟨by omega, by omega, fun h => absurd h (by omega)⟩, rfl⟩
theorem szGauge_left (id : Int) (nm : ByteArray) (z : Int) (v : Value) (xs : List (Int × Int)) (hs : nm.size ≤ maxLen) (l : Int) (h0 : 0 ≤ l) (h1 : l ≤ 1048576) (w : World) (hL : Lies w 2 pairC v xs) : Calls Try.prog 31 #[.agg #[.int .i64 id, .string nm, .int .i64 z, v], .int .i64 l] w fun e w' => ∃ r : Int, e = .returned (.int .i64 r) ∧ (-1 ≤ r ∧ r ≤ l ∧ (0 ≤ r → xs.length ≤ 1048576)) ∧ Kept w w' := by
  have HL := Lib.hid hL
  unfold maxLen at hs
  obtain ⟨A, c, rfl, hlc, hcm, hA⟩ := hL
  clear hA
  by_cases h : (nm.size : Int) ≤ l
  · go_enter Try.func31, Try.ntmps31
    go_wp2_with (go_at_call 80; refine (szReadingS_left _ _ _ _ (by exact HL.out.kept (by (repeat (first | exact Kept.refl _ | assumption | refine Kept.alloc ?_ _ | refine Kept.drew ?_ | refine Kept.drewN ?_ _ | refine Kept.setCell ?_ (by first | (simp; done) | (simp; omega) | omega | exact Kept.size (by (repeat (first | exact Kept.refl _ | assumption | refine Kept.alloc ?_ _ | refine Kept.drew ?_ | refine Kept.drewN ?_ _ | refine Kept.trans ?_ (by assumption))))) _ | refine Kept.trans ?_ (by assumption))))) (by omega) (by omega)).mono ?_; rintro e w' ⟨r, rfl, ⟨r0, r1, r2⟩, rfl⟩; have R2 := Lib.hid r2; clear r2)
    all_goals go_ret
    all_goals exact ⟨_, rfl, ⟨by omega, by omega, fun h => by first | exact R2.out (by omega) | exact absurd h (by omega)⟩, by (repeat (first | exact Kept.refl _ | assumption | refine Kept.alloc ?_ _ | refine Kept.drew ?_ | refine Kept.drewN ?_ _ | refine Kept.setCell ?_ (by first | (simp; done) | (simp; omega) | omega | exact Kept.size (by (repeat (first | exact Kept.refl _ | assumption | refine Kept.alloc ?_ _ | refine Kept.drew ?_ | refine Kept.drewN ?_ _ | refine Kept.trans ?_ (by assumption))))) _ | refine Kept.trans ?_ (by assumption)))⟩
  · go_enter Try.func31, Try.ntmps31
    go_wp2
    go_ret
    exact ⟨_, rfl, ⟨by omega, by omega, fun h => absurd h (by omega)⟩, by (repeat (first | exact Kept.refl _ | assumption | refine Kept.alloc ?_ _ | refine Kept.drew ?_ | refine Kept.drewN ?_ _ | refine Kept.setCell ?_ (by first | (simp; done) | (simp; omega) | omega | exact Kept.size (by (repeat (first | exact Kept.refl _ | assumption | refine Kept.alloc ?_ _ | refine Kept.drew ?_ | refine Kept.drewN ?_ _ | refine Kept.trans ?_ (by assumption))))) _ | refine Kept.trans ?_ (by assumption)))⟩
theorem toGauge_any (id : Int) (nm : ByteArray) (z : Int) (v : Value) (xs : List (Int × Int)) (w : World) (hL : Lies w 2 pairC v xs) (hn : xs.length ≤ 1048576) : Calls Try.prog 33 #[.agg #[.int .i64 id, .string nm, .int .i64 z, v]] w fun e w' => ∃ u, e = .returned (.agg #[.int .i64 id, .string nm, .int .i64 z, u]) ∧ w'.ownsRow w.heap.size 28 2 u xs.length (xs.flatMap pairC) ∧ Kept w w' := by
  have HL := Lib.hid hL
  obtain ⟨A, c, rfl, hlc, hcm, hA⟩ := hL
  clear hA
  go_enter Try.func33, Try.ntmps33
  go_wp2_with fail
  refine (toReadingS_any _ _ _ (by exact HL.out.kept (by (repeat (first | exact Kept.refl _ | assumption | refine Kept.alloc ?_ _ | refine Kept.drew ?_ | refine Kept.drewN ?_ _ | refine Kept.setCell ?_ (by first | (simp; done) | (simp; omega) | omega | exact Kept.size (by (repeat (first | exact Kept.refl _ | assumption | refine Kept.alloc ?_ _ | refine Kept.drew ?_ | refine Kept.drewN ?_ _ | refine Kept.trans ?_ (by assumption))))) _ | refine Kept.trans ?_ (by assumption))))) hn).mono ?_
  rintro e w1 ⟨u1, rfl, hu1, hk⟩
  obtain ⟨A1, c1, rfl, -, -, -⟩ := own_form hu1
  have HU := Lib.hid hu1
  have a0 := hk.keep (show (((w.alloc (.cells #[.int .i64 id, .string nm, .int .i64 z, .slice A xs.length c] 47)).alloc (.cells #[.int .i64 0, .string { data := #[] }, .int .i64 0, .slice none 0 0] 26)).alloc (.cells #[.int .i64 id, .string nm, .int .i64 z, .slice none 0 0] 26)).cell? ⟨w.heap.size + 1 + 1, 0, none⟩ = some (.int .i64 id) by simp [go_sem])
  have af0 := hk.free (show (((w.alloc (.cells #[.int .i64 id, .string nm, .int .i64 z, .slice A xs.length c] 47)).alloc (.cells #[.int .i64 0, .string { data := #[] }, .int .i64 0, .slice none 0 0] 26)).alloc (.cells #[.int .i64 id, .string nm, .int .i64 z, .slice none 0 0] 26)).cell? ⟨w.heap.size + 1 + 1, 0, none⟩ = some (.int .i64 id) by simp [go_sem]) (by simp [go_sem])
  have a1 := hk.keep (show (((w.alloc (.cells #[.int .i64 id, .string nm, .int .i64 z, .slice A xs.length c] 47)).alloc (.cells #[.int .i64 0, .string { data := #[] }, .int .i64 0, .slice none 0 0] 26)).alloc (.cells #[.int .i64 id, .string nm, .int .i64 z, .slice none 0 0] 26)).cell? ⟨w.heap.size + 1 + 1, 1, none⟩ = some (.string nm) by simp [go_sem])
  have af1 := hk.free (show (((w.alloc (.cells #[.int .i64 id, .string nm, .int .i64 z, .slice A xs.length c] 47)).alloc (.cells #[.int .i64 0, .string { data := #[] }, .int .i64 0, .slice none 0 0] 26)).alloc (.cells #[.int .i64 id, .string nm, .int .i64 z, .slice none 0 0] 26)).cell? ⟨w.heap.size + 1 + 1, 1, none⟩ = some (.string nm) by simp [go_sem]) (by simp [go_sem])
  have a2 := hk.keep (show (((w.alloc (.cells #[.int .i64 id, .string nm, .int .i64 z, .slice A xs.length c] 47)).alloc (.cells #[.int .i64 0, .string { data := #[] }, .int .i64 0, .slice none 0 0] 26)).alloc (.cells #[.int .i64 id, .string nm, .int .i64 z, .slice none 0 0] 26)).cell? ⟨w.heap.size + 1 + 1, 2, none⟩ = some (.int .i64 z) by simp [go_sem])
  have af2 := hk.free (show (((w.alloc (.cells #[.int .i64 id, .string nm, .int .i64 z, .slice A xs.length c] 47)).alloc (.cells #[.int .i64 0, .string { data := #[] }, .int .i64 0, .slice none 0 0] 26)).alloc (.cells #[.int .i64 id, .string nm, .int .i64 z, .slice none 0 0] 26)).cell? ⟨w.heap.size + 1 + 1, 2, none⟩ = some (.int .i64 z) by simp [go_sem]) (by simp [go_sem])
  have a3 := hk.keep (show (((w.alloc (.cells #[.int .i64 id, .string nm, .int .i64 z, .slice A xs.length c] 47)).alloc (.cells #[.int .i64 0, .string { data := #[] }, .int .i64 0, .slice none 0 0] 26)).alloc (.cells #[.int .i64 id, .string nm, .int .i64 z, .slice none 0 0] 26)).cell? ⟨w.heap.size + 1 + 1, 3, none⟩ = some (.slice none 0 0) by simp [go_sem])
  have af3 := hk.free (show (((w.alloc (.cells #[.int .i64 id, .string nm, .int .i64 z, .slice A xs.length c] 47)).alloc (.cells #[.int .i64 0, .string { data := #[] }, .int .i64 0, .slice none 0 0] 26)).alloc (.cells #[.int .i64 id, .string nm, .int .i64 z, .slice none 0 0] 26)).cell? ⟨w.heap.size + 1 + 1, 3, none⟩ = some (.slice none 0 0) by simp [go_sem]) (by simp [go_sem])
  have b0 := hk.keep (show (((w.alloc (.cells #[.int .i64 id, .string nm, .int .i64 z, .slice A xs.length c] 47)).alloc (.cells #[.int .i64 0, .string { data := #[] }, .int .i64 0, .slice none 0 0] 26)).alloc (.cells #[.int .i64 id, .string nm, .int .i64 z, .slice none 0 0] 26)).cell? ⟨w.heap.size + 1, 0, none⟩ = some (.int .i64 0) by simp [go_sem])
  have bf0 := hk.free (show (((w.alloc (.cells #[.int .i64 id, .string nm, .int .i64 z, .slice A xs.length c] 47)).alloc (.cells #[.int .i64 0, .string { data := #[] }, .int .i64 0, .slice none 0 0] 26)).alloc (.cells #[.int .i64 id, .string nm, .int .i64 z, .slice none 0 0] 26)).cell? ⟨w.heap.size + 1, 0, none⟩ = some (.int .i64 0) by simp [go_sem]) (by simp [go_sem])
  have b1 := hk.keep (show (((w.alloc (.cells #[.int .i64 id, .string nm, .int .i64 z, .slice A xs.length c] 47)).alloc (.cells #[.int .i64 0, .string { data := #[] }, .int .i64 0, .slice none 0 0] 26)).alloc (.cells #[.int .i64 id, .string nm, .int .i64 z, .slice none 0 0] 26)).cell? ⟨w.heap.size + 1, 1, none⟩ = some (.string { data := #[] }) by simp [go_sem])
  have bf1 := hk.free (show (((w.alloc (.cells #[.int .i64 id, .string nm, .int .i64 z, .slice A xs.length c] 47)).alloc (.cells #[.int .i64 0, .string { data := #[] }, .int .i64 0, .slice none 0 0] 26)).alloc (.cells #[.int .i64 id, .string nm, .int .i64 z, .slice none 0 0] 26)).cell? ⟨w.heap.size + 1, 1, none⟩ = some (.string { data := #[] }) by simp [go_sem]) (by simp [go_sem])
  have b2 := hk.keep (show (((w.alloc (.cells #[.int .i64 id, .string nm, .int .i64 z, .slice A xs.length c] 47)).alloc (.cells #[.int .i64 0, .string { data := #[] }, .int .i64 0, .slice none 0 0] 26)).alloc (.cells #[.int .i64 id, .string nm, .int .i64 z, .slice none 0 0] 26)).cell? ⟨w.heap.size + 1, 2, none⟩ = some (.int .i64 0) by simp [go_sem])
  have bf2 := hk.free (show (((w.alloc (.cells #[.int .i64 id, .string nm, .int .i64 z, .slice A xs.length c] 47)).alloc (.cells #[.int .i64 0, .string { data := #[] }, .int .i64 0, .slice none 0 0] 26)).alloc (.cells #[.int .i64 id, .string nm, .int .i64 z, .slice none 0 0] 26)).cell? ⟨w.heap.size + 1, 2, none⟩ = some (.int .i64 0) by simp [go_sem]) (by simp [go_sem])
  have b3 := hk.keep (show (((w.alloc (.cells #[.int .i64 id, .string nm, .int .i64 z, .slice A xs.length c] 47)).alloc (.cells #[.int .i64 0, .string { data := #[] }, .int .i64 0, .slice none 0 0] 26)).alloc (.cells #[.int .i64 id, .string nm, .int .i64 z, .slice none 0 0] 26)).cell? ⟨w.heap.size + 1, 3, none⟩ = some (.slice none 0 0) by simp [go_sem])
  have bf3 := hk.free (show (((w.alloc (.cells #[.int .i64 id, .string nm, .int .i64 z, .slice A xs.length c] 47)).alloc (.cells #[.int .i64 0, .string { data := #[] }, .int .i64 0, .slice none 0 0] 26)).alloc (.cells #[.int .i64 id, .string nm, .int .i64 z, .slice none 0 0] 26)).cell? ⟨w.heap.size + 1, 3, none⟩ = some (.slice none 0 0) by simp [go_sem]) (by simp [go_sem])
  have HK := Lib.hid (show Kept w w1 by (repeat (first | exact Kept.refl _ | assumption | refine Kept.alloc ?_ _ | refine Kept.drew ?_ | refine Kept.drewN ?_ _ | refine Kept.setCell ?_ (by first | (simp; done) | (simp; omega) | omega | exact Kept.size (by (repeat (first | exact Kept.refl _ | assumption | refine Kept.alloc ?_ _ | refine Kept.drew ?_ | refine Kept.drewN ?_ _ | refine Kept.trans ?_ (by assumption))))) _ | refine Kept.trans ?_ (by assumption))))
  clear hu1 hk
  go_wp2_with fail
  exact bodyPost_ret (v := .agg #[.int .i64 id, .string nm, .int .i64 z, .slice A1 xs.length c1]) (by simp [results, Try.results33, go_sem, *]) rfl ⟨_, rfl, own_base (ownsRow_setCell_below (ownsRow_setCell_below (ownsRow_setCell_below (ownsRow_setCell_below (ownsRow_setCell_below HU.out (by simp) _) (by simp) _) (by simp) _) (by simp) _) (by simp) _) (by simp), (((((HK.out.setCell (by simp) _).setCell (by simp) _).setCell (by simp) _).setCell (by simp) _).setCell (by simp) _)⟩
theorem eqGauge_any (id : Int) (nm : ByteArray) (z : Int) (u v : Value) (xs : List (Int × Int)) (w : World) (hU : Lies w 2 pairC u xs) (hV : Lies w 2 pairC v xs) : Calls Try.prog 34 #[.agg #[.int .i64 id, .string nm, .int .i64 z, u], .agg #[.int .i64 id, .string nm, .int .i64 z, v]] w fun e w' => e = .returned (.bool true) ∧ Kept w w' := by
  have HU := Lib.hid hU
  have HV := Lib.hid hV
  obtain ⟨A, c, rfl, hlc, hcm, hA⟩ := hU
  obtain ⟨A', c', rfl, hlc', hcm', hA'⟩ := hV
  clear hA hA'
  go_enter Try.func34, Try.ntmps34
  go_wp2_with (go_at_call 39; (with_reducible refine (eqReadingS_any _ _ _ _ (by exact HU.out.kept (by (repeat (first | exact Kept.refl _ | assumption | refine Kept.alloc ?_ _ | refine Kept.drew ?_ | refine Kept.drewN ?_ _ | refine Kept.setCell ?_ (by first | (simp; done) | (simp; omega) | omega | exact Kept.size (by (repeat (first | exact Kept.refl _ | assumption | refine Kept.alloc ?_ _ | refine Kept.drew ?_ | refine Kept.drewN ?_ _ | refine Kept.trans ?_ (by assumption))))) _ | refine Kept.trans ?_ (by assumption))))) (by exact HV.out.kept (by (repeat (first | exact Kept.refl _ | assumption | refine Kept.alloc ?_ _ | refine Kept.drew ?_ | refine Kept.drewN ?_ _ | refine Kept.setCell ?_ (by first | (simp; done) | (simp; omega) | omega | exact Kept.size (by (repeat (first | exact Kept.refl _ | assumption | refine Kept.alloc ?_ _ | refine Kept.drew ?_ | refine Kept.drewN ?_ _ | refine Kept.trans ?_ (by assumption))))) _ | refine Kept.trans ?_ (by assumption)))))).mono ?_); rintro e w' ⟨rfl, hk⟩; (try have hkr := Root.trans (by assumption) hk); (first | (have hkf := From.step (by assumption) hk; obtain ⟨hc, hf⟩ := hkf.cells) | (have hkf := From.start hk; obtain ⟨hc, hf⟩ := hkf.cells)))
  go_ret
  exact ⟨rfl, by (repeat (first | exact Kept.refl _ | assumption | refine Kept.alloc ?_ _ | refine Kept.drew ?_ | refine Kept.drewN ?_ _ | refine Kept.setCell ?_ (by first | (simp; done) | (simp; omega) | omega | exact Kept.size (by (repeat (first | exact Kept.refl _ | assumption | refine Kept.alloc ?_ _ | refine Kept.drew ?_ | refine Kept.drewN ?_ _ | refine Kept.trans ?_ (by assumption))))) _ | refine Kept.trans ?_ (by assumption)))⟩
set_option maxHeartbeats 1000000 in
theorem lawIsGauge (id : Int) (nm : ByteArray) (z : Int) (v : Value) (xs : List (Int × Int)) (hs : nm.size ≤ maxLen) (w : World) (hL : Lies w 2 pairC v xs) : Calls Try.prog 4 #[.agg #[.int .i64 id, .string nm, .int .i64 z, v]] w fun e w' => e = .returned (.bool true) ∧ Kept w w' := by
  have HL := Lib.hid hL
  have hs' := hs
  unfold maxLen at hs
  obtain ⟨A, c, rfl, hlc, hcm, hA⟩ := hL
  clear hA
  go_enter Try.func4, Try.ntmps4
  go_wp2_with fail
  refine (szGauge_left _ _ _ _ _ hs' _ (by omega) (by omega) _ (by exact HL.out.kept (by (repeat (first | exact Kept.refl _ | assumption | refine Kept.alloc ?_ _ | refine Kept.drew ?_ | refine Kept.drewN ?_ _ | refine Kept.setCell ?_ (by first | (simp; done) | (simp; omega) | omega | exact Kept.size (by (repeat (first | exact Kept.refl _ | assumption | refine Kept.alloc ?_ _ | refine Kept.drew ?_ | refine Kept.drewN ?_ _ | refine Kept.trans ?_ (by assumption))))) _ | refine Kept.trans ?_ (by assumption)))))).mono ?_
  rintro e W0 ⟨r, rfl, ⟨r0, r1, hr⟩, k0⟩
  by_cases hneg : r < 0
  · go_wp2_with fail
    go_ret
    exact ⟨rfl, by (repeat (first | exact Kept.refl _ | assumption | refine Kept.alloc ?_ _ | refine Kept.drew ?_ | refine Kept.drewN ?_ _ | refine Kept.setCell ?_ (by first | (simp; done) | (simp; omega) | omega | exact Kept.size (by (repeat (first | exact Kept.refl _ | assumption | refine Kept.alloc ?_ _ | refine Kept.drew ?_ | refine Kept.drewN ?_ _ | refine Kept.trans ?_ (by assumption))))) _ | refine Kept.trans ?_ (by assumption)))⟩
  · have hn := hr (by omega)
    clear hr
    have p0 := k0.keep (show (w.alloc (.cells #[.int .i64 id, .string nm, .int .i64 z, .slice A xs.length c] 47)).cell? ⟨w.heap.size, 0, none⟩ = some (.int .i64 id) by simp [go_sem])
    have p1 := k0.keep (show (w.alloc (.cells #[.int .i64 id, .string nm, .int .i64 z, .slice A xs.length c] 47)).cell? ⟨w.heap.size, 1, none⟩ = some (.string nm) by simp [go_sem])
    have p2 := k0.keep (show (w.alloc (.cells #[.int .i64 id, .string nm, .int .i64 z, .slice A xs.length c] 47)).cell? ⟨w.heap.size, 2, none⟩ = some (.int .i64 z) by simp [go_sem])
    have p3 := k0.keep (show (w.alloc (.cells #[.int .i64 id, .string nm, .int .i64 z, .slice A xs.length c] 47)).cell? ⟨w.heap.size, 3, none⟩ = some (.slice A xs.length c) by simp [go_sem])
    have K0 := Lib.hid (show Kept w W0 by (repeat (first | exact Kept.refl _ | assumption | refine Kept.alloc ?_ _ | refine Kept.drew ?_ | refine Kept.drewN ?_ _ | refine Kept.setCell ?_ (by first | (simp; done) | (simp; omega) | omega | exact Kept.size (by (repeat (first | exact Kept.refl _ | assumption | refine Kept.alloc ?_ _ | refine Kept.drew ?_ | refine Kept.drewN ?_ _ | refine Kept.trans ?_ (by assumption))))) _ | refine Kept.trans ?_ (by assumption))))
    clear k0
    go_wp2_with fail
    refine (toGauge_any _ _ _ _ _ _ (HL.out.kept K0.out) hn).mono ?_
    rintro e W1 ⟨u1, rfl, hu1, k1⟩
    have q0 := k1.keep p0
    have q1 := k1.keep p1
    have q2 := k1.keep p2
    have q3 := k1.keep p3
    have l1 := pairs_own hu1
    clear hu1
    go_wp2_with fail
    refine (sIsGauge_any _ _ _ _ _ hs' _ l1).mono ?_
    rintro e W2 ⟨rfl, k2⟩
    have r0 := k2.keep q0
    have r1 := k2.keep q1
    have r2 := k2.keep q2
    have r3 := k2.keep q3
    clear l1 q0 q1 q2 q3
    go_wp2_with fail
    refine (toGauge_any _ _ _ _ _ _ (HL.out.kept (K0.out.trans (k1.trans k2))) hn).mono ?_
    rintro e W3 ⟨u3, rfl, hu3, k3⟩
    have l3 := pairs_own hu3
    obtain ⟨A3, c3, rfl, -, -, -⟩ := own_form hu3
    have L3 := Lib.hid l3
    have s0 := k3.keep r0
    have s1 := k3.keep r1
    have s2 := k3.keep r2
    have s3 := k3.keep r3
    clear l3 hu3 r0 r1 r2 r3
    go_wp2_with fail
    refine (isGauge_any _ _ _ _ _ hs' _ (L3.out.kept (by (repeat (first | exact Kept.refl _ | assumption | refine Kept.alloc ?_ _ | refine Kept.drew ?_ | refine Kept.drewN ?_ _ | refine Kept.setCell ?_ (by first | (simp; done) | (simp; omega) | omega | exact Kept.size (by (repeat (first | exact Kept.refl _ | assumption | refine Kept.alloc ?_ _ | refine Kept.drew ?_ | refine Kept.drewN ?_ _ | refine Kept.trans ?_ (by assumption))))) _ | refine Kept.trans ?_ (by assumption)))))).mono ?_
    rintro e W4 ⟨rfl, k4⟩
    have hx0 := k4.keep (show (W3.alloc (.cells #[.int .i64 id, .string nm, .int .i64 z, .slice A3 xs.length c3] 26)).cell? ⟨W3.heap.size, 0, none⟩ = some (.int .i64 id) by simp [go_sem])
    have hx1 := k4.keep (show (W3.alloc (.cells #[.int .i64 id, .string nm, .int .i64 z, .slice A3 xs.length c3] 26)).cell? ⟨W3.heap.size, 1, none⟩ = some (.string nm) by simp [go_sem])
    have hx2 := k4.keep (show (W3.alloc (.cells #[.int .i64 id, .string nm, .int .i64 z, .slice A3 xs.length c3] 26)).cell? ⟨W3.heap.size, 2, none⟩ = some (.int .i64 z) by simp [go_sem])
    have hx3 := k4.keep (show (W3.alloc (.cells #[.int .i64 id, .string nm, .int .i64 z, .slice A3 xs.length c3] 26)).cell? ⟨W3.heap.size, 3, none⟩ = some (.slice A3 xs.length c3) by simp [go_sem])
    have t0 := k4.keep ((Kept.alloc (Kept.refl W3) (.cells #[.int .i64 id, .string nm, .int .i64 z, .slice A3 xs.length c3] 26)).keep s0)
    have t1 := k4.keep ((Kept.alloc (Kept.refl W3) (.cells #[.int .i64 id, .string nm, .int .i64 z, .slice A3 xs.length c3] 26)).keep s1)
    have t2 := k4.keep ((Kept.alloc (Kept.refl W3) (.cells #[.int .i64 id, .string nm, .int .i64 z, .slice A3 xs.length c3] 26)).keep s2)
    have t3 := k4.keep ((Kept.alloc (Kept.refl W3) (.cells #[.int .i64 id, .string nm, .int .i64 z, .slice A3 xs.length c3] 26)).keep s3)
    have K4 := Lib.hid (show Kept w W4 from K0.out.trans (k1.trans (k2.trans (k3.trans ((Kept.alloc (Kept.refl _) _).trans k4)))))
    have K34 := Lib.hid (show Kept W3 W4 from (Kept.alloc (Kept.refl _) _).trans k4)
    clear s0 s1 s2 s3 p0 p1 p2 p3 k1 k2 k3 k4
    go_wp2_with fail
    have k04 := K4.out
    have k34 := K34.out
    have kf1_0 : ∀ w' : World, Root (W4) w' → w'.cell? ⟨W3.heap.size, 0, none⟩ = some (.int .i64 id) := fun w' h => h.keep (by first | assumption | exact (Kept.alloc (Kept.refl _) _).keep (by assumption) | (simp [go_sem]; done) | (simp [go_sem, *]; done))
    have kf1_1 : ∀ w' : World, Root (W4) w' → w'.cell? ⟨W3.heap.size, 1, none⟩ = some (.string nm) := fun w' h => h.keep (by first | assumption | exact (Kept.alloc (Kept.refl _) _).keep (by assumption) | (simp [go_sem]; done) | (simp [go_sem, *]; done))
    have kf1_2 : ∀ w' : World, Root (W4) w' → w'.cell? ⟨W3.heap.size, 2, none⟩ = some (.int .i64 z) := fun w' h => h.keep (by first | assumption | exact (Kept.alloc (Kept.refl _) _).keep (by assumption) | (simp [go_sem]; done) | (simp [go_sem, *]; done))
    have kf1_3 : ∀ w' : World, Root (W4) w' → w'.cell? ⟨W3.heap.size, 3, none⟩ = some (.slice A3 xs.length c3) := fun w' h => h.keep (by first | assumption | exact (Kept.alloc (Kept.refl _) _).keep (by assumption) | (simp [go_sem]; done) | (simp [go_sem, *]; done))
    have kf1_4 : ∀ w' : World, Root (W4) w' → w'.cell? ⟨w.heap.size, 0, none⟩ = some (.int .i64 id) := fun w' h => h.keep (by first | assumption | exact (Kept.alloc (Kept.refl _) _).keep (by assumption) | (simp [go_sem]; done) | (simp [go_sem, *]; done))
    have kf1_5 : ∀ w' : World, Root (W4) w' → w'.cell? ⟨w.heap.size, 1, none⟩ = some (.string nm) := fun w' h => h.keep (by first | assumption | exact (Kept.alloc (Kept.refl _) _).keep (by assumption) | (simp [go_sem]; done) | (simp [go_sem, *]; done))
    have kf1_6 : ∀ w' : World, Root (W4) w' → w'.cell? ⟨w.heap.size, 2, none⟩ = some (.int .i64 z) := fun w' h => h.keep (by first | assumption | exact (Kept.alloc (Kept.refl _) _).keep (by assumption) | (simp [go_sem]; done) | (simp [go_sem, *]; done))
    have kf1_7 : ∀ w' : World, Root (W4) w' → w'.cell? ⟨w.heap.size, 3, none⟩ = some (.slice A xs.length c) := fun w' h => h.keep (by first | assumption | exact (Kept.alloc (Kept.refl _) _).keep (by assumption) | (simp [go_sem]; done) | (simp [go_sem, *]; done))
    go_region_held3 (fun w' => Root (W4) w')
      (first | assumption | exact Root.trans (by assumption) hk | exact Root.drew (Root.refl _) | (repeat (first | exact Root.refl _ | assumption | refine Root.alloc ?_ _ | refine Root.drew ?_ | refine Root.setCell ?_ (by first | (simp; done) | (simp; omega) | omega | exact Root.size (by assumption)) _ | refine Root.trans ?_ (by assumption))))
      (first | (go_at_call 33; refine (toGauge_any _ _ _ _ _ _ (by exact HL.out.kept (by (repeat (first | exact Kept.refl _ | assumption | refine Kept.alloc ?_ _ | refine Kept.drew ?_ | refine Kept.drewN ?_ _ | refine Kept.setCell ?_ (by first | (simp; done) | (simp; omega) | omega | exact Kept.size (by (repeat (first | exact Kept.refl _ | assumption | refine Kept.alloc ?_ _ | refine Kept.drew ?_ | refine Kept.drewN ?_ _ | refine Kept.trans ?_ (by assumption))))) _ | refine Kept.trans ?_ (by assumption))))) hn).mono ?_; rintro e w1 ⟨u1, rfl, hu1, hk⟩; (have hkr := Root.trans (by assumption) hk); have hl1 := pairs_own hu1; clear hu1) | (go_at_call 34; refine (eqGauge_any _ _ _ _ _ _ _ (by exact L3.out.kept (by (repeat (first | exact Kept.refl _ | assumption | refine Kept.alloc ?_ _ | refine Kept.drew ?_ | refine Kept.drewN ?_ _ | refine Kept.setCell ?_ (by first | (simp; done) | (simp; omega) | omega | exact Kept.size (by (repeat (first | exact Kept.refl _ | assumption | refine Kept.alloc ?_ _ | refine Kept.drew ?_ | refine Kept.drewN ?_ _ | refine Kept.trans ?_ (by assumption))))) _ | refine Kept.trans ?_ (by assumption))))) (by first | assumption | exact Lies.kept (by assumption) (by (repeat (first | exact Kept.refl _ | assumption | refine Kept.alloc ?_ _ | refine Kept.drew ?_ | refine Kept.drewN ?_ _ | refine Kept.setCell ?_ (by first | (simp; done) | (simp; omega) | omega | exact Kept.size (by (repeat (first | exact Kept.refl _ | assumption | refine Kept.alloc ?_ _ | refine Kept.drew ?_ | refine Kept.drewN ?_ _ | refine Kept.trans ?_ (by assumption))))) _ | refine Kept.trans ?_ (by assumption)))))).mono ?_; rintro e w1 ⟨rfl, hk⟩; (have hkr := Root.trans (by assumption) hk); (first | (have hkf := From.step (by assumption) hk; obtain ⟨hc, hf⟩ := hkf.cells) | (have hkf := From.start hk; obtain ⟨hc, hf⟩ := hkf.cells))))
    go_wp2_with fail
    go_ret
    exact ⟨rfl, by (repeat (first | exact Kept.refl _ | assumption | refine Kept.alloc ?_ _ | refine Kept.drew ?_ | refine Kept.drewN ?_ _ | refine Kept.setCell ?_ (by first | (simp; done) | (simp; omega) | omega | exact Kept.size (by (repeat (first | exact Kept.refl _ | assumption | refine Kept.alloc ?_ _ | refine Kept.drew ?_ | refine Kept.drewN ?_ _ | refine Kept.trans ?_ (by assumption))))) _ | refine Kept.trans ?_ (by assumption)))⟩
end Go.Proofs.Ytopdnhlolfehcaa
