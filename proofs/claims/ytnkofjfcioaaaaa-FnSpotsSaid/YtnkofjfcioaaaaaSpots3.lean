/-
  Contracts of SpotsIn, the program's and the reference's.
  Conditions: none.
-/
import Derived.Test.YtnkofjfcioaaaaaSpots2
import Derived.Test.YtnkofjfcioaaaaaMark
namespace Go.Proofs.Ytnkofjfcioaaaaa
open Go.ChangeShapes Go.WideShapes Go.ChangeAt Go.RowKit
set_option linter.unusedVariables false

def hasB4 (a b c d x y : Int) : Bool := inB x a c && inB y b d
theorem has_any (a b c d x y : Int) (w : World) : Calls Try.prog 65 #[.agg #[.int .i64 a, .int .i64 b, .int .i64 c, .int .i64 d], .agg #[.int .i64 x, .int .i64 y]] w fun e w' => e = .returned (.bool (hasB4 a b c d x y)) ∧ Kept w w' := by
  go_enter Try.func65, Try.ntmps65
  go_wp2_with (go_at_call 69; (with_reducible refine (inside_any _ _ _ _).mono ?_); rintro e w' ⟨rfl, rfl⟩)
  all_goals go_ret
  all_goals exact ⟨ret_bool (by (first | (simp [hasB4, *]; done) | (simp [hasB4, *]; omega) | (simp only [Bool.not_eq_true', Bool.not_eq_false'] at *; simp [hasB4, *]; done) | (simp only [Bool.not_eq_true', Bool.not_eq_false'] at *; simp [hasB4, *]; omega) | (simp only [Bool.not_eq_false'] at *; simp [hasB4, *]; done) | (simp only [Bool.not_eq_false'] at *; simp [hasB4, *]; omega))), by (repeat (first | exact Kept.refl _ | assumption | refine Kept.alloc ?_ _ | refine Kept.drew ?_ | refine Kept.drewN ?_ _ | refine Kept.setCell ?_ (by first | (simp; done) | (simp; omega) | omega | exact Kept.size (by (repeat (first | exact Kept.refl _ | assumption | refine Kept.alloc ?_ _ | refine Kept.drew ?_ | refine Kept.drewN ?_ _ | refine Kept.trans ?_ (by assumption))))) _ | refine Kept.trans ?_ (by assumption)))⟩
theorem l2In_any (a b c d x y : Int) (w : World) : Calls Try.prog 64 #[.agg #[.int .i64 x, .int .i64 y], .agg #[.int .i64 a, .int .i64 b, .int .i64 c, .int .i64 d]] w fun e w' => e = .returned (.bool (hasB4 a b c d x y)) ∧ Kept w w' := by
  go_enter Try.func64, Try.ntmps64
  go_wp2_with (go_at_call 72; (with_reducible refine (l1In_any _ _ _ _).mono ?_); rintro e w' ⟨rfl, rfl⟩)
  all_goals go_ret
  all_goals exact ⟨ret_bool (by (first | (simp [hasB4, *]; done) | (simp [hasB4, *]; omega) | (simp only [Bool.not_eq_true', Bool.not_eq_false'] at *; simp [hasB4, *]; done) | (simp only [Bool.not_eq_true', Bool.not_eq_false'] at *; simp [hasB4, *]; omega) | (simp only [Bool.not_eq_false'] at *; simp [hasB4, *]; done) | (simp only [Bool.not_eq_false'] at *; simp [hasB4, *]; omega))), by (repeat (first | exact Kept.refl _ | assumption | refine Kept.alloc ?_ _ | refine Kept.drew ?_ | refine Kept.drewN ?_ _ | refine Kept.setCell ?_ (by first | (simp; done) | (simp; omega) | omega | exact Kept.size (by (repeat (first | exact Kept.refl _ | assumption | refine Kept.alloc ?_ _ | refine Kept.drew ?_ | refine Kept.drewN ?_ _ | refine Kept.trans ?_ (by assumption))))) _ | refine Kept.trans ?_ (by assumption)))⟩
/-- The indices among the first k whose points lie in a box. -/
def inTo (xs : List (Int × Int)) (a b c d : Int) (k : Nat) : List Int := List.map (fun (j : Nat) => (j : Int)) ((List.range k).filter (fun j => hasB4 a b c d (P1 xs j) (P2 xs j)))
theorem inTo_len (xs : List (Int × Int)) (a b c d : Int) (k : Nat) : (inTo xs a b c d k).length ≤ k := by
  have := List.length_filter_le (fun j => hasB4 a b c d (P1 xs j) (P2 xs j)) (List.range k)
  simpa [inTo] using this
theorem inTo_yes {xs : List (Int × Int)} {a b c d : Int} {k : Nat} (h : hasB4 a b c d (P1 xs k) (P2 xs k) = true) : inTo xs a b c d (k + 1) = inTo xs a b c d k ++ [(k : Int)] := by
  simp [inTo, List.range_succ, List.filter_append, h]
theorem inTo_no {xs : List (Int × Int)} {a b c d : Int} {k : Nat} (h : hasB4 a b c d (P1 xs k) (P2 xs k) = false) : inTo xs a b c d (k + 1) = inTo xs a b c d k := by
  simp [inTo, List.range_succ, List.filter_append, h]
def inOk (xs : List (Int × Int)) (a b c d : Int) : Bool := spotsB xs && boxB a b c d
def inVal (xs : List (Int × Int)) (a b c d : Int) : List Int := if inOk xs a b c d = true then inTo xs a b c d xs.length else []
theorem inVal_no {xs : List (Int × Int)} {a b c d : Int} (h : inOk xs a b c d = false) : inVal xs a b c d = [] := by simp [inVal, h]
theorem inVal_yes {xs : List (Int × Int)} {a b c d : Int} (h : inOk xs a b c d = true) : inVal xs a b c d = inTo xs a b c d xs.length := by simp [inVal, h]
set_option maxHeartbeats 1000000 in
theorem spotsIn_any (v : Value) (xs : List (Int × Int)) (p q r s : Int) (w : World) (hL : Lies w 2 pairC v xs) : Calls Try.prog 31 #[v, .agg #[.int .i64 p, .int .i64 q, .int .i64 r, .int .i64 s]] w fun e w' => ∃ u, e = .returned (.tuple #[u, .bool (inOk xs p q r s)]) ∧ w'.ownsRow w.heap.size 3 1 u (inVal xs p q r s).length ((inVal xs p q r s).flatMap intC) ∧ Kept w w' := by
  have hm := hL.len
  unfold maxLen at hm
  have HL := Lib.hid hL
  obtain ⟨i0, hi0, hz0, hz1, hz2⟩ := info_parts infoInt
  obtain ⟨A, c, rfl, hlc, hcm, hA⟩ := lies_pairs hL
  clear hL
  cases h1 : spotsB xs
  · have H0 := Lib.hid (show inOk xs p q r s = false by simp [inOk, h1])
    have HV := Lib.hid (inVal_no H0.out)
    rw [H0.out, HV.out]
    clear hA
    go_enter Try.func31, Try.ntmps31
    go_wp2_with (go_at_call 24; (with_reducible refine (areSpots_any _ _ _ (by exact HL.out.kept (by (repeat (first | exact Kept.refl _ | assumption | refine Kept.alloc ?_ _ | refine Kept.drew ?_ | refine Kept.drewN ?_ _ | refine Kept.setCell ?_ (by first | (simp; done) | (simp; omega) | omega | exact Kept.size (by (repeat (first | exact Kept.refl _ | assumption | refine Kept.alloc ?_ _ | refine Kept.drew ?_ | refine Kept.drewN ?_ _ | refine Kept.trans ?_ (by assumption))))) _ | refine Kept.trans ?_ (by assumption)))))).mono ?_); rintro e w' ⟨rfl, hk⟩; (try have hkr := Root.trans (by assumption) hk); (first | (have hkf := From.step (by assumption) hk; obtain ⟨hc, hf⟩ := hkf.cells) | (have hkf := From.start hk; obtain ⟨hc, hf⟩ := hkf.cells)))
    go_ret2
    exact ⟨_, rfl, World.ownsRow_nil _ _ _ _, by (repeat (first | exact Kept.refl _ | assumption | refine Kept.alloc ?_ _ | refine Kept.drew ?_ | refine Kept.drewN ?_ _ | refine Kept.setCell ?_ (by first | (simp; done) | (simp; omega) | omega | exact Kept.size (by (repeat (first | exact Kept.refl _ | assumption | refine Kept.alloc ?_ _ | refine Kept.drew ?_ | refine Kept.drewN ?_ _ | refine Kept.trans ?_ (by assumption))))) _ | refine Kept.trans ?_ (by assumption)))⟩
  · cases h2 : boxB p q r s
    · have H0 := Lib.hid (show inOk xs p q r s = false by simp [inOk, h2])
      have HV := Lib.hid (inVal_no H0.out)
      rw [H0.out, HV.out]
      clear hA
      go_enter Try.func31, Try.ntmps31
      go_wp2_with (first | (go_at_call 24; (with_reducible refine (areSpots_any _ _ _ (by exact HL.out.kept (by (repeat (first | exact Kept.refl _ | assumption | refine Kept.alloc ?_ _ | refine Kept.drew ?_ | refine Kept.drewN ?_ _ | refine Kept.setCell ?_ (by first | (simp; done) | (simp; omega) | omega | exact Kept.size (by (repeat (first | exact Kept.refl _ | assumption | refine Kept.alloc ?_ _ | refine Kept.drew ?_ | refine Kept.drewN ?_ _ | refine Kept.trans ?_ (by assumption))))) _ | refine Kept.trans ?_ (by assumption)))))).mono ?_); rintro e w' ⟨rfl, hk⟩; (try have hkr := Root.trans (by assumption) hk); (first | (have hkf := From.step (by assumption) hk; obtain ⟨hc, hf⟩ := hkf.cells) | (have hkf := From.start hk; obtain ⟨hc, hf⟩ := hkf.cells))) | (go_at_call 38; (with_reducible refine (isBox_any _ _ _ _ _).mono ?_); rintro e w' ⟨rfl, hk⟩; (try have hkr := Root.trans (by assumption) hk); (first | (have hkf := From.step (by assumption) hk; obtain ⟨hc, hf⟩ := hkf.cells) | (have hkf := From.start hk; obtain ⟨hc, hf⟩ := hkf.cells))))
      go_ret2
      exact ⟨_, rfl, World.ownsRow_nil _ _ _ _, by (repeat (first | exact Kept.refl _ | assumption | refine Kept.alloc ?_ _ | refine Kept.drew ?_ | refine Kept.drewN ?_ _ | refine Kept.setCell ?_ (by first | (simp; done) | (simp; omega) | omega | exact Kept.size (by (repeat (first | exact Kept.refl _ | assumption | refine Kept.alloc ?_ _ | refine Kept.drew ?_ | refine Kept.drewN ?_ _ | refine Kept.trans ?_ (by assumption))))) _ | refine Kept.trans ?_ (by assumption)))⟩
    · have H0 := Lib.hid (show inOk xs p q r s = true by simp [inOk, h1, h2])
      rw [H0.out, inVal_yes H0.out]
      have HA := Lib.hid hA
      have H1 := Lib.hid h1
      have hsl : (xs.length : Int) ≤ 12 := by have := h1; simp only [spotsB, Bool.and_eq_true, decide_eq_true_eq] at this; exact this.2
      clear hA
      go_enter Try.func31, Try.ntmps31
      go_wp2_with (first | (go_at_call 24; (with_reducible refine (areSpots_any _ _ _ (by exact HL.out.kept (by (repeat (first | exact Kept.refl _ | assumption | refine Kept.alloc ?_ _ | refine Kept.drew ?_ | refine Kept.drewN ?_ _ | refine Kept.setCell ?_ (by first | (simp; done) | (simp; omega) | omega | exact Kept.size (by (repeat (first | exact Kept.refl _ | assumption | refine Kept.alloc ?_ _ | refine Kept.drew ?_ | refine Kept.drewN ?_ _ | refine Kept.trans ?_ (by assumption))))) _ | refine Kept.trans ?_ (by assumption)))))).mono ?_); rintro e w' ⟨rfl, hk⟩; (try have hkr := Root.trans (by assumption) hk); (first | (have hkf := From.step (by assumption) hk; obtain ⟨hc, hf⟩ := hkf.cells) | (have hkf := From.start hk; obtain ⟨hc, hf⟩ := hkf.cells))) | (go_at_call 38; (with_reducible refine (isBox_any _ _ _ _ _).mono ?_); rintro e w' ⟨rfl, hk⟩; (try have hkr := Root.trans (by assumption) hk); (first | (have hkf := From.step (by assumption) hk; obtain ⟨hc, hf⟩ := hkf.cells) | (have hkf := From.start hk; obtain ⟨hc, hf⟩ := hkf.cells))))
      have HW := Lib.hid (show Kept (w.alloc (.cells #[.int .i64 p, .int .i64 q, .int .i64 r, .int .i64 s] 33)) w' by (repeat (first | exact Kept.refl _ | assumption | refine Kept.alloc ?_ _ | refine Kept.drew ?_ | refine Kept.drewN ?_ _ | refine Kept.setCell ?_ (by first | (simp; done) | (simp; omega) | omega | exact Kept.size (by (repeat (first | exact Kept.refl _ | assumption | refine Kept.alloc ?_ _ | refine Kept.drew ?_ | refine Kept.drewN ?_ _ | refine Kept.trans ?_ (by assumption))))) _ | refine Kept.trans ?_ (by assumption))))
      clear hc hf hkf
      go_loopw [6, 20] (fun v i wr => ∃ k : Nat, k ≤ xs.length ∧ i = .int .i64 (k : Int) ∧ Kept (w.alloc (.cells #[.int .i64 p, .int .i64 q, .int .i64 r, .int .i64 s] 33)) wr ∧ wr.ownsRow (w.alloc (.cells #[.int .i64 p, .int .i64 q, .int .i64 r, .int .i64 s] 33)).heap.size 3 1 v (inTo xs p q r s k).length ((inTo xs p q r s k).flatMap intC)) (fun _ i _ => xs.length - (intOf i).toNat)
      case atStart => exact ⟨0, by omega, rfl, by (repeat (first | exact Kept.refl _ | assumption | refine Kept.alloc ?_ _ | refine Kept.drew ?_ | refine Kept.drewN ?_ _ | refine Kept.setCell ?_ (by first | (simp; done) | (simp; omega) | omega | exact Kept.size (by (repeat (first | exact Kept.refl _ | assumption | refine Kept.alloc ?_ _ | refine Kept.drew ?_ | refine Kept.drewN ?_ _ | refine Kept.trans ?_ (by assumption))))) _ | refine Kept.trans ?_ (by assumption))), own_base (World.ownsRow_lit (e := 3) (size := 1) w' #[] 0 (Nat.le_refl _) (by simp [maxLen]) rfl) HW.out.size⟩
      case round =>
        obtain ⟨k, hk, rfl, hkw, hown⟩ := hrel
        have HO := Lib.hid hown
        have HK := Lib.hid hkw
        clear hown hkw
        by_cases hlt : k < xs.length
        · obtain ⟨b, off, rfl, hc⟩ := HA.out (by omega)
          have HC := Lib.hid hc
          have p0 := HK.out.keep (show (w.alloc (.cells #[.int .i64 p, .int .i64 q, .int .i64 r, .int .i64 s] 33)).cell? ⟨w.heap.size, 0, none⟩ = some (.int .i64 p) by simp [go_sem])
          have p1 := HK.out.keep (show (w.alloc (.cells #[.int .i64 p, .int .i64 q, .int .i64 r, .int .i64 s] 33)).cell? ⟨w.heap.size, 1, none⟩ = some (.int .i64 q) by simp [go_sem])
          have p2 := HK.out.keep (show (w.alloc (.cells #[.int .i64 p, .int .i64 q, .int .i64 r, .int .i64 s] 33)).cell? ⟨w.heap.size, 2, none⟩ = some (.int .i64 r) by simp [go_sem])
          have p3 := HK.out.keep (show (w.alloc (.cells #[.int .i64 p, .int .i64 q, .int .i64 r, .int .i64 s] 33)).cell? ⟨w.heap.size, 3, none⟩ = some (.int .i64 s) by simp [go_sem])
          have c0 := HK.out.keep ((HC.out k hlt).1 |> (Kept.alloc (Kept.refl w) _).keep)
          have c1 := HK.out.keep ((HC.out k hlt).2 |> (Kept.alloc (Kept.refl w) _).keep)
          have hgl := inTo_len xs p q r s k
          have hbase := HK.out.size
          have z0 : w.heap.size < wr.heap.size := by simp at hbase; omega
          have z1 : w.heap.size ≤ wr.heap.size := by omega
          have z2 : ¬ w.heap.size = wr.heap.size := by omega
          have z3 : ¬ wr.heap.size = w.heap.size := by omega
          clear hc
          cases hh : hasB4 p q r s (P1 xs k) (P2 xs k)
          · have HI := Lib.hid (inTo_no hh)
            go_wp2_with (go_at_call 65; (with_reducible refine (has_any _ _ _ _ _ _ _).mono ?_); rintro e w' ⟨rfl, hk⟩; (try have hkr := Root.trans (by assumption) hk); (first | (have hkf := From.step (by assumption) hk; obtain ⟨hc, hf⟩ := hkf.cells) | (have hkf := From.start hk; obtain ⟨hc, hf⟩ := hkf.cells)))
            go_roundw
            case rel => exact ⟨k + 1, by omega, by go_num, by have hq := HK.out; (repeat (first | exact Kept.refl _ | assumption | refine Kept.alloc ?_ _ | refine Kept.drew ?_ | refine Kept.drewN ?_ _ | refine Kept.setCell ?_ (by first | (simp; done) | (simp; omega) | omega | exact Kept.size (by (repeat (first | exact Kept.refl _ | assumption | refine Kept.alloc ?_ _ | refine Kept.drew ?_ | refine Kept.drewN ?_ _ | refine Kept.trans ?_ (by assumption))))) _ | refine Kept.trans ?_ (by assumption))), by rw [HI.out]; exact own_kept HO.out (by (repeat (first | exact Kept.refl _ | assumption | refine Kept.alloc ?_ _ | refine Kept.drew ?_ | refine Kept.drewN ?_ _ | refine Kept.setCell ?_ (by first | (simp; done) | (simp; omega) | omega | exact Kept.size (by (repeat (first | exact Kept.refl _ | assumption | refine Kept.alloc ?_ _ | refine Kept.drew ?_ | refine Kept.drewN ?_ _ | refine Kept.trans ?_ (by assumption))))) _ | refine Kept.trans ?_ (by assumption))))⟩
            case measure => simp [intOf]; omega
          · have HI := Lib.hid (inTo_yes hh)
            go_wp2_with (first | ((go_at_call 65; (with_reducible refine (has_any _ _ _ _ _ _ _).mono ?_); rintro e w' ⟨rfl, hk⟩; (try have hkr := Root.trans (by assumption) hk); (first | (have hkf := From.step (by assumption) hk; obtain ⟨hc, hf⟩ := hkf.cells) | (have hkf := From.start hk; obtain ⟨hc, hf⟩ := hkf.cells))); have HK2 := Lib.hid (show Kept wr w' by (repeat (first | exact Kept.refl _ | assumption | refine Kept.alloc ?_ _ | refine Kept.drew ?_ | refine Kept.drewN ?_ _ | refine Kept.setCell ?_ (by first | (simp; done) | (simp; omega) | omega | exact Kept.size (by (repeat (first | exact Kept.refl _ | assumption | refine Kept.alloc ?_ _ | refine Kept.drew ?_ | refine Kept.drewN ?_ _ | refine Kept.trans ?_ (by assumption))))) _ | refine Kept.trans ?_ (by assumption))))) | (at_builtin; refine wpList_append_own _ rfl (.tmp 28) (.tmp 30) _ rfl (w.alloc (.cells #[.int .i64 p, .int .i64 q, .int .i64 r, .int .i64 s] 33)).heap.size 3 i0 (.int .i64 0) 1 8 Try.underlying49 hi0 hz0 hz1 hz2 rfl (by decide) _ (inTo xs p q r s k).length _ rfl ((own_kept HO.out HK2.out).alloc _) ⟨w'.heap.size, 0, none⟩ 1 1 [.int .i64 (k : Int)] rfl rfl (cell_one_new _ _ _) (by simp [Value.oneCell']) (by unfold maxLen; omega) (by omega) (by have := HK.out.size; have := hk.size; simp at *; omega) ?_; intro v1 w1 hown1 hgrow1 _))
            have hgo := Kept.of_own HK.out HO.out hgrow1 (by (repeat (first | exact Kept.refl _ | assumption | refine Kept.alloc ?_ _ | refine Kept.drew ?_ | refine Kept.drewN ?_ _ | refine Kept.setCell ?_ (by first | (simp; done) | (simp; omega) | omega | exact Kept.size (by (repeat (first | exact Kept.refl _ | assumption | refine Kept.alloc ?_ _ | refine Kept.drew ?_ | refine Kept.drewN ?_ _ | refine Kept.trans ?_ (by assumption))))) _ | refine Kept.trans ?_ (by assumption))))
            go_roundw
            case rel => exact ⟨k + 1, by omega, by go_num, hgo, by rw [HI.out, List.length_append, List.flatMap_append]; exact hown1⟩
            case measure => simp [intOf]; omega
        · have e : k = xs.length := by omega
          have HF := Lib.hid (show inTo xs p q r s xs.length = inTo xs p q r s k by rw [e])
          clear e
          go_wp2
          go_ret2
          exact ⟨_, rfl, by rw [HF.out]; exact own_base HO.out (by simp), (Kept.alloc (Kept.refl w) _).trans HK.out⟩
set_option maxHeartbeats 1000000 in
theorem sSpotsIn_any (v : Value) (xs : List (Int × Int)) (p q r s : Int) (w : World) (hL : Lies w 2 pairC v xs) : Calls Try.prog 30 #[v, .agg #[.int .i64 p, .int .i64 q, .int .i64 r, .int .i64 s]] w fun e w' => ∃ u, e = .returned (.tuple #[u, .bool (inOk xs p q r s)]) ∧ w'.ownsRow w.heap.size 3 1 u (inVal xs p q r s).length ((inVal xs p q r s).flatMap intC) ∧ Kept w w' := by
  have hm := hL.len
  unfold maxLen at hm
  have HL := Lib.hid hL
  obtain ⟨i0, hi0, hz0, hz1, hz2⟩ := info_parts infoInt
  have HO0 : Hid (((w.alloc (.cells #[.int .i64 p, .int .i64 q, .int .i64 r, .int .i64 s] 33)).alloc (.cells #[] 3)).ownsRow (w.alloc (.cells #[.int .i64 p, .int .i64 q, .int .i64 r, .int .i64 s] 33)).heap.size 3 1 (.slice (some ⟨w.heap.size + 1, 0, none⟩) 0 0) 0 []) := by
    have h := World.ownsRow_lit (e := 3) (size := 1) (w.alloc (.cells #[.int .i64 p, .int .i64 q, .int .i64 r, .int .i64 s] 33)) #[] 0 (Nat.le_refl _) (by simp [maxLen]) rfl
    have e : (w.alloc (.cells #[.int .i64 p, .int .i64 q, .int .i64 r, .int .i64 s] 33)).heap.size = w.heap.size + 1 := by simp
    rw [← e]
    exact h
  obtain ⟨A, c, rfl, hlc, hcm, hA⟩ := lies_pairs hL
  clear hL
  cases h1 : spotsB xs
  · have H0 := Lib.hid (show inOk xs p q r s = false by simp [inOk, h1])
    have HV := Lib.hid (inVal_no H0.out)
    rw [H0.out, HV.out]
    clear hA
    go_enter Try.func30, Try.ntmps30
    go_wp2_with (go_at_call 62; (with_reducible refine (l2Spots_any _ _ _ (by exact HL.out.kept (by (repeat (first | exact Kept.refl _ | assumption | refine Kept.alloc ?_ _ | refine Kept.drew ?_ | refine Kept.drewN ?_ _ | refine Kept.setCell ?_ (by first | (simp; done) | (simp; omega) | omega | exact Kept.size (by (repeat (first | exact Kept.refl _ | assumption | refine Kept.alloc ?_ _ | refine Kept.drew ?_ | refine Kept.drewN ?_ _ | refine Kept.trans ?_ (by assumption))))) _ | refine Kept.trans ?_ (by assumption)))))).mono ?_); rintro e w' ⟨rfl, hk⟩; (try have hkr := Root.trans (by assumption) hk); (first | (have hkf := From.step (by assumption) hk; obtain ⟨hc, hf⟩ := hkf.cells) | (have hkf := From.start hk; obtain ⟨hc, hf⟩ := hkf.cells)))
    go_ret2
    exact ⟨_, rfl, own_base (own_kept HO0.out (by (repeat (first | exact Kept.refl _ | assumption | refine Kept.alloc ?_ _ | refine Kept.drew ?_ | refine Kept.drewN ?_ _ | refine Kept.setCell ?_ (by first | (simp; done) | (simp; omega) | omega | exact Kept.size (by (repeat (first | exact Kept.refl _ | assumption | refine Kept.alloc ?_ _ | refine Kept.drew ?_ | refine Kept.drewN ?_ _ | refine Kept.trans ?_ (by assumption))))) _ | refine Kept.trans ?_ (by assumption))))) (by simp), by (repeat (first | exact Kept.refl _ | assumption | refine Kept.alloc ?_ _ | refine Kept.drew ?_ | refine Kept.drewN ?_ _ | refine Kept.setCell ?_ (by first | (simp; done) | (simp; omega) | omega | exact Kept.size (by (repeat (first | exact Kept.refl _ | assumption | refine Kept.alloc ?_ _ | refine Kept.drew ?_ | refine Kept.drewN ?_ _ | refine Kept.trans ?_ (by assumption))))) _ | refine Kept.trans ?_ (by assumption)))⟩
  · cases h2 : boxB p q r s
    · have H0 := Lib.hid (show inOk xs p q r s = false by simp [inOk, h2])
      have HV := Lib.hid (inVal_no H0.out)
      rw [H0.out, HV.out]
      clear hA
      go_enter Try.func30, Try.ntmps30
      go_wp2_with (first | (go_at_call 62; (with_reducible refine (l2Spots_any _ _ _ (by exact HL.out.kept (by (repeat (first | exact Kept.refl _ | assumption | refine Kept.alloc ?_ _ | refine Kept.drew ?_ | refine Kept.drewN ?_ _ | refine Kept.setCell ?_ (by first | (simp; done) | (simp; omega) | omega | exact Kept.size (by (repeat (first | exact Kept.refl _ | assumption | refine Kept.alloc ?_ _ | refine Kept.drew ?_ | refine Kept.drewN ?_ _ | refine Kept.trans ?_ (by assumption))))) _ | refine Kept.trans ?_ (by assumption)))))).mono ?_); rintro e w' ⟨rfl, hk⟩; (try have hkr := Root.trans (by assumption) hk); (first | (have hkf := From.step (by assumption) hk; obtain ⟨hc, hf⟩ := hkf.cells) | (have hkf := From.start hk; obtain ⟨hc, hf⟩ := hkf.cells))) | (go_at_call 61; (with_reducible refine (l2Box_any _ _ _ _ _).mono ?_); rintro e w' ⟨rfl, hk⟩; (try have hkr := Root.trans (by assumption) hk); (first | (have hkf := From.step (by assumption) hk; obtain ⟨hc, hf⟩ := hkf.cells) | (have hkf := From.start hk; obtain ⟨hc, hf⟩ := hkf.cells))))
      go_ret2
      exact ⟨_, rfl, own_base (own_kept HO0.out (by (repeat (first | exact Kept.refl _ | assumption | refine Kept.alloc ?_ _ | refine Kept.drew ?_ | refine Kept.drewN ?_ _ | refine Kept.setCell ?_ (by first | (simp; done) | (simp; omega) | omega | exact Kept.size (by (repeat (first | exact Kept.refl _ | assumption | refine Kept.alloc ?_ _ | refine Kept.drew ?_ | refine Kept.drewN ?_ _ | refine Kept.trans ?_ (by assumption))))) _ | refine Kept.trans ?_ (by assumption))))) (by simp), by (repeat (first | exact Kept.refl _ | assumption | refine Kept.alloc ?_ _ | refine Kept.drew ?_ | refine Kept.drewN ?_ _ | refine Kept.setCell ?_ (by first | (simp; done) | (simp; omega) | omega | exact Kept.size (by (repeat (first | exact Kept.refl _ | assumption | refine Kept.alloc ?_ _ | refine Kept.drew ?_ | refine Kept.drewN ?_ _ | refine Kept.trans ?_ (by assumption))))) _ | refine Kept.trans ?_ (by assumption)))⟩
    · have H0 := Lib.hid (show inOk xs p q r s = true by simp [inOk, h1, h2])
      rw [H0.out, inVal_yes H0.out]
      have HA := Lib.hid hA
      have H1 := Lib.hid h1
      have hsl : (xs.length : Int) ≤ 12 := by have := h1; simp only [spotsB, Bool.and_eq_true, decide_eq_true_eq] at this; exact this.2
      clear hA
      go_enter Try.func30, Try.ntmps30
      go_wp2_with (first | ((go_at_call 62; (with_reducible refine (l2Spots_any _ _ _ (by exact HL.out.kept (by (repeat (first | exact Kept.refl _ | assumption | refine Kept.alloc ?_ _ | refine Kept.drew ?_ | refine Kept.drewN ?_ _ | refine Kept.setCell ?_ (by first | (simp; done) | (simp; omega) | omega | exact Kept.size (by (repeat (first | exact Kept.refl _ | assumption | refine Kept.alloc ?_ _ | refine Kept.drew ?_ | refine Kept.drewN ?_ _ | refine Kept.trans ?_ (by assumption))))) _ | refine Kept.trans ?_ (by assumption)))))).mono ?_); rintro e w' ⟨rfl, hk⟩; (try have hkr := Root.trans (by assumption) hk); (first | (have hkf := From.step (by assumption) hk; obtain ⟨hc, hf⟩ := hkf.cells) | (have hkf := From.start hk; obtain ⟨hc, hf⟩ := hkf.cells))); have HK0 := Lib.hid (show Kept ((w.alloc (.cells #[.int .i64 p, .int .i64 q, .int .i64 r, .int .i64 s] 33)).alloc (.cells #[] 3)) w' from hk)) | ((go_at_call 61; (with_reducible refine (l2Box_any _ _ _ _ _).mono ?_); rintro e w' ⟨rfl, hk⟩; (try have hkr := Root.trans (by assumption) hk); (first | (have hkf := From.step (by assumption) hk; obtain ⟨hc, hf⟩ := hkf.cells) | (have hkf := From.start hk; obtain ⟨hc, hf⟩ := hkf.cells))); have HW2 := Lib.hid (HK0.out.trans hk)))
      have HW := Lib.hid (show Kept (w.alloc (.cells #[.int .i64 p, .int .i64 q, .int .i64 r, .int .i64 s] 33)) w' from (Kept.alloc (Kept.refl _) _).trans HW2.out)
      clear hc hf hkf
      go_loopw [6, 7] (fun v i wr => ∃ k : Nat, k ≤ xs.length ∧ i = .int .i64 (k : Int) ∧ Kept (w.alloc (.cells #[.int .i64 p, .int .i64 q, .int .i64 r, .int .i64 s] 33)) wr ∧ wr.ownsRow (w.alloc (.cells #[.int .i64 p, .int .i64 q, .int .i64 r, .int .i64 s] 33)).heap.size 3 1 v (inTo xs p q r s k).length ((inTo xs p q r s k).flatMap intC)) (fun _ i _ => xs.length - (intOf i).toNat)
      case atStart => exact ⟨0, by omega, rfl, by have hq := HW.out; (repeat (first | exact Kept.refl _ | assumption | refine Kept.alloc ?_ _ | refine Kept.drew ?_ | refine Kept.drewN ?_ _ | refine Kept.setCell ?_ (by first | (simp; done) | (simp; omega) | omega | exact Kept.size (by (repeat (first | exact Kept.refl _ | assumption | refine Kept.alloc ?_ _ | refine Kept.drew ?_ | refine Kept.drewN ?_ _ | refine Kept.trans ?_ (by assumption))))) _ | refine Kept.trans ?_ (by assumption))), own_kept HO0.out HW2.out⟩
      case round =>
        obtain ⟨k, hk, rfl, hkw, hown⟩ := hrel
        have HO := Lib.hid hown
        have HK := Lib.hid hkw
        clear hown hkw
        by_cases hlt : k < xs.length
        · obtain ⟨b, off, rfl, hc⟩ := HA.out (by omega)
          have HC := Lib.hid hc
          have p0 := HK.out.keep (show (w.alloc (.cells #[.int .i64 p, .int .i64 q, .int .i64 r, .int .i64 s] 33)).cell? ⟨w.heap.size, 0, none⟩ = some (.int .i64 p) by simp [go_sem])
          have p1 := HK.out.keep (show (w.alloc (.cells #[.int .i64 p, .int .i64 q, .int .i64 r, .int .i64 s] 33)).cell? ⟨w.heap.size, 1, none⟩ = some (.int .i64 q) by simp [go_sem])
          have p2 := HK.out.keep (show (w.alloc (.cells #[.int .i64 p, .int .i64 q, .int .i64 r, .int .i64 s] 33)).cell? ⟨w.heap.size, 2, none⟩ = some (.int .i64 r) by simp [go_sem])
          have p3 := HK.out.keep (show (w.alloc (.cells #[.int .i64 p, .int .i64 q, .int .i64 r, .int .i64 s] 33)).cell? ⟨w.heap.size, 3, none⟩ = some (.int .i64 s) by simp [go_sem])
          have c0 := HK.out.keep ((HC.out k hlt).1 |> (Kept.alloc (Kept.refl w) _).keep)
          have c1 := HK.out.keep ((HC.out k hlt).2 |> (Kept.alloc (Kept.refl w) _).keep)
          have hgl := inTo_len xs p q r s k
          have hbase := HK.out.size
          have z0 : w.heap.size < wr.heap.size := by simp at hbase; omega
          have z1 : w.heap.size ≤ wr.heap.size := by omega
          have z2 : ¬ w.heap.size = wr.heap.size := by omega
          have z3 : ¬ wr.heap.size = w.heap.size := by omega
          clear hc
          have hIn := fun W => l2In_any p q r s (P1 xs k) (P2 xs k) W
          have k0 : (0 : Int) ≤ (k : Int) := by omega
          have k1 : (k : Int) < (xs.length : Int) := by omega
          cases hh : hasB4 p q r s (P1 xs k) (P2 xs k)
          · have HI := Lib.hid (inTo_no hh)
            rw [hh] at hIn
            have HIN := Lib.hid hIn
            clear hIn
            go_wp2_with fail
            have kf1_0 : ∀ w' : World, Root (wr) w' → w'.cell? ⟨w.heap.size, 0, none⟩ = some (.int .i64 p) := fun w' h => h.keep (by first | assumption | exact (Kept.alloc (Kept.refl _) _).keep (by assumption) | (simp [go_sem]; done) | (simp [go_sem, *]; done))
            have kf1_1 : ∀ w' : World, Root (wr) w' → w'.cell? ⟨w.heap.size, 1, none⟩ = some (.int .i64 q) := fun w' h => h.keep (by first | assumption | exact (Kept.alloc (Kept.refl _) _).keep (by assumption) | (simp [go_sem]; done) | (simp [go_sem, *]; done))
            have kf1_2 : ∀ w' : World, Root (wr) w' → w'.cell? ⟨w.heap.size, 2, none⟩ = some (.int .i64 r) := fun w' h => h.keep (by first | assumption | exact (Kept.alloc (Kept.refl _) _).keep (by assumption) | (simp [go_sem]; done) | (simp [go_sem, *]; done))
            have kf1_3 : ∀ w' : World, Root (wr) w' → w'.cell? ⟨w.heap.size, 3, none⟩ = some (.int .i64 s) := fun w' h => h.keep (by first | assumption | exact (Kept.alloc (Kept.refl _) _).keep (by assumption) | (simp [go_sem]; done) | (simp [go_sem, *]; done))
            have kf1_4 : ∀ w' : World, Root (wr) w' → w'.cell? ⟨b, off + k * 2, none⟩ = some (.int .i64 (P1 xs k)) := fun w' h => h.keep (by first | assumption | exact (Kept.alloc (Kept.refl _) _).keep (by assumption) | (simp [go_sem]; done) | (simp [go_sem, *]; done))
            have kf1_5 : ∀ w' : World, Root (wr) w' → w'.cell? ⟨b, off + k * 2 + 1, none⟩ = some (.int .i64 (P2 xs k)) := fun w' h => h.keep (by first | assumption | exact (Kept.alloc (Kept.refl _) _).keep (by assumption) | (simp [go_sem]; done) | (simp [go_sem, *]; done))
            go_region_held3 (fun w' => Root (wr) w')
              (first | assumption | exact Root.trans (by assumption) hk | exact Root.drew (Root.refl _) | (repeat (first | exact Root.refl _ | assumption | refine Root.alloc ?_ _ | refine Root.drew ?_ | refine Root.setCell ?_ (by first | (simp; done) | (simp; omega) | omega | exact Root.size (by assumption)) _ | refine Root.trans ?_ (by assumption))))
              (first | (go_at_call 64; refine (HIN.out _).mono ?_; rintro e w1 ⟨rfl, hk⟩; (have hkr := Root.trans (by assumption) hk); (first | (have hkf := From.step (by assumption) hk; obtain ⟨hc, hf⟩ := hkf.cells) | (have hkf := From.start hk; obtain ⟨hc, hf⟩ := hkf.cells))))
            go_wp2
            go_roundw
            case rel => exact ⟨k + 1, by omega, by go_num, by have hq := HK.out; (repeat (first | exact Kept.refl _ | assumption | refine Kept.alloc ?_ _ | refine Kept.drew ?_ | refine Kept.drewN ?_ _ | refine Kept.setCell ?_ (by first | (simp; done) | (simp; omega) | omega | exact Kept.size (by (repeat (first | exact Kept.refl _ | assumption | refine Kept.alloc ?_ _ | refine Kept.drew ?_ | refine Kept.drewN ?_ _ | refine Kept.trans ?_ (by assumption))))) _ | refine Kept.trans ?_ (by assumption))), by rw [HI.out]; exact own_kept HO.out (by (repeat (first | exact Kept.refl _ | assumption | refine Kept.alloc ?_ _ | refine Kept.drew ?_ | refine Kept.drewN ?_ _ | refine Kept.setCell ?_ (by first | (simp; done) | (simp; omega) | omega | exact Kept.size (by (repeat (first | exact Kept.refl _ | assumption | refine Kept.alloc ?_ _ | refine Kept.drew ?_ | refine Kept.drewN ?_ _ | refine Kept.trans ?_ (by assumption))))) _ | refine Kept.trans ?_ (by assumption))))⟩
            case measure => simp [intOf]; omega
          · have HI := Lib.hid (inTo_yes hh)
            rw [hh] at hIn
            have HIN := Lib.hid hIn
            clear hIn
            go_wp2_with fail
            have kf2_0 : ∀ w' : World, Root (wr) w' → w'.cell? ⟨w.heap.size, 0, none⟩ = some (.int .i64 p) := fun w' h => h.keep (by first | assumption | exact (Kept.alloc (Kept.refl _) _).keep (by assumption) | (simp [go_sem]; done) | (simp [go_sem, *]; done))
            have kf2_1 : ∀ w' : World, Root (wr) w' → w'.cell? ⟨w.heap.size, 1, none⟩ = some (.int .i64 q) := fun w' h => h.keep (by first | assumption | exact (Kept.alloc (Kept.refl _) _).keep (by assumption) | (simp [go_sem]; done) | (simp [go_sem, *]; done))
            have kf2_2 : ∀ w' : World, Root (wr) w' → w'.cell? ⟨w.heap.size, 2, none⟩ = some (.int .i64 r) := fun w' h => h.keep (by first | assumption | exact (Kept.alloc (Kept.refl _) _).keep (by assumption) | (simp [go_sem]; done) | (simp [go_sem, *]; done))
            have kf2_3 : ∀ w' : World, Root (wr) w' → w'.cell? ⟨w.heap.size, 3, none⟩ = some (.int .i64 s) := fun w' h => h.keep (by first | assumption | exact (Kept.alloc (Kept.refl _) _).keep (by assumption) | (simp [go_sem]; done) | (simp [go_sem, *]; done))
            have kf2_4 : ∀ w' : World, Root (wr) w' → w'.cell? ⟨b, off + k * 2, none⟩ = some (.int .i64 (P1 xs k)) := fun w' h => h.keep (by first | assumption | exact (Kept.alloc (Kept.refl _) _).keep (by assumption) | (simp [go_sem]; done) | (simp [go_sem, *]; done))
            have kf2_5 : ∀ w' : World, Root (wr) w' → w'.cell? ⟨b, off + k * 2 + 1, none⟩ = some (.int .i64 (P2 xs k)) := fun w' h => h.keep (by first | assumption | exact (Kept.alloc (Kept.refl _) _).keep (by assumption) | (simp [go_sem]; done) | (simp [go_sem, *]; done))
            go_region_held3 (fun w' => Root (wr) w')
              (first | assumption | exact Root.trans (by assumption) hk | exact Root.drew (Root.refl _) | (repeat (first | exact Root.refl _ | assumption | refine Root.alloc ?_ _ | refine Root.drew ?_ | refine Root.setCell ?_ (by first | (simp; done) | (simp; omega) | omega | exact Root.size (by assumption)) _ | refine Root.trans ?_ (by assumption))))
              (first | (go_at_call 64; refine (HIN.out _).mono ?_; rintro e w1 ⟨rfl, hk⟩; (have hkr := Root.trans (by assumption) hk); (first | (have hkf := From.step (by assumption) hk; obtain ⟨hc, hf⟩ := hkf.cells) | (have hkf := From.start hk; obtain ⟨hc, hf⟩ := hkf.cells))))
            have HK2 := Lib.hid (show Kept wr w1 by (repeat (first | exact Kept.refl _ | assumption | refine Kept.alloc ?_ _ | refine Kept.drew ?_ | refine Kept.drewN ?_ _ | refine Kept.setCell ?_ (by first | (simp; done) | (simp; omega) | omega | exact Kept.size (by (repeat (first | exact Kept.refl _ | assumption | refine Kept.alloc ?_ _ | refine Kept.drew ?_ | refine Kept.drewN ?_ _ | refine Kept.trans ?_ (by assumption))))) _ | refine Kept.trans ?_ (by assumption))))
            go_wp2_with (at_builtin; refine wpList_append_own _ rfl (.tmp 30) (.tmp 32) _ rfl (w.alloc (.cells #[.int .i64 p, .int .i64 q, .int .i64 r, .int .i64 s] 33)).heap.size 3 i0 (.int .i64 0) 1 8 Try.underlying49 hi0 hz0 hz1 hz2 rfl (by decide) _ (inTo xs p q r s k).length _ rfl ((own_kept HO.out HK2.out).alloc _) ⟨w1.heap.size, 0, none⟩ 1 1 [.int .i64 (k : Int)] rfl rfl (cell_one_new _ _ _) (by simp [Value.oneCell']) (by unfold maxLen; omega) (by omega) (by have := HK.out.size; have := hk.size; simp at *; omega) ?_; intro v1 w1 hown1 hgrow1 _)
            have hgo := Kept.of_own HK.out HO.out hgrow1 (by (repeat (first | exact Kept.refl _ | assumption | refine Kept.alloc ?_ _ | refine Kept.drew ?_ | refine Kept.drewN ?_ _ | refine Kept.setCell ?_ (by first | (simp; done) | (simp; omega) | omega | exact Kept.size (by (repeat (first | exact Kept.refl _ | assumption | refine Kept.alloc ?_ _ | refine Kept.drew ?_ | refine Kept.drewN ?_ _ | refine Kept.trans ?_ (by assumption))))) _ | refine Kept.trans ?_ (by assumption))))
            go_roundw
            case rel => exact ⟨k + 1, by omega, by go_num, hgo, by rw [HI.out, List.length_append, List.flatMap_append]; exact hown1⟩
            case measure => simp [intOf]; omega
        · have e : k = xs.length := by omega
          have HF := Lib.hid (show inTo xs p q r s xs.length = inTo xs p q r s k by rw [e])
          clear e
          go_wp2
          go_ret2
          exact ⟨_, rfl, by rw [HF.out]; exact own_base HO.out (by simp), (Kept.alloc (Kept.refl w) _).trans HK.out⟩
end Go.Proofs.Ytnkofjfcioaaaaa
