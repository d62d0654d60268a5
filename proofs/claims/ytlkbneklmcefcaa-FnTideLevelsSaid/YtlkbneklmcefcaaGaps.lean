/-
  Contracts of TideGaps, the program's and the reference's, and the law.
  Conditions: none.
-/
import Derived.Test.YtlkbneklmcefcaaTide
import Derived.Test.YtlkbneklmcefcaaMark
import Derived.Maps.AppendAt
namespace Go.Proofs.Ytlkbneklmcefcaa
open Go.ChangeShapes Go.WideShapes Go.ChangeAt Go.RowKit
set_option linter.unusedVariables false

/-- The gaps among the first k pairs of neighbours. -/
def gapsTo (xs : List (Int × Int)) (k : Nat) : List Int := List.map (fun (j : Nat) => (j : Int)) ((List.range k).filter (fun j => decide (60 < P1 xs (j + 1) - P1 xs j)))
theorem gaps_len (xs : List (Int × Int)) (k : Nat) : (gapsTo xs k).length ≤ k := by
  have := List.length_filter_le (fun j => decide (60 < P1 xs (j + 1) - P1 xs j)) (List.range k)
  simpa [gapsTo] using this
theorem gaps_yes {xs : List (Int × Int)} {k : Nat} (h : 60 < P1 xs (k + 1) - P1 xs k) : gapsTo xs (k + 1) = gapsTo xs k ++ [(k : Int)] := by
  simp [gapsTo, List.range_succ, List.filter_append, h]
theorem gaps_no {xs : List (Int × Int)} {k : Nat} (h : ¬ 60 < P1 xs (k + 1) - P1 xs k) : gapsTo xs (k + 1) = gapsTo xs k := by
  simp [gapsTo, List.range_succ, List.filter_append, h]
def gapsVal (xs : List (Int × Int)) : List Int := if tideB xs = true then gapsTo xs (xs.length - 1) else []
theorem tideB_at {xs : List (Int × Int)} (h : tideB xs = true) {k : Nat} (hk : k < xs.length) : (0 ≤ P1 xs k ∧ P1 xs k ≤ 10000) ∧ (-1000 ≤ P2 xs k ∧ P2 xs k ≤ 2000) ∧ (k = 0 ∨ P1 xs (k - 1) < P1 xs k) := by
  simp only [tideB, Bool.and_eq_true] at h
  have := allB_at h.1 hk
  simp only [tideAt, timeB, levB, Bool.and_eq_true, inB_true, decide_eq_true_eq] at this
  exact ⟨this.1.1, this.1.2, this.2⟩
theorem tideB_len {xs : List (Int × Int)} (h : tideB xs = true) : 1 ≤ xs.length ∧ xs.length ≤ 12 := by
  simp only [tideB, Bool.and_eq_true, inB_true] at h
  omega

theorem tideGaps_any (v : Value) (xs : List (Int × Int)) (w : World) (hL : Lies w 2 pairC v xs) : Calls Try.prog 24 #[v] w fun e w' => ∃ u, e = .returned (.tuple #[u, .bool (tideB xs)]) ∧ w'.ownsRow w.heap.size 3 1 u (gapsVal xs).length ((gapsVal xs).flatMap intC) ∧ Kept w w' := by
  have HL := Lib.hid hL
  obtain ⟨i0, hi0, hz0, hz1, hz2⟩ := info_parts infoInt
  obtain ⟨A, c, rfl, hlc, hcm, hA⟩ := lies_pairs hL
  clear hL
  cases hB : tideB xs
  · have HV := Lib.hid (show gapsVal xs = [] by simp [gapsVal, hB])
    clear hA
    go_enter Try.func24, Try.ntmps24
    go_wp2_with (go_at_call 17; (with_reducible refine (isTideCurve_any _ _ _ HL.out).mono ?_); rintro e w' ⟨rfl, hk⟩; (try have hkr := Root.trans (by assumption) hk); (first | (have hkf := From.step (by assumption) hk; obtain ⟨hc, hf⟩ := hkf.cells) | (have hkf := From.start hk; obtain ⟨hc, hf⟩ := hkf.cells)))
    go_ret2
    exact ⟨_, rfl, by rw [HV.out]; exact World.ownsRow_nil _ _ _ _, by (repeat (first | exact Kept.refl _ | assumption | refine Kept.alloc ?_ _ | refine Kept.drew ?_ | refine Kept.drewN ?_ _ | refine Kept.setCell ?_ (by first | (simp; done) | (simp; omega) | omega | exact Kept.size (by (repeat (first | exact Kept.refl _ | assumption | refine Kept.alloc ?_ _ | refine Kept.drew ?_ | refine Kept.drewN ?_ _ | refine Kept.trans ?_ (by assumption))))) _ | refine Kept.trans ?_ (by assumption)))⟩
  · have hlen := tideB_len hB
    obtain ⟨l1, l2⟩ := hlen
    have HV := Lib.hid (show gapsVal xs = gapsTo xs (xs.length - 1) by simp [gapsVal, hB])
    have HT := Lib.hid hB
    obtain ⟨b, off, rfl, hc⟩ := hA (by omega)
    have HC := Lib.hid hc
    clear hA hc
    go_enter Try.func24, Try.ntmps24
    go_wp2_with (go_at_call 17; (with_reducible refine (isTideCurve_any _ _ _ HL.out).mono ?_); rintro e w' ⟨rfl, hk⟩; (try have hkr := Root.trans (by assumption) hk); (first | (have hkf := From.step (by assumption) hk; obtain ⟨hc, hf⟩ := hkf.cells) | (have hkf := From.start hk; obtain ⟨hc, hf⟩ := hkf.cells)))
    clear hc hf hkf
    have HW := Lib.hid (show Kept w w' by (repeat (first | exact Kept.refl _ | assumption | refine Kept.alloc ?_ _ | refine Kept.drew ?_ | refine Kept.drewN ?_ _ | refine Kept.setCell ?_ (by first | (simp; done) | (simp; omega) | omega | exact Kept.size (by (repeat (first | exact Kept.refl _ | assumption | refine Kept.alloc ?_ _ | refine Kept.drew ?_ | refine Kept.drewN ?_ _ | refine Kept.trans ?_ (by assumption))))) _ | refine Kept.trans ?_ (by assumption))))
    go_loopw [4, 5] (fun v i wr => ∃ k : Nat, k + 1 ≤ xs.length ∧ i = .int .i64 ((k : Int) + 1) ∧ Kept w wr ∧ wr.ownsRow w.heap.size 3 1 v (gapsTo xs k).length ((gapsTo xs k).flatMap intC)) (fun _ i _ => xs.length - (intOf i).toNat)
    case atStart => exact ⟨0, by omega, rfl, by (repeat (first | exact Kept.refl _ | assumption | refine Kept.alloc ?_ _ | refine Kept.drew ?_ | refine Kept.drewN ?_ _ | refine Kept.setCell ?_ (by first | (simp; done) | (simp; omega) | omega | exact Kept.size (by (repeat (first | exact Kept.refl _ | assumption | refine Kept.alloc ?_ _ | refine Kept.drew ?_ | refine Kept.drewN ?_ _ | refine Kept.trans ?_ (by assumption))))) _ | refine Kept.trans ?_ (by assumption))), own_base (World.ownsRow_lit (e := 3) (size := 1) w' #[] 0 (Nat.le_refl _) (by simp [maxLen]) rfl) HW.out.size⟩
    case round =>
      obtain ⟨k, hk, rfl, hkw, hown⟩ := hrel
      have HO := Lib.hid hown
      have HK := Lib.hid hkw
      clear hown hkw
      by_cases hlt : k + 1 < xs.length
      · have c0 := HK.out.keep (HC.out k (by omega)).1
        have c1 := HK.out.keep (HC.out (k + 1) (by omega)).1
        obtain ⟨⟨b1, b2⟩, -⟩ := tideB_at HT.out (k := k) (by omega)
        obtain ⟨⟨b3, b4⟩, -⟩ := tideB_at HT.out (k := k + 1) (by omega)
        have hgl := gaps_len xs k
        have k0 : (0 : Int) ≤ (k : Int) := by omega
        have k1 : (k : Int) < (xs.length : Int) := by omega
        have k2 : (k : Int) + 1 < (xs.length : Int) := by omega
        have k3 : (0 : Int) ≤ (k : Int) + 1 := by omega
        have hbase := HK.out.size
        by_cases h : 60 < P1 xs (k + 1) - P1 xs k
        · have HG := Lib.hid (gaps_yes h)
          go_wp2_with fail
          have e1 : IntKind.i64.wrap (P1 xs (k + 1) - P1 xs k) = P1 xs (k + 1) - P1 xs k := IntWalk.i64_in _ (by omega)
          have e2 : IntKind.i64.wrap ((k : Int) + 1 - 1) = (k : Int) := by rw [Int.add_sub_cancel]; exact IntWalk.i64_in _ (by omega)
          go_quiet (fail)
          clear e1 e2
          go_wp2_with (at_builtin; refine wpList_append_own _ rfl (.tmp 29) (.tmp 32) _ rfl w.heap.size 3 i0 (.int .i64 0) 1 8 Try.underlying33 hi0 hz0 hz1 hz2 rfl (by decide) _ (gapsTo xs k).length _ rfl ((own_drewN HO.out _).alloc _) ⟨wr.heap.size, 0, none⟩ 1 1 [.int .i64 (k : Int)] rfl rfl (cell_one_new _ _ _) (by simp [Value.oneCell']) (by unfold maxLen; omega) (by omega) (by have := HK.out.size; simp; omega) ?_; intro v1 w1 hown1 hgrow1 _)
          have hgo := Kept.of_own HK.out HO.out hgrow1 (by (repeat (first | exact Kept.refl _ | assumption | refine Kept.alloc ?_ _ | refine Kept.drew ?_ | refine Kept.drewN ?_ _ | refine Kept.setCell ?_ (by first | (simp; done) | (simp; omega) | omega | exact Kept.size (by (repeat (first | exact Kept.refl _ | assumption | refine Kept.alloc ?_ _ | refine Kept.drew ?_ | refine Kept.drewN ?_ _ | refine Kept.trans ?_ (by assumption))))) _ | refine Kept.trans ?_ (by assumption))))
          go_roundw
          case rel => exact ⟨k + 1, by omega, by go_num, hgo, by rw [HG.out, List.length_append, List.flatMap_append]; exact hown1⟩
          case measure => simp [intOf]; omega
        · have HG := Lib.hid (gaps_no h)
          go_wp2_with fail
          have e1 : IntKind.i64.wrap (P1 xs (k + 1) - P1 xs k) = P1 xs (k + 1) - P1 xs k := IntWalk.i64_in _ (by omega)
          have e2 : IntKind.i64.wrap ((k : Int) + 1 - 1) = (k : Int) := by rw [Int.add_sub_cancel]; exact IntWalk.i64_in _ (by omega)
          go_quiet (fail)
          clear e1 e2
          go_wp2
          go_roundw
          case rel => exact ⟨k + 1, by omega, by go_num, by have hq := HK.out; (repeat (first | exact Kept.refl _ | assumption | refine Kept.alloc ?_ _ | refine Kept.drew ?_ | refine Kept.drewN ?_ _ | refine Kept.setCell ?_ (by first | (simp; done) | (simp; omega) | omega | exact Kept.size (by (repeat (first | exact Kept.refl _ | assumption | refine Kept.alloc ?_ _ | refine Kept.drew ?_ | refine Kept.drewN ?_ _ | refine Kept.trans ?_ (by assumption))))) _ | refine Kept.trans ?_ (by assumption))), by rw [HG.out]; exact own_drewN HO.out _⟩
          case measure => simp [intOf]; omega
      · have e : k = xs.length - 1 := by omega
        have HF := Lib.hid (show gapsVal xs = gapsTo xs k by rw [HV.out, e])
        clear e
        go_wp2
        go_ret2
        exact ⟨_, rfl, by rw [HF.out]; exact HO.out, HK.out⟩
theorem sTideGaps_any (v : Value) (xs : List (Int × Int)) (w : World) (hL : Lies w 2 pairC v xs) : Calls Try.prog 23 #[v] w fun e w' => ∃ u, e = .returned (.tuple #[u, .bool (tideB xs)]) ∧ w'.ownsRow w.heap.size 3 1 u (gapsVal xs).length ((gapsVal xs).flatMap intC) ∧ Kept w w' := by
  have HL := Lib.hid hL
  obtain ⟨i0, hi0, hz0, hz1, hz2⟩ := info_parts infoInt
  obtain ⟨A, c, rfl, hlc, hcm, hA⟩ := lies_pairs hL
  clear hL
  cases hB : tideB xs
  · have HV := Lib.hid (show gapsVal xs = [] by simp [gapsVal, hB])
    clear hA
    go_enter Try.func23, Try.ntmps23
    go_wp2_with (go_at_call 51; (with_reducible refine (l4Good_any _ _ _ (by exact HL.out.kept (by (repeat (first | exact Kept.refl _ | assumption | refine Kept.alloc ?_ _ | refine Kept.drew ?_ | refine Kept.drewN ?_ _ | refine Kept.setCell ?_ (by first | (simp; done) | (simp; omega) | omega | exact Kept.size (by (repeat (first | exact Kept.refl _ | assumption | refine Kept.alloc ?_ _ | refine Kept.drew ?_ | refine Kept.drewN ?_ _ | refine Kept.trans ?_ (by assumption))))) _ | refine Kept.trans ?_ (by assumption)))))).mono ?_); rintro e w' ⟨rfl, hk⟩; (try have hkr := Root.trans (by assumption) hk); (first | (have hkf := From.step (by assumption) hk; obtain ⟨hc, hf⟩ := hkf.cells) | (have hkf := From.start hk; obtain ⟨hc, hf⟩ := hkf.cells)))
    go_ret2
    exact ⟨_, rfl, by rw [HV.out]; exact own_kept (World.ownsRow_lit (e := 3) (size := 1) w #[] 0 (Nat.le_refl _) (by simp [maxLen]) rfl) hk, by (repeat (first | exact Kept.refl _ | assumption | refine Kept.alloc ?_ _ | refine Kept.drew ?_ | refine Kept.drewN ?_ _ | refine Kept.setCell ?_ (by first | (simp; done) | (simp; omega) | omega | exact Kept.size (by (repeat (first | exact Kept.refl _ | assumption | refine Kept.alloc ?_ _ | refine Kept.drew ?_ | refine Kept.drewN ?_ _ | refine Kept.trans ?_ (by assumption))))) _ | refine Kept.trans ?_ (by assumption)))⟩
  · have hlen := tideB_len hB
    obtain ⟨l1, l2⟩ := hlen
    have HV := Lib.hid (show gapsVal xs = gapsTo xs (xs.length - 1) by simp [gapsVal, hB])
    have HT := Lib.hid hB
    obtain ⟨b, off, rfl, hc⟩ := hA (by omega)
    have HC := Lib.hid hc
    clear hA hc
    go_enter Try.func23, Try.ntmps23
    go_wp2_with (go_at_call 51; (with_reducible refine (l4Good_any _ _ _ (by exact HL.out.kept (by (repeat (first | exact Kept.refl _ | assumption | refine Kept.alloc ?_ _ | refine Kept.drew ?_ | refine Kept.drewN ?_ _ | refine Kept.setCell ?_ (by first | (simp; done) | (simp; omega) | omega | exact Kept.size (by (repeat (first | exact Kept.refl _ | assumption | refine Kept.alloc ?_ _ | refine Kept.drew ?_ | refine Kept.drewN ?_ _ | refine Kept.trans ?_ (by assumption))))) _ | refine Kept.trans ?_ (by assumption)))))).mono ?_); rintro e w' ⟨rfl, hk⟩; (try have hkr := Root.trans (by assumption) hk); (first | (have hkf := From.step (by assumption) hk; obtain ⟨hc, hf⟩ := hkf.cells) | (have hkf := From.start hk; obtain ⟨hc, hf⟩ := hkf.cells)))
    have HO0 := Lib.hid (own_kept (World.ownsRow_lit (e := 3) (size := 1) w #[] 0 (Nat.le_refl _) (by simp [maxLen]) rfl) hk)
    clear hc hf hkf
    have HW := Lib.hid (show Kept w w' by (repeat (first | exact Kept.refl _ | assumption | refine Kept.alloc ?_ _ | refine Kept.drew ?_ | refine Kept.drewN ?_ _ | refine Kept.setCell ?_ (by first | (simp; done) | (simp; omega) | omega | exact Kept.size (by (repeat (first | exact Kept.refl _ | assumption | refine Kept.alloc ?_ _ | refine Kept.drew ?_ | refine Kept.drewN ?_ _ | refine Kept.trans ?_ (by assumption))))) _ | refine Kept.trans ?_ (by assumption))))
    go_loopw [4, 5] (fun v i wr => ∃ k : Nat, k + 1 ≤ xs.length ∧ i = .int .i64 (k : Int) ∧ Kept w wr ∧ wr.ownsRow w.heap.size 3 1 v (gapsTo xs k).length ((gapsTo xs k).flatMap intC)) (fun _ i _ => xs.length - (intOf i).toNat)
    case atStart => exact ⟨0, by omega, rfl, HW.out, HO0.out⟩
    case round =>
      obtain ⟨k, hk, rfl, hkw, hown⟩ := hrel
      have HO := Lib.hid hown
      have HK := Lib.hid hkw
      clear hown hkw
      by_cases hlt : k + 1 < xs.length
      · have c0 := HK.out.keep (HC.out k (by omega)).1
        have c1 := HK.out.keep (HC.out (k + 1) (by omega)).1
        obtain ⟨⟨b1, b2⟩, -⟩ := tideB_at HT.out (k := k) (by omega)
        obtain ⟨⟨b3, b4⟩, -⟩ := tideB_at HT.out (k := k + 1) (by omega)
        have hgl := gaps_len xs k
        have k0 : (0 : Int) ≤ (k : Int) := by omega
        have k1 : (k : Int) < (xs.length : Int) := by omega
        have k2 : (k : Int) + 1 < (xs.length : Int) := by omega
        have k3 : (0 : Int) ≤ (k : Int) + 1 := by omega
        have hbase := HK.out.size
        by_cases h : 60 < P1 xs (k + 1) - P1 xs k
        · have HG := Lib.hid (gaps_yes h)
          go_wp2_with fail
          have e1 : IntKind.i64.wrap (P1 xs (k + 1) - P1 xs k) = P1 xs (k + 1) - P1 xs k := IntWalk.i64_in _ (by omega)
          have e2 : IntKind.i64.wrap ((k : Int) + 1) = (k : Int) + 1 := IntWalk.i64_in _ (by omega)
          go_quiet (fail)
          clear e1 e2
          go_wp2_with (at_builtin; refine wpList_append_own _ rfl (.tmp 31) (.tmp 33) _ rfl w.heap.size 3 i0 (.int .i64 0) 1 8 Try.underlying33 hi0 hz0 hz1 hz2 rfl (by decide) _ (gapsTo xs k).length _ rfl ((own_drewN HO.out _).alloc _) ⟨wr.heap.size, 0, none⟩ 1 1 [.int .i64 (k : Int)] rfl rfl (cell_one_new _ _ _) (by simp [Value.oneCell']) (by unfold maxLen; omega) (by omega) (by have := HK.out.size; simp; omega) ?_; intro v1 w1 hown1 hgrow1 _)
          have hgo := Kept.of_own HK.out HO.out hgrow1 (by (repeat (first | exact Kept.refl _ | assumption | refine Kept.alloc ?_ _ | refine Kept.drew ?_ | refine Kept.drewN ?_ _ | refine Kept.setCell ?_ (by first | (simp; done) | (simp; omega) | omega | exact Kept.size (by (repeat (first | exact Kept.refl _ | assumption | refine Kept.alloc ?_ _ | refine Kept.drew ?_ | refine Kept.drewN ?_ _ | refine Kept.trans ?_ (by assumption))))) _ | refine Kept.trans ?_ (by assumption))))
          go_roundw
          case rel => exact ⟨k + 1, by omega, by go_num, hgo, by rw [HG.out, List.length_append, List.flatMap_append]; exact hown1⟩
          case measure => simp [intOf]; omega
        · have HG := Lib.hid (gaps_no h)
          go_wp2_with fail
          have e1 : IntKind.i64.wrap (P1 xs (k + 1) - P1 xs k) = P1 xs (k + 1) - P1 xs k := IntWalk.i64_in _ (by omega)
          have e2 : IntKind.i64.wrap ((k : Int) + 1) = (k : Int) + 1 := IntWalk.i64_in _ (by omega)
          go_quiet (fail)
          clear e1 e2
          go_wp2
          go_roundw
          case rel => exact ⟨k + 1, by omega, by go_num, by have hq := HK.out; (repeat (first | exact Kept.refl _ | assumption | refine Kept.alloc ?_ _ | refine Kept.drew ?_ | refine Kept.drewN ?_ _ | refine Kept.setCell ?_ (by first | (simp; done) | (simp; omega) | omega | exact Kept.size (by (repeat (first | exact Kept.refl _ | assumption | refine Kept.alloc ?_ _ | refine Kept.drew ?_ | refine Kept.drewN ?_ _ | refine Kept.trans ?_ (by assumption))))) _ | refine Kept.trans ?_ (by assumption))), by rw [HG.out]; exact own_drewN HO.out _⟩
          case measure => simp [intOf]; omega
      · have e : k = xs.length - 1 := by omega
        have HF := Lib.hid (show gapsVal xs = gapsTo xs k by rw [HV.out, e])
        clear e
        go_wp2
        go_ret2
        exact ⟨_, rfl, by rw [HF.out]; exact HO.out, HK.out⟩
theorem gapsVal_len (xs : List (Int × Int)) : (gapsVal xs).length ≤ 1048576 := by
  unfold gapsVal
  split
  · rename_i h
    have := gaps_len xs (xs.length - 1)
    have := (tideB_len h).2
    omega
  · simp
theorem lawTideGaps (v : Value) (xs : List (Int × Int)) (w : World) (hL : Lies w 2 pairC v xs) : Calls Try.prog 5 #[v] w fun e w' => e = .returned (.bool true) ∧ Kept w w' := by
  have HL := Lib.hid hL
  by_cases hn : xs.length ≤ 1048576
  · obtain ⟨A, c, rfl, hlc, hcm, hA⟩ := hL
    clear hA
    have hgl := gapsVal_len xs
    go_enter Try.func5, Try.ntmps5
    go_wp2_with (go_at_call 14; (with_reducible refine (szTideS_ok _ _ _ HL.out hn).mono ?_); rintro e w' ⟨rfl, rfl⟩)
    refine (toTideS_any _ _ _ HL.out hn).mono ?_
    rintro e W1 ⟨u1, rfl, ho1, k1⟩
    go_wp2_with fail
    refine (sTideGaps_any _ _ _ (pairs_own ho1)).mono ?_
    rintro e W2 ⟨uw, rfl, how, k2⟩
    go_wp2_with fail
    refine (toTideS_any _ _ _ (HL.out.kept (k1.trans k2)) hn).mono ?_
    rintro e W3 ⟨ux, rfl, hox, k3⟩
    go_wp2_with fail
    refine (tideGaps_any _ _ _ (pairs_own hox)).mono ?_
    rintro e W4 ⟨ug, rfl, hog, k4⟩
    go_wp2_with fail
    refine (eqIntS_any _ _ _ _ (ints_own hog) (ints_own (own_kept how (k3.trans k4)))).mono ?_
    rintro e W5 ⟨rfl, k5⟩
    go_wp2_with fail
    refine (toTideS_any _ _ _ (HL.out.kept (k1.trans (k2.trans (k3.trans (k4.trans k5))))) hn).mono ?_
    rintro e W6 ⟨uy, rfl, hoy, k6⟩
    go_wp2_with fail
    refine (eqTideS_any _ _ _ _ (pairs_own (own_kept hox (k4.trans (k5.trans k6)))) (pairs_own hoy)).mono ?_
    rintro e W7 ⟨rfl, k7⟩
    go_wp2_with fail
    refine (markTideS_any _ _ _ _ _ _ (own_kept hox (k4.trans (k5.trans (k6.trans k7)))) hn).mono ?_
    rintro e W8 ⟨rfl, hmx, g8⟩
    have k07 : Kept w W7 := k1.trans (k2.trans (k3.trans (k4.trans (k5.trans (k6.trans k7)))))
    have k08 : Kept w W8 := Kept.marked k07 hox (by have := k1.size; have := k2.size; omega) g8
    have hog8 := (own_kept hog (k5.trans (k6.trans k7))).kept g8 (own_ne hox hog (Nat.le_refl _)).2
    have how8 := (own_kept how (k3.trans (k4.trans (k5.trans (k6.trans k7))))).kept g8 (own_ne how hox (Nat.le_refl _)).1
    go_wp2_with fail
    refine (eqIntS_any _ _ _ _ (ints_own hog8) (ints_own how8)).mono ?_
    rintro e W9 ⟨rfl, k9⟩
    go_wp2_with fail
    refine (markIntS_any _ _ _ _ _ _ (own_kept hog8 k9) hgl).mono ?_
    rintro e W10 ⟨rfl, hmg, g10⟩
    have k010 : Kept w W10 := Kept.marked (k08.trans k9) hog (by have := k1.size; have := k2.size; have := k3.size; omega) g10
    have how10 := (own_kept how8 k9).kept g10 (own_ne how hog k3.size).1
    go_wp2_with fail
    refine (heldIntS_any _ _ _ _ _ hmg hgl).mono ?_
    rintro e W11 ⟨rfl, rfl⟩
    go_wp2_with fail
    refine (toTideS_any _ _ _ (HL.out.kept k010) hn).mono ?_
    rintro e W12 ⟨uz, rfl, hoz, k12⟩
    go_wp2_with fail
    refine (tideGaps_any _ _ _ (pairs_own hoz)).mono ?_
    rintro e W13 ⟨uh, rfl, hoh, k13⟩
    go_wp2_with fail
    refine (eqIntS_any _ _ _ _ (ints_own hoh) (ints_own (own_kept how10 (k12.trans k13)))).mono ?_
    rintro e W14 ⟨rfl, k14⟩
    go_wp2_with fail
    refine (heldIntS_any _ _ _ _ _ (own_kept hmg (k12.trans (k13.trans k14))) hgl).mono ?_
    rintro e W15 ⟨rfl, rfl⟩
    go_wp2_with fail
    go_ret
    exact ⟨rfl, k010.trans (k12.trans (k13.trans k14))⟩
  · obtain ⟨A, c, rfl, hlc, hcm, hA⟩ := hL
    clear hA
    go_enter Try.func5, Try.ntmps5
    go_wp2_with (go_at_call 14; (with_reducible refine (szTideS_no _ _ _ HL.out (by omega)).mono ?_); rintro e w' ⟨rfl, rfl⟩)
    go_ret
    exact ⟨rfl, by (repeat (first | exact Kept.refl _ | assumption | refine Kept.alloc ?_ _ | refine Kept.drew ?_ | refine Kept.drewN ?_ _ | refine Kept.setCell ?_ (by first | (simp; done) | (simp; omega) | omega | exact Kept.size (by (repeat (first | exact Kept.refl _ | assumption | refine Kept.alloc ?_ _ | refine Kept.drew ?_ | refine Kept.drewN ?_ _ | refine Kept.trans ?_ (by assumption))))) _ | refine Kept.trans ?_ (by assumption)))⟩
end Go.Proofs.Ytlkbneklmcefcaa
