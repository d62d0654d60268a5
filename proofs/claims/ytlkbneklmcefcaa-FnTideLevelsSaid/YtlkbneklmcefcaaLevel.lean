/-
  Contracts of the level of a curve at a time, the program's and the reference's.
  Conditions: none.
-/
import Derived.Test.YtlkbneklmcefcaaGaps
import Derived.Test.YtlkbneklmcefcaaFrac
namespace Go.Proofs.Ytlkbneklmcefcaa
open Go.ChangeShapes Go.WideShapes Go.ChangeAt Go.RowKit
set_option linter.unusedVariables false

theorem prod_bd2 (a b : Int) (h1 : -2000 ≤ a) (h2 : a ≤ 2000) (h3 : 0 ≤ b) (h4 : b ≤ 10000) : -20000000 ≤ a * b ∧ a * b ≤ 20000000 := by
  have ha : a.natAbs ≤ 2000 := by omega
  have hb : b.natAbs ≤ 10000 := by omega
  have hm := Nat.mul_le_mul ha hb
  rw [← Int.natAbs_mul] at hm
  omega
theorem tide_asc {xs : List (Int × Int)} (h : tideB xs = true) : Asc xs := fun i hi => by
  have := (tideB_at h hi).2.2
  simpa using this
/-- What levelAt hands back. -/
def LvPost (xs : List (Int × Int)) (t p q : Int) : Prop := lvOk xs t = true → p = redN (lvN xs t) (lvD xs t) ∧ q = redD (lvN xs t) (lvD xs t)
theorem lvpost_exact {xs : List (Int × Int)} {t : Int} {k : Nat} (ha : Asc xs) (hk : k < xs.length) (h : P1 xs k = t) : lvOk xs t = true ∧ LvPost xs t (P2 xs k) 1 := by
  have hv := lv_vals (lv_exact ha hk h) (by simp)
  refine ⟨hv.1, fun _ => ?_⟩
  rw [hv.2.1, hv.2.2]
  exact ⟨(red_one _).1.symm, (red_one _).2.symm⟩
theorem lvpost_between {xs : List (Int × Int)} {t : Int} {k : Nat} (ha : Asc xs) (hk : k + 1 < xs.length) (h1 : P1 xs k < t) (h2 : t < P1 xs (k + 1)) :
    lvOk xs t = decide (P1 xs (k + 1) - P1 xs k ≤ 60) ∧ LvPost xs t (redN (P2 xs k * (P1 xs (k + 1) - t) + P2 xs (k + 1) * (t - P1 xs k)) (P1 xs (k + 1) - P1 xs k)) (redD (P2 xs k * (P1 xs (k + 1) - t) + P2 xs (k + 1) * (t - P1 xs k)) (P1 xs (k + 1) - P1 xs k)) := by
  have hl := lv_between ha hk h1 h2
  by_cases hg : P1 xs (k + 1) - P1 xs k ≤ 60
  · have hv := lv_vals hl hg
    refine ⟨by rw [hv.1]; simp [hg], fun _ => ?_⟩
    rw [hv.2.1, hv.2.2]
    exact ⟨rfl, rfl⟩
  · have h0 : lvOk xs t = false := by simp [lvOk, hl, hg]
    refine ⟨by rw [h0]; simp [hg], fun h => by rw [h0] at h; cases h⟩
theorem ret_pb {p q : Int} {b b' : Bool} (h : b = b') : Ending.returned (.tuple #[.agg #[.int .i64 p, .int .i64 q], .bool b']) = .returned (.tuple #[.agg #[.int .i64 p, .int .i64 q], .bool b]) := by rw [h]

set_option maxRecDepth 100000 in
set_option maxHeartbeats 4000000 in
theorem levelAt_any (v : Value) (xs : List (Int × Int)) (t : Int) (w : World) (hL : Lies w 2 pairC v xs) (hB : tideB xs = true) (ht : timeB t = true) : Calls Try.prog 60 #[v, .int .i64 t] w fun e w' => ∃ p q, e = .returned (.tuple #[.agg #[.int .i64 p, .int .i64 q], .bool (lvOk xs t)]) ∧ LvPost xs t p q ∧ Kept w w' := by
  obtain ⟨A, c, rfl, hlc, hcm, hA⟩ := lies_pairs hL
  clear hL
  have hlen := tideB_len hB
  obtain ⟨l1, l2⟩ := hlen
  have ht2 := inB_true.1 ht
  obtain ⟨t1, t2⟩ := ht2
  have HAsc := Lib.hid (tide_asc hB)
  have HB := Lib.hid hB
  obtain ⟨b, off, rfl, hc⟩ := hA (by omega)
  have HC := Lib.hid hc
  clear hA hc hB ht
  go_enter Try.func60, Try.ntmps60
  go_wp2
  go_loopw [12] (fun i wr => ∃ k : Nat, k ≤ xs.length ∧ i = .int .i64 (k : Int) ∧ Kept (w.alloc (.cells #[.int .i64 0, .int .i64 0] 69)) wr ∧ lvTo xs t k = none) (fun i _ => xs.length - (intOf i).toNat)
  case atStart => exact ⟨0, by omega, rfl, Kept.refl _, rfl⟩
  case round =>
    obtain ⟨k, hk, rfl, hkw, hnone⟩ := hrel
    have HN := Lib.hid hnone
    have HK := Lib.hid hkw
    have r0 := hkw.keep (show (w.alloc (.cells #[.int .i64 0, .int .i64 0] 69)).cell? ⟨w.heap.size, 0, none⟩ = some (.int .i64 0) by simp [go_sem])
    have r1 := hkw.keep (show (w.alloc (.cells #[.int .i64 0, .int .i64 0] 69)).cell? ⟨w.heap.size, 1, none⟩ = some (.int .i64 0) by simp [go_sem])
    have f0 := hkw.free (show (w.alloc (.cells #[.int .i64 0, .int .i64 0] 69)).cell? ⟨w.heap.size, 0, none⟩ = some (.int .i64 0) by simp [go_sem]) (by simp [go_sem])
    have f1 := hkw.free (show (w.alloc (.cells #[.int .i64 0, .int .i64 0] 69)).cell? ⟨w.heap.size, 1, none⟩ = some (.int .i64 0) by simp [go_sem]) (by simp [go_sem])
    have hzz := hkw.size
    have z0 : w.heap.size < wr.heap.size := by simp at hzz; omega
    have z1 : w.heap.size ≤ wr.heap.size := by omega
    have z2 : ¬ w.heap.size = wr.heap.size := by omega
    have z3 : ¬ wr.heap.size = w.heap.size := by omega
    clear hnone hkw hzz
    by_cases hlt : k < xs.length
    · have c0 := HK.out.keep ((HC.out k hlt).1 |> (Kept.alloc (Kept.refl w) _).keep)
      have c1 := HK.out.keep ((HC.out k hlt).2 |> (Kept.alloc (Kept.refl w) _).keep)
      obtain ⟨⟨b1, b2⟩, ⟨b3, b4⟩, -⟩ := tideB_at HB.out hlt
      by_cases he : P1 xs k = t
      · have hx := lvpost_exact HAsc.out hlt he
        have HX := Lib.hid hx
        have te : (P1 xs k == t) = true := beq_iff_eq.2 he
        clear hx he
        go_wp2
        exact bodyPost_ret (v := .tuple #[.agg #[.int .i64 (P2 xs k), .int .i64 1], .bool true]) (by simp [results, Try.results60, go_sem, *]) rfl ⟨_, _, ret_pb HX.out.1, HX.out.2, by have hq := HK.out; (repeat (first | exact Kept.refl _ | assumption | refine Kept.alloc ?_ _ | refine Kept.drew ?_ | refine Kept.drewN ?_ _ | refine Kept.setCell ?_ (by first | (simp; done) | (simp; omega) | omega | exact Kept.size (by (repeat (first | exact Kept.refl _ | assumption | refine Kept.alloc ?_ _ | refine Kept.drew ?_ | refine Kept.drewN ?_ _ | refine Kept.trans ?_ (by assumption))))) _ | refine Kept.trans ?_ (by assumption)))⟩
      · have te : (P1 xs k == t) = false := beq_eq_false_iff_ne.2 he
        by_cases h0 : k = 0
        · have HN1 := Lib.hid (lv_on HN.out (show lvStep xs t k = none by simp only [lvStep]; rw [if_neg he, if_neg (by omega)]))
          subst h0
          simp only [Nat.zero_mul, Nat.add_zero] at c0 c1
          clear he
          go_wp2
          go_roundw
          case rel => exact ⟨1, by omega, by go_num, by have hq := HK.out; (repeat (first | exact Kept.refl _ | assumption | refine Kept.alloc ?_ _ | refine Kept.drew ?_ | refine Kept.drewN ?_ _ | refine Kept.setCell ?_ (by first | (simp; done) | (simp; omega) | omega | exact Kept.size (by (repeat (first | exact Kept.refl _ | assumption | refine Kept.alloc ?_ _ | refine Kept.drew ?_ | refine Kept.drewN ?_ _ | refine Kept.trans ?_ (by assumption))))) _ | refine Kept.trans ?_ (by assumption))), HN1.out⟩
          case measure => simp [intOf]; omega
        · have d0 := HK.out.keep ((HC.out (k - 1) (by omega)).1 |> (Kept.alloc (Kept.refl w) _).keep)
          have d1 := HK.out.keep ((HC.out (k - 1) (by omega)).2 |> (Kept.alloc (Kept.refl w) _).keep)
          have d0' : ∀ o : Obj, (wr.alloc o).cell? ⟨b, off + (k - 1) * 2, none⟩ = some (.int .i64 (P1 xs (k - 1))) := fun o => (Kept.alloc (Kept.refl _) o).keep d0
          have d1' : ∀ o : Obj, (wr.alloc o).cell? ⟨b, off + (k - 1) * 2 + 1, none⟩ = some (.int .i64 (P2 xs (k - 1))) := fun o => (Kept.alloc (Kept.refl _) o).keep d1
          obtain ⟨⟨b5, b6⟩, ⟨b7, b8⟩, -⟩ := tideB_at HB.out (k := k - 1) (by omega)
          have kN : 0 < k := by omega
          have k0 : (0 : Int) < (k : Int) := by omega
          have k1 : (1 : Int) ≤ (k : Int) := by omega
          have k2 : (0 : Int) ≤ (k : Int) - 1 := by omega
          have k3 : (k : Int) - 1 < (xs.length : Int) := by omega
          by_cases hp : P1 xs (k - 1) < t
          · by_cases hq : t < P1 xs k
            · have e1 : k - 1 + 1 = k := by omega
              have hx := lvpost_between (xs := xs) (t := t) (k := k - 1) HAsc.out (by omega) hp (by rw [e1]; exact hq)
              rw [e1] at hx
              have HX := Lib.hid hx
              have s1 := prod_bd2 (P2 xs (k - 1)) (P1 xs k - t) (by omega) (by omega) (by omega) (by omega)
              have s2 := prod_bd2 (P2 xs k) (t - P1 xs (k - 1)) (by omega) (by omega) (by omega) (by omega)
              have n1 : -4611686018427387904 ≤ P2 xs (k - 1) * (P1 xs k - t) + P2 xs k * (t - P1 xs (k - 1)) := by omega
              have n2 : P2 xs (k - 1) * (P1 xs k - t) + P2 xs k * (t - P1 xs (k - 1)) ≤ 4611686018427387904 := by omega
              have g1 : 0 < P1 xs k - P1 xs (k - 1) := by omega
              have g2 : P1 xs k - P1 xs (k - 1) ≤ 4611686018427387904 := by omega
              have z4 : w.heap.size < wr.heap.size + 1 + 1 := by omega
              have z5 : w.heap.size ≤ wr.heap.size + 1 := by omega
              have z6 : w.heap.size < wr.heap.size + 1 := by omega
              have z7 : ¬ w.heap.size = wr.heap.size + 1 := by omega
              clear hx e1 he h0
              go_wp2_with (go_at_call 63; (with_reducible refine (asPart_any (P2 xs (k - 1) * (P1 xs k - t) + P2 xs k * (t - P1 xs (k - 1))) (P1 xs k - P1 xs (k - 1)) n1 n2 g1 g2 _).mono ?_); rintro e w' ⟨rfl, hk⟩; (try have hkr := Root.trans (by assumption) hk); (first | (have hkf := From.step (by assumption) hk; obtain ⟨hc, hf⟩ := hkf.cells) | (have hkf := From.start hk; obtain ⟨hc, hf⟩ := hkf.cells)))
              exact bodyPost_ret (v := .tuple #[.agg #[.int .i64 (redN (P2 xs (k - 1) * (P1 xs k - t) + P2 xs k * (t - P1 xs (k - 1))) (P1 xs k - P1 xs (k - 1))), .int .i64 (redD (P2 xs (k - 1) * (P1 xs k - t) + P2 xs k * (t - P1 xs (k - 1))) (P1 xs k - P1 xs (k - 1)))], .bool (decide (P1 xs k - P1 xs (k - 1) ≤ 60))]) (by simp [results, Try.results60, go_sem, *]) rfl ⟨_, _, ret_pb HX.out.1, HX.out.2, by have hq := HK.out; (repeat (first | exact Kept.refl _ | assumption | refine Kept.alloc ?_ _ | refine Kept.drew ?_ | refine Kept.drewN ?_ _ | refine Kept.setCell ?_ (by first | (simp; done) | (simp; omega) | omega | exact Kept.size (by (repeat (first | exact Kept.refl _ | assumption | refine Kept.alloc ?_ _ | refine Kept.drew ?_ | refine Kept.drewN ?_ _ | refine Kept.trans ?_ (by assumption))))) _ | refine Kept.trans ?_ (by assumption)))⟩
            · have HN1 := Lib.hid (lv_on HN.out (show lvStep xs t k = none by simp only [lvStep]; rw [if_neg he, if_neg (by omega)]))
              have hq' : P1 xs k ≤ t := by omega
              clear he h0
              go_wp2
              go_roundw
              case rel => exact ⟨k + 1, by omega, by go_num, by have hq := HK.out; (repeat (first | exact Kept.refl _ | assumption | refine Kept.alloc ?_ _ | refine Kept.drew ?_ | refine Kept.drewN ?_ _ | refine Kept.setCell ?_ (by first | (simp; done) | (simp; omega) | omega | exact Kept.size (by (repeat (first | exact Kept.refl _ | assumption | refine Kept.alloc ?_ _ | refine Kept.drew ?_ | refine Kept.drewN ?_ _ | refine Kept.trans ?_ (by assumption))))) _ | refine Kept.trans ?_ (by assumption))), HN1.out⟩
              case measure => simp [intOf]; omega
          · have HN1 := Lib.hid (lv_on HN.out (show lvStep xs t k = none by simp only [lvStep]; rw [if_neg he, if_neg (by omega)]))
            have hp' : t ≤ P1 xs (k - 1) := by omega
            clear he h0
            go_wp2
            go_roundw
            case rel => exact ⟨k + 1, by omega, by go_num, by have hq := HK.out; (repeat (first | exact Kept.refl _ | assumption | refine Kept.alloc ?_ _ | refine Kept.drew ?_ | refine Kept.drewN ?_ _ | refine Kept.setCell ?_ (by first | (simp; done) | (simp; omega) | omega | exact Kept.size (by (repeat (first | exact Kept.refl _ | assumption | refine Kept.alloc ?_ _ | refine Kept.drew ?_ | refine Kept.drewN ?_ _ | refine Kept.trans ?_ (by assumption))))) _ | refine Kept.trans ?_ (by assumption))), HN1.out⟩
            case measure => simp [intOf]; omega
    · have e : k = xs.length := by omega
      have HF := Lib.hid (show lvOk xs t = false by have h := HN.out; rw [e] at h; simp [lvOk, lv, h])
      clear e
      go_wp2
      exact bodyPost_ret (v := .tuple #[.agg #[.int .i64 0, .int .i64 0], .bool false]) (by simp [results, Try.results60, go_sem, *]) rfl ⟨_, _, ret_pb HF.out, fun h => absurd h (by rw [HF.out]; simp), by have hq := HK.out; (repeat (first | exact Kept.refl _ | assumption | refine Kept.alloc ?_ _ | refine Kept.drew ?_ | refine Kept.drewN ?_ _ | refine Kept.setCell ?_ (by first | (simp; done) | (simp; omega) | omega | exact Kept.size (by (repeat (first | exact Kept.refl _ | assumption | refine Kept.alloc ?_ _ | refine Kept.drew ?_ | refine Kept.drewN ?_ _ | refine Kept.trans ?_ (by assumption))))) _ | refine Kept.trans ?_ (by assumption)))⟩
set_option maxRecDepth 100000 in
set_option maxHeartbeats 4000000 in
theorem l4At_any (v : Value) (xs : List (Int × Int)) (t : Int) (w : World) (hL : Lies w 2 pairC v xs) (hB : tideB xs = true) (ht : timeB t = true) : Calls Try.prog 58 #[v, .int .i64 t] w fun e w' => e = .returned (.tuple #[.int .i64 (lvN xs t), .int .i64 (lvD xs t), .bool (lvOk xs t)]) ∧ Kept w w' := by
  obtain ⟨A, c, rfl, hlc, hcm, hA⟩ := lies_pairs hL
  clear hL
  have hlen := tideB_len hB
  obtain ⟨l1, l2⟩ := hlen
  have ht2 := inB_true.1 ht
  obtain ⟨t1, t2⟩ := ht2
  have HAsc := Lib.hid (tide_asc hB)
  have HB := Lib.hid hB
  obtain ⟨b, off, rfl, hc⟩ := hA (by omega)
  have HC := Lib.hid hc
  clear hA hc hB ht
  go_enter Try.func58, Try.ntmps58
  go_wp2
  go_loopw [7] (fun i wr => ∃ k : Nat, k ≤ xs.length ∧ i = .int .i64 (k : Int) ∧ Kept w wr ∧ ∀ i, i < k → P1 xs i ≠ t ∧ (i + 1 < xs.length → ¬ (P1 xs i ≤ t ∧ t ≤ P1 xs (i + 1) ∧ P1 xs (i + 1) - P1 xs i ≤ 60))) (fun i _ => xs.length - (intOf i).toNat)
  case atStart => exact ⟨0, by omega, rfl, Kept.refl _, fun i h => absurd h (by omega)⟩
  case round =>
    obtain ⟨k, hk, rfl, hkw, hall⟩ := hrel
    have HN := Lib.hid hall
    have HK := Lib.hid hkw
    clear hall hkw
    by_cases hlt : k < xs.length
    · have c0 := HK.out.keep (HC.out k hlt).1
      have c1 := HK.out.keep (HC.out k hlt).2
      obtain ⟨⟨b1, b2⟩, ⟨b3, b4⟩, -⟩ := tideB_at HB.out hlt
      have k0 : (0 : Int) ≤ (k : Int) := by omega
      have k1 : (k : Int) < (xs.length : Int) := by omega
      by_cases he : P1 xs k = t
      · have hv := lv_vals (lv_exact HAsc.out hlt he) (by simp)
        have HV := Lib.hid hv
        have te : (P1 xs k == t) = true := beq_iff_eq.2 he
        clear hv he
        go_wp2
        go_ret3
        exact ⟨ret_iib HV.out.2.1 HV.out.2.2 HV.out.1, by have hq := HK.out; (repeat (first | exact Kept.refl _ | assumption | refine Kept.alloc ?_ _ | refine Kept.drew ?_ | refine Kept.drewN ?_ _ | refine Kept.setCell ?_ (by first | (simp; done) | (simp; omega) | omega | exact Kept.size (by (repeat (first | exact Kept.refl _ | assumption | refine Kept.alloc ?_ _ | refine Kept.drew ?_ | refine Kept.drewN ?_ _ | refine Kept.trans ?_ (by assumption))))) _ | refine Kept.trans ?_ (by assumption)))⟩
      · have te : (P1 xs k == t) = false := beq_eq_false_iff_ne.2 he
        have k4 : IntKind.i64.wrap ((k : Int) + 1) = (k : Int) + 1 := IntWalk.i64_in _ (by omega)
        have K4 := Lib.hid k4
        clear k4
        by_cases h1 : k + 1 < xs.length
        · have k5 : (k : Int) + 1 < (xs.length : Int) := by omega
          have k6 : (0 : Int) ≤ (k : Int) + 1 := by omega
          have d0 := HK.out.keep (HC.out (k + 1) h1).1
          have d1 := HK.out.keep (HC.out (k + 1) h1).2
          have d0' : ∀ o : Obj, (wr.alloc o).cell? ⟨b, off + (k + 1) * 2, none⟩ = some (.int .i64 (P1 xs (k + 1))) := fun o => (Kept.alloc (Kept.refl _) o).keep d0
          have d1' : ∀ o : Obj, (wr.alloc o).cell? ⟨b, off + (k + 1) * 2 + 1, none⟩ = some (.int .i64 (P2 xs (k + 1))) := fun o => (Kept.alloc (Kept.refl _) o).keep d1
          obtain ⟨⟨b5, b6⟩, ⟨b7, b8⟩, -⟩ := tideB_at HB.out h1
          have hgp := HAsc.out k h1
          cases hin : inB t (P1 xs k) (P1 xs (k + 1))
          · have HB2 := Lib.hid (upto_succ (p := fun i => P1 xs i ≠ t ∧ (i + 1 < xs.length → ¬ (P1 xs i ≤ t ∧ t ≤ P1 xs (i + 1) ∧ P1 xs (i + 1) - P1 xs i ≤ 60))) HN.out ⟨he, fun _ hh => by have := inB_true.2 ⟨hh.1, hh.2.1⟩; rw [hin] at this; cases this⟩)
            clear he
            go_wp2_with fail
            have k4 := K4.out
            go_quiet ((first | (go_at_call 56; exact Calls.quiet_of_same (flipw (l1In_any _ _ _ _)))))
            clear k4
            go_wp2
            go_roundw
            case rel => exact ⟨k + 1, by omega, by go_num, by have hq := HK.out; (repeat (first | exact Kept.refl _ | assumption | refine Kept.alloc ?_ _ | refine Kept.drew ?_ | refine Kept.drewN ?_ _ | refine Kept.setCell ?_ (by first | (simp; done) | (simp; omega) | omega | exact Kept.size (by (repeat (first | exact Kept.refl _ | assumption | refine Kept.alloc ?_ _ | refine Kept.drew ?_ | refine Kept.drewN ?_ _ | refine Kept.trans ?_ (by assumption))))) _ | refine Kept.trans ?_ (by assumption))), HB2.out⟩
            case measure => simp [intOf]; omega
          · have hi2 := inB_true.1 hin
            obtain ⟨i1, i2⟩ := hi2
            by_cases hg : P1 xs (k + 1) - P1 xs k ≤ 60
            · by_cases h2 : P1 xs (k + 1) = t
              · have hv := lv_vals (lv_exact HAsc.out h1 h2) (by simp)
                have HV := Lib.hid hv
                have te2 : (P1 xs (k + 1) == t) = true := beq_iff_eq.2 h2
                clear hv he h2
                go_wp2_with fail
                have k7 : IntKind.i64.wrap (P1 xs (k + 1) - P1 xs k) = P1 xs (k + 1) - P1 xs k := IntWalk.i64_in _ (by omega)
                have k4 := K4.out
                go_quiet ((first | (go_at_call 56; exact Calls.quiet_of_same (flipw (l1In_any _ _ _ _)))))
                clear k4 k7
                go_wp2
                go_ret3
                exact ⟨ret_iib HV.out.2.1 HV.out.2.2 HV.out.1, by have hq := HK.out; (repeat (first | exact Kept.refl _ | assumption | refine Kept.alloc ?_ _ | refine Kept.drew ?_ | refine Kept.drewN ?_ _ | refine Kept.setCell ?_ (by first | (simp; done) | (simp; omega) | omega | exact Kept.size (by (repeat (first | exact Kept.refl _ | assumption | refine Kept.alloc ?_ _ | refine Kept.drew ?_ | refine Kept.drewN ?_ _ | refine Kept.trans ?_ (by assumption))))) _ | refine Kept.trans ?_ (by assumption)))⟩
              · have hv := lv_vals (lv_between (t := t) HAsc.out h1 (by omega) (by omega)) hg
                have HV := Lib.hid hv
                have te2 : (P1 xs (k + 1) == t) = false := beq_eq_false_iff_ne.2 h2
                have s1 := prod_bd2 (P2 xs k) (P1 xs (k + 1) - t) (by omega) (by omega) (by omega) (by omega)
                have s2 := prod_bd2 (P2 xs (k + 1)) (t - P1 xs k) (by omega) (by omega) (by omega) (by omega)
                clear hv he h2
                go_wp2_with fail
                have k7 : IntKind.i64.wrap (P1 xs (k + 1) - P1 xs k) = P1 xs (k + 1) - P1 xs k := IntWalk.i64_in _ (by omega)
                have k4 := K4.out
                go_quiet ((first | (go_at_call 56; exact Calls.quiet_of_same (flipw (l1In_any _ _ _ _)))))
                clear k4 k7
                go_wp2_with fail
                have e1 : IntKind.i64.wrap (P1 xs (k + 1) - t) = P1 xs (k + 1) - t := IntWalk.i64_in _ (by omega)
                have e2 : IntKind.i64.wrap (P2 xs k * (P1 xs (k + 1) - t)) = P2 xs k * (P1 xs (k + 1) - t) := IntWalk.i64_in _ (by omega)
                have e3 : IntKind.i64.wrap (t - P1 xs k) = t - P1 xs k := IntWalk.i64_in _ (by omega)
                have e4 : IntKind.i64.wrap (P2 xs (k + 1) * (t - P1 xs k)) = P2 xs (k + 1) * (t - P1 xs k) := IntWalk.i64_in _ (by omega)
                have e5 : IntKind.i64.wrap (P2 xs k * (P1 xs (k + 1) - t) + P2 xs (k + 1) * (t - P1 xs k)) = P2 xs k * (P1 xs (k + 1) - t) + P2 xs (k + 1) * (t - P1 xs k) := IntWalk.i64_in _ (by omega)
                have e6 : IntKind.i64.wrap (P1 xs (k + 1) - P1 xs k) = P1 xs (k + 1) - P1 xs k := IntWalk.i64_in _ (by omega)
                go_quiet (fail)
                clear e1 e2 e3 e4 e5 e6
                go_wp2
                go_ret3
                exact ⟨ret_iib HV.out.2.1 HV.out.2.2 HV.out.1, by have hq := HK.out; (repeat (first | exact Kept.refl _ | assumption | refine Kept.alloc ?_ _ | refine Kept.drew ?_ | refine Kept.drewN ?_ _ | refine Kept.setCell ?_ (by first | (simp; done) | (simp; omega) | omega | exact Kept.size (by (repeat (first | exact Kept.refl _ | assumption | refine Kept.alloc ?_ _ | refine Kept.drew ?_ | refine Kept.drewN ?_ _ | refine Kept.trans ?_ (by assumption))))) _ | refine Kept.trans ?_ (by assumption)))⟩
            · have HB2 := Lib.hid (upto_succ (p := fun i => P1 xs i ≠ t ∧ (i + 1 < xs.length → ¬ (P1 xs i ≤ t ∧ t ≤ P1 xs (i + 1) ∧ P1 xs (i + 1) - P1 xs i ≤ 60))) HN.out ⟨he, fun _ hh => hg hh.2.2⟩)
              have hg' : 60 < P1 xs (k + 1) - P1 xs k := by omega
              clear he
              go_wp2_with fail
              have k7 : IntKind.i64.wrap (P1 xs (k + 1) - P1 xs k) = P1 xs (k + 1) - P1 xs k := IntWalk.i64_in _ (by omega)
              have k4 := K4.out
              go_quiet ((first | (go_at_call 56; exact Calls.quiet_of_same (flipw (l1In_any _ _ _ _)))))
              clear k4 k7
              go_wp2
              go_roundw
              case rel => exact ⟨k + 1, by omega, by go_num, by have hq := HK.out; (repeat (first | exact Kept.refl _ | assumption | refine Kept.alloc ?_ _ | refine Kept.drew ?_ | refine Kept.drewN ?_ _ | refine Kept.setCell ?_ (by first | (simp; done) | (simp; omega) | omega | exact Kept.size (by (repeat (first | exact Kept.refl _ | assumption | refine Kept.alloc ?_ _ | refine Kept.drew ?_ | refine Kept.drewN ?_ _ | refine Kept.trans ?_ (by assumption))))) _ | refine Kept.trans ?_ (by assumption))), HB2.out⟩
              case measure => simp [intOf]; omega
        · have HB2 := Lib.hid (upto_succ (p := fun i => P1 xs i ≠ t ∧ (i + 1 < xs.length → ¬ (P1 xs i ≤ t ∧ t ≤ P1 xs (i + 1) ∧ P1 xs (i + 1) - P1 xs i ≤ 60))) HN.out ⟨he, fun h => absurd h h1⟩)
          have k5 : (xs.length : Int) ≤ (k : Int) + 1 := by omega
          have k8 : decide ((k : Int) + 1 < (xs.length : Int)) = false := by simpa using k5
          have k9 : decide (k + 1 < xs.length) = false := by simp; omega
          clear he
          go_wp2_with fail
          have k4 := K4.out
          go_quiet ((first | (go_at_call 56; exact Calls.quiet_of_same (flipw (l1In_any _ _ _ _)))))
          clear k4
          go_wp2
          go_roundw
          case rel => exact ⟨k + 1, by omega, by go_num, by have hq := HK.out; (repeat (first | exact Kept.refl _ | assumption | refine Kept.alloc ?_ _ | refine Kept.drew ?_ | refine Kept.drewN ?_ _ | refine Kept.setCell ?_ (by first | (simp; done) | (simp; omega) | omega | exact Kept.size (by (repeat (first | exact Kept.refl _ | assumption | refine Kept.alloc ?_ _ | refine Kept.drew ?_ | refine Kept.drewN ?_ _ | refine Kept.trans ?_ (by assumption))))) _ | refine Kept.trans ?_ (by assumption))), HB2.out⟩
          case measure => simp [intOf]; omega
    · have e : k = xs.length := by omega
      have hno := lv_no (xs := xs) (t := t) (fun i hi => (HN.out i (by omega)).1) (fun i hi => (HN.out i (by omega)).2 hi)
      have HV := Lib.hid (lv_vals_no hno)
      have HF := Lib.hid hno
      clear e hno
      go_wp2
      go_ret3
      exact ⟨ret_iib HV.out.1 HV.out.2 HF.out, HK.out⟩

/-- The question of a level is valid. -/
def askB (xs : List (Int × Int)) (t : Int) : Bool := tideB xs && timeB t
theorem l4Asked_any (v : Value) (xs : List (Int × Int)) (t : Int) (w : World) (hL : Lies w 2 pairC v xs) : Calls Try.prog 57 #[v, .int .i64 t] w fun e w' => e = .returned (.bool (askB xs t)) ∧ Kept w w' := by
  have HL := Lib.hid hL
  obtain ⟨A, c, rfl, hlc, hcm, hA⟩ := hL
  clear hA
  go_enter Try.func57, Try.ntmps57
  go_wp2_with (first | (go_at_call 51; (with_reducible refine (l4Good_any _ _ _ HL.out).mono ?_); rintro e w' ⟨rfl, hk⟩; (try have hkr := Root.trans (by assumption) hk); (first | (have hkf := From.step (by assumption) hk; obtain ⟨hc, hf⟩ := hkf.cells) | (have hkf := From.start hk; obtain ⟨hc, hf⟩ := hkf.cells))) | (go_at_call 76; (with_reducible refine (l2Time_any _ _).mono ?_); rintro e w' ⟨rfl, rfl⟩))
  all_goals go_ret
  all_goals exact ⟨ret_bool (by (first | (simp [askB, *]; done) | (simp [askB, *]; omega) | (simp only [Bool.not_eq_true', Bool.not_eq_false'] at *; simp [askB, *]; done) | (simp only [Bool.not_eq_true', Bool.not_eq_false'] at *; simp [askB, *]; omega) | (simp only [Bool.not_eq_false'] at *; simp [askB, *]; done) | (simp only [Bool.not_eq_false'] at *; simp [askB, *]; omega))), by (repeat (first | exact Kept.refl _ | assumption | refine Kept.alloc ?_ _ | refine Kept.drew ?_ | refine Kept.drewN ?_ _ | refine Kept.setCell ?_ (by first | (simp; done) | (simp; omega) | omega | exact Kept.size (by (repeat (first | exact Kept.refl _ | assumption | refine Kept.alloc ?_ _ | refine Kept.drew ?_ | refine Kept.drewN ?_ _ | refine Kept.trans ?_ (by assumption))))) _ | refine Kept.trans ?_ (by assumption)))⟩
theorem askB_1 {xs : List (Int × Int)} {t : Int} (h : askB xs t = true) : tideB xs = true ∧ timeB t = true := by simpa [askB] using h
def lvlOk (xs : List (Int × Int)) (t : Int) : Bool := askB xs t && lvOk xs t
def lvlN (xs : List (Int × Int)) (t : Int) : Int := if lvlOk xs t = true then redN (lvN xs t) (lvD xs t) else 0
def lvlD (xs : List (Int × Int)) (t : Int) : Int := if lvlOk xs t = true then redD (lvN xs t) (lvD xs t) else 0
theorem lvl_no {xs : List (Int × Int)} {t : Int} (h : lvlOk xs t = false) : lvlN xs t = 0 ∧ lvlD xs t = 0 := by simp [lvlN, lvlD, h]
theorem lvl_yes {xs : List (Int × Int)} {t : Int} (h : lvlOk xs t = true) : lvlN xs t = redN (lvN xs t) (lvD xs t) ∧ lvlD xs t = redD (lvN xs t) (lvD xs t) := by simp [lvlN, lvlD, h]
/-- Bounds of a level not in lowest terms. -/
theorem lv_bd {xs : List (Int × Int)} {t : Int} (hB : tideB xs = true) (ht : timeB t = true) (h : lvOk xs t = true) : (-40000000 ≤ lvN xs t ∧ lvN xs t ≤ 40000000) ∧ (1 ≤ lvD xs t ∧ lvD xs t ≤ 60) := by
  have ht2 := inB_true.1 ht
  unfold lvOk at h
  cases hl : lv xs t with
  | none => rw [hl] at h; cases h
  | some r =>
    rw [hl] at h
    have hr : r.2 ≤ 60 := by simpa using h
    have hv := lv_vals hl hr
    rw [hv.2.1, hv.2.2]
    obtain ⟨i, hi, hs⟩ := lvTo_some _ hl
    obtain ⟨⟨b1, b2⟩, ⟨b3, b4⟩, -⟩ := tideB_at hB hi
    simp only [lvStep] at hs
    split at hs
    · injection hs with hs
      subst hs
      simp
      omega
    · split at hs
      · rename_i hc
        obtain ⟨c0, c1, c2⟩ := hc
        obtain ⟨⟨b5, b6⟩, ⟨b7, b8⟩, -⟩ := tideB_at hB (k := i - 1) (by omega)
        have s1 := prod_bd2 (P2 xs (i - 1)) (P1 xs i - t) (by omega) (by omega) (by omega) (by omega)
        have s2 := prod_bd2 (P2 xs i) (t - P1 xs (i - 1)) (by omega) (by omega) (by omega) (by omega)
        injection hs with hs
        subst hs
        simp at hr ⊢
        omega
      · cases hs

theorem levelAtX_any (v : Value) (xs : List (Int × Int)) (t : Int) (w : World) (hL : Lies w 2 pairC v xs) : Calls Try.prog 31 #[v, .int .i64 t] w fun e w' => e = .returned (.tuple #[.int .i64 (lvlN xs t), .int .i64 (lvlD xs t), .bool (lvlOk xs t)]) ∧ Kept w w' := by
  have HL := Lib.hid hL
  obtain ⟨A, c, rfl, hlc, hcm, hA⟩ := hL
  clear hA
  cases h1 : tideB xs
  · have h0 : lvlOk xs t = false := by simp [lvlOk, askB, h1]
    have HN := Lib.hid (lvl_no h0)
    have H0 := Lib.hid h0
    clear h0
    go_enter Try.func31, Try.ntmps31
    go_wp2_with (go_at_call 17; (with_reducible refine (isTideCurve_any _ _ _ HL.out).mono ?_); rintro e w' ⟨rfl, hk⟩; (try have hkr := Root.trans (by assumption) hk); (first | (have hkf := From.step (by assumption) hk; obtain ⟨hc, hf⟩ := hkf.cells) | (have hkf := From.start hk; obtain ⟨hc, hf⟩ := hkf.cells)))
    go_ret3
    exact ⟨ret_iib HN.out.1 HN.out.2 H0.out, by (repeat (first | exact Kept.refl _ | assumption | refine Kept.alloc ?_ _ | refine Kept.drew ?_ | refine Kept.drewN ?_ _ | refine Kept.setCell ?_ (by first | (simp; done) | (simp; omega) | omega | exact Kept.size (by (repeat (first | exact Kept.refl _ | assumption | refine Kept.alloc ?_ _ | refine Kept.drew ?_ | refine Kept.drewN ?_ _ | refine Kept.trans ?_ (by assumption))))) _ | refine Kept.trans ?_ (by assumption)))⟩
  · cases h2 : timeB t
    · have h0 : lvlOk xs t = false := by simp [lvlOk, askB, h2]
      have HN := Lib.hid (lvl_no h0)
      have H0 := Lib.hid h0
      clear h0
      go_enter Try.func31, Try.ntmps31
      go_wp2_with (first | (go_at_call 17; (with_reducible refine (isTideCurve_any _ _ _ HL.out).mono ?_); rintro e w' ⟨rfl, hk⟩; (try have hkr := Root.trans (by assumption) hk); (first | (have hkf := From.step (by assumption) hk; obtain ⟨hc, hf⟩ := hkf.cells) | (have hkf := From.start hk; obtain ⟨hc, hf⟩ := hkf.cells))) | (go_at_call 53; (with_reducible refine (isTime_any _ _).mono ?_); rintro e w' ⟨rfl, rfl⟩))
      go_ret3
      exact ⟨ret_iib HN.out.1 HN.out.2 H0.out, by (repeat (first | exact Kept.refl _ | assumption | refine Kept.alloc ?_ _ | refine Kept.drew ?_ | refine Kept.drewN ?_ _ | refine Kept.setCell ?_ (by first | (simp; done) | (simp; omega) | omega | exact Kept.size (by (repeat (first | exact Kept.refl _ | assumption | refine Kept.alloc ?_ _ | refine Kept.drew ?_ | refine Kept.drewN ?_ _ | refine Kept.trans ?_ (by assumption))))) _ | refine Kept.trans ?_ (by assumption)))⟩
    · have H1 := Lib.hid h1
      have H2 := Lib.hid h2
      cases h3 : lvOk xs t
      · have h0 : lvlOk xs t = false := by simp [lvlOk, h3]
        have HN := Lib.hid (lvl_no h0)
        have H0 := Lib.hid h0
        clear h0
        go_enter Try.func31, Try.ntmps31
        go_wp2_with (first | (go_at_call 17; (with_reducible refine (isTideCurve_any _ _ _ HL.out).mono ?_); rintro e w' ⟨rfl, hk⟩; (try have hkr := Root.trans (by assumption) hk); (first | (have hkf := From.step (by assumption) hk; obtain ⟨hc, hf⟩ := hkf.cells) | (have hkf := From.start hk; obtain ⟨hc, hf⟩ := hkf.cells))) | (go_at_call 53; (with_reducible refine (isTime_any _ _).mono ?_); rintro e w' ⟨rfl, rfl⟩) | (go_at_call 60; refine (levelAt_any _ _ _ _ (by exact HL.out.kept (by (repeat (first | exact Kept.refl _ | assumption | refine Kept.alloc ?_ _ | refine Kept.drew ?_ | refine Kept.drewN ?_ _ | refine Kept.setCell ?_ (by first | (simp; done) | (simp; omega) | omega | exact Kept.size (by (repeat (first | exact Kept.refl _ | assumption | refine Kept.alloc ?_ _ | refine Kept.drew ?_ | refine Kept.drewN ?_ _ | refine Kept.trans ?_ (by assumption))))) _ | refine Kept.trans ?_ (by assumption))))) H1.out H2.out).mono ?_; rintro e w1 ⟨p, q, rfl, hpq, hk⟩))
        go_ret3
        exact ⟨ret_iib HN.out.1 HN.out.2 H0.out, by (repeat (first | exact Kept.refl _ | assumption | refine Kept.alloc ?_ _ | refine Kept.drew ?_ | refine Kept.drewN ?_ _ | refine Kept.setCell ?_ (by first | (simp; done) | (simp; omega) | omega | exact Kept.size (by (repeat (first | exact Kept.refl _ | assumption | refine Kept.alloc ?_ _ | refine Kept.drew ?_ | refine Kept.drewN ?_ _ | refine Kept.trans ?_ (by assumption))))) _ | refine Kept.trans ?_ (by assumption)))⟩
      · have h0 : lvlOk xs t = true := by simp [lvlOk, askB, h1, h2, h3]
        have HN := Lib.hid (lvl_yes h0)
        have H0 := Lib.hid h0
        have H3 := Lib.hid h3
        clear h0
        go_enter Try.func31, Try.ntmps31
        go_wp2_with (first | (go_at_call 17; (with_reducible refine (isTideCurve_any _ _ _ HL.out).mono ?_); rintro e w' ⟨rfl, hk⟩; (try have hkr := Root.trans (by assumption) hk); (first | (have hkf := From.step (by assumption) hk; obtain ⟨hc, hf⟩ := hkf.cells) | (have hkf := From.start hk; obtain ⟨hc, hf⟩ := hkf.cells))) | (go_at_call 53; (with_reducible refine (isTime_any _ _).mono ?_); rintro e w' ⟨rfl, rfl⟩) | (go_at_call 60; refine (levelAt_any _ _ _ _ (by exact HL.out.kept (by (repeat (first | exact Kept.refl _ | assumption | refine Kept.alloc ?_ _ | refine Kept.drew ?_ | refine Kept.drewN ?_ _ | refine Kept.setCell ?_ (by first | (simp; done) | (simp; omega) | omega | exact Kept.size (by (repeat (first | exact Kept.refl _ | assumption | refine Kept.alloc ?_ _ | refine Kept.drew ?_ | refine Kept.drewN ?_ _ | refine Kept.trans ?_ (by assumption))))) _ | refine Kept.trans ?_ (by assumption))))) H1.out H2.out).mono ?_; rintro e w1 ⟨p, q, rfl, hpq, hk⟩; have HP := Lib.hid (hpq H3.out); clear hpq))
        go_quiet (fail)
        go_wp2
        go_ret3
        exact ⟨ret_iib (HN.out.1.trans HP.out.1.symm) (HN.out.2.trans HP.out.2.symm) H0.out, by (repeat (first | exact Kept.refl _ | assumption | refine Kept.alloc ?_ _ | refine Kept.drew ?_ | refine Kept.drewN ?_ _ | refine Kept.setCell ?_ (by first | (simp; done) | (simp; omega) | omega | exact Kept.size (by (repeat (first | exact Kept.refl _ | assumption | refine Kept.alloc ?_ _ | refine Kept.drew ?_ | refine Kept.drewN ?_ _ | refine Kept.trans ?_ (by assumption))))) _ | refine Kept.trans ?_ (by assumption)))⟩
theorem sLevelAt_any (v : Value) (xs : List (Int × Int)) (t : Int) (w : World) (hL : Lies w 2 pairC v xs) : Calls Try.prog 30 #[v, .int .i64 t] w fun e w' => e = .returned (.tuple #[.int .i64 (lvlN xs t), .int .i64 (lvlD xs t), .bool (lvlOk xs t)]) ∧ Kept w w' := by
  have HL := Lib.hid hL
  obtain ⟨A, c, rfl, hlc, hcm, hA⟩ := hL
  clear hA
  cases h1 : askB xs t
  · have h0 : lvlOk xs t = false := by simp [lvlOk, h1]
    have HN := Lib.hid (lvl_no h0)
    have H0 := Lib.hid h0
    clear h0
    go_enter Try.func30, Try.ntmps30
    go_wp2_with (go_at_call 57; (with_reducible refine (l4Asked_any _ _ _ _ HL.out).mono ?_); rintro e w' ⟨rfl, hk⟩; (try have hkr := Root.trans (by assumption) hk); (first | (have hkf := From.step (by assumption) hk; obtain ⟨hc, hf⟩ := hkf.cells) | (have hkf := From.start hk; obtain ⟨hc, hf⟩ := hkf.cells)))
    go_ret3
    exact ⟨ret_iib HN.out.1 HN.out.2 H0.out, by (repeat (first | exact Kept.refl _ | assumption | refine Kept.alloc ?_ _ | refine Kept.drew ?_ | refine Kept.drewN ?_ _ | refine Kept.setCell ?_ (by first | (simp; done) | (simp; omega) | omega | exact Kept.size (by (repeat (first | exact Kept.refl _ | assumption | refine Kept.alloc ?_ _ | refine Kept.drew ?_ | refine Kept.drewN ?_ _ | refine Kept.trans ?_ (by assumption))))) _ | refine Kept.trans ?_ (by assumption)))⟩
  · have H1 := Lib.hid (askB_1 h1).1
    have H2 := Lib.hid (askB_1 h1).2
    cases h3 : lvOk xs t
    · have h0 : lvlOk xs t = false := by simp [lvlOk, h3]
      have HN := Lib.hid (lvl_no h0)
      have H0 := Lib.hid h0
      clear h0
      go_enter Try.func30, Try.ntmps30
      go_wp2_with (first | (go_at_call 57; (with_reducible refine (l4Asked_any _ _ _ _ HL.out).mono ?_); rintro e w' ⟨rfl, hk⟩; (try have hkr := Root.trans (by assumption) hk); (first | (have hkf := From.step (by assumption) hk; obtain ⟨hc, hf⟩ := hkf.cells) | (have hkf := From.start hk; obtain ⟨hc, hf⟩ := hkf.cells))) | (go_at_call 58; (with_reducible refine (l4At_any _ _ _ _ (by exact HL.out.kept (by (repeat (first | exact Kept.refl _ | assumption | refine Kept.alloc ?_ _ | refine Kept.drew ?_ | refine Kept.drewN ?_ _ | refine Kept.setCell ?_ (by first | (simp; done) | (simp; omega) | omega | exact Kept.size (by (repeat (first | exact Kept.refl _ | assumption | refine Kept.alloc ?_ _ | refine Kept.drew ?_ | refine Kept.drewN ?_ _ | refine Kept.trans ?_ (by assumption))))) _ | refine Kept.trans ?_ (by assumption))))) H1.out H2.out).mono ?_); rintro e w' ⟨rfl, hk⟩; (try have hkr := Root.trans (by assumption) hk); (first | (have hkf := From.step (by assumption) hk; obtain ⟨hc, hf⟩ := hkf.cells) | (have hkf := From.start hk; obtain ⟨hc, hf⟩ := hkf.cells))))
      go_ret3
      exact ⟨ret_iib HN.out.1 HN.out.2 H0.out, by (repeat (first | exact Kept.refl _ | assumption | refine Kept.alloc ?_ _ | refine Kept.drew ?_ | refine Kept.drewN ?_ _ | refine Kept.setCell ?_ (by first | (simp; done) | (simp; omega) | omega | exact Kept.size (by (repeat (first | exact Kept.refl _ | assumption | refine Kept.alloc ?_ _ | refine Kept.drew ?_ | refine Kept.drewN ?_ _ | refine Kept.trans ?_ (by assumption))))) _ | refine Kept.trans ?_ (by assumption)))⟩
    · have h0 : lvlOk xs t = true := by simp [lvlOk, h1, h3]
      have hb := lv_bd H1.out H2.out h3
      obtain ⟨⟨n1, n2⟩, n3, n4⟩ := hb
      have m1 : -4611686018427387904 ≤ lvN xs t := by omega
      have m2 : lvN xs t ≤ 4611686018427387904 := by omega
      have m3 : 0 < lvD xs t := by omega
      have m4 : lvD xs t ≤ 4611686018427387904 := by omega
      have HN := Lib.hid (lvl_yes h0)
      have H0 := Lib.hid h0
      clear h0
      go_enter Try.func30, Try.ntmps30
      go_wp2_with (first | (go_at_call 57; (with_reducible refine (l4Asked_any _ _ _ _ HL.out).mono ?_); rintro e w' ⟨rfl, hk⟩; (try have hkr := Root.trans (by assumption) hk); (first | (have hkf := From.step (by assumption) hk; obtain ⟨hc, hf⟩ := hkf.cells) | (have hkf := From.start hk; obtain ⟨hc, hf⟩ := hkf.cells))) | (go_at_call 58; (with_reducible refine (l4At_any _ _ _ _ (by exact HL.out.kept (by (repeat (first | exact Kept.refl _ | assumption | refine Kept.alloc ?_ _ | refine Kept.drew ?_ | refine Kept.drewN ?_ _ | refine Kept.setCell ?_ (by first | (simp; done) | (simp; omega) | omega | exact Kept.size (by (repeat (first | exact Kept.refl _ | assumption | refine Kept.alloc ?_ _ | refine Kept.drew ?_ | refine Kept.drewN ?_ _ | refine Kept.trans ?_ (by assumption))))) _ | refine Kept.trans ?_ (by assumption))))) H1.out H2.out).mono ?_); rintro e w' ⟨rfl, hk⟩; (try have hkr := Root.trans (by assumption) hk); (first | (have hkf := From.step (by assumption) hk; obtain ⟨hc, hf⟩ := hkf.cells) | (have hkf := From.start hk; obtain ⟨hc, hf⟩ := hkf.cells))) | (go_at_call 62; (with_reducible refine (l2Reduce_any _ _ m1 m2 m3 m4 _).mono ?_); rintro e w' ⟨rfl, hk⟩; (try have hkr := Root.trans (by assumption) hk); (first | (have hkf := From.step (by assumption) hk; obtain ⟨hc, hf⟩ := hkf.cells) | (have hkf := From.start hk; obtain ⟨hc, hf⟩ := hkf.cells))))
      go_ret3
      exact ⟨ret_iib HN.out.1 HN.out.2 H0.out, by (repeat (first | exact Kept.refl _ | assumption | refine Kept.alloc ?_ _ | refine Kept.drew ?_ | refine Kept.drewN ?_ _ | refine Kept.setCell ?_ (by first | (simp; done) | (simp; omega) | omega | exact Kept.size (by (repeat (first | exact Kept.refl _ | assumption | refine Kept.alloc ?_ _ | refine Kept.drew ?_ | refine Kept.drewN ?_ _ | refine Kept.trans ?_ (by assumption))))) _ | refine Kept.trans ?_ (by assumption)))⟩
theorem lawLevelAt (v : Value) (xs : List (Int × Int)) (t : Int) (w : World) (hL : Lies w 2 pairC v xs) : Calls Try.prog 7 #[v, .int .i64 t] w fun e w' => e = .returned (.bool true) ∧ Kept w w' := by
  have HL := Lib.hid hL
  by_cases hn : xs.length ≤ 1048576
  · obtain ⟨A, c, rfl, hlc, hcm, hA⟩ := hL
    clear hA
    go_enter Try.func7, Try.ntmps7
    go_wp2_with (first | (go_at_call 14; (with_reducible refine (szTideS_ok _ _ _ HL.out hn).mono ?_); rintro e w' ⟨rfl, rfl⟩) | (go_at_call 16; refine (toTideS_any _ _ _ (by exact HL.out.kept (by (repeat (first | exact Kept.refl _ | assumption | refine Kept.alloc ?_ _ | refine Kept.drew ?_ | refine Kept.drewN ?_ _ | refine Kept.setCell ?_ (by first | (simp; done) | (simp; omega) | omega | exact Kept.size (by (repeat (first | exact Kept.refl _ | assumption | refine Kept.alloc ?_ _ | refine Kept.drew ?_ | refine Kept.drewN ?_ _ | refine Kept.trans ?_ (by assumption))))) _ | refine Kept.trans ?_ (by assumption))))) hn).mono ?_; rintro e w1 ⟨u1, rfl, hu1, hk⟩; (try have hkr := Root.trans (by assumption) hk); (first | have hl1 := pairs_own hu1 | have hl1 := crafts_own hu1); clear hu1) | (go_at_call 30; (with_reducible refine (sLevelAt_any _ _ _ _ (by first | assumption | exact Lies.kept (by assumption) (by (repeat (first | exact Kept.refl _ | assumption | refine Kept.alloc ?_ _ | refine Kept.drew ?_ | refine Kept.drewN ?_ _ | refine Kept.setCell ?_ (by first | (simp; done) | (simp; omega) | omega | exact Kept.size (by (repeat (first | exact Kept.refl _ | assumption | refine Kept.alloc ?_ _ | refine Kept.drew ?_ | refine Kept.drewN ?_ _ | refine Kept.trans ?_ (by assumption))))) _ | refine Kept.trans ?_ (by assumption)))))).mono ?_); rintro e w' ⟨rfl, hk⟩; (try have hkr := Root.trans (by assumption) hk); (first | (have hkf := From.step (by assumption) hk; obtain ⟨hc, hf⟩ := hkf.cells) | (have hkf := From.start hk; obtain ⟨hc, hf⟩ := hkf.cells))) | (go_at_call 31; (with_reducible refine (levelAtX_any _ _ _ _ (by first | assumption | exact Lies.kept (by assumption) (by (repeat (first | exact Kept.refl _ | assumption | refine Kept.alloc ?_ _ | refine Kept.drew ?_ | refine Kept.drewN ?_ _ | refine Kept.setCell ?_ (by first | (simp; done) | (simp; omega) | omega | exact Kept.size (by (repeat (first | exact Kept.refl _ | assumption | refine Kept.alloc ?_ _ | refine Kept.drew ?_ | refine Kept.drewN ?_ _ | refine Kept.trans ?_ (by assumption))))) _ | refine Kept.trans ?_ (by assumption)))))).mono ?_); rintro e w' ⟨rfl, hk⟩; (try have hkr := Root.trans (by assumption) hk); (first | (have hkf := From.step (by assumption) hk; obtain ⟨hc, hf⟩ := hkf.cells) | (have hkf := From.start hk; obtain ⟨hc, hf⟩ := hkf.cells))) | (go_at_call 18; (with_reducible refine (eqTideS_any _ _ _ _ (by first | assumption | exact Lies.kept (by assumption) (by (repeat (first | exact Kept.refl _ | assumption | refine Kept.alloc ?_ _ | refine Kept.drew ?_ | refine Kept.drewN ?_ _ | refine Kept.setCell ?_ (by first | (simp; done) | (simp; omega) | omega | exact Kept.size (by (repeat (first | exact Kept.refl _ | assumption | refine Kept.alloc ?_ _ | refine Kept.drew ?_ | refine Kept.drewN ?_ _ | refine Kept.trans ?_ (by assumption))))) _ | refine Kept.trans ?_ (by assumption))))) (by first | assumption | exact Lies.kept (by assumption) (by (repeat (first | exact Kept.refl _ | assumption | refine Kept.alloc ?_ _ | refine Kept.drew ?_ | refine Kept.drewN ?_ _ | refine Kept.setCell ?_ (by first | (simp; done) | (simp; omega) | omega | exact Kept.size (by (repeat (first | exact Kept.refl _ | assumption | refine Kept.alloc ?_ _ | refine Kept.drew ?_ | refine Kept.drewN ?_ _ | refine Kept.trans ?_ (by assumption))))) _ | refine Kept.trans ?_ (by assumption)))))).mono ?_); rintro e w' ⟨rfl, hk⟩; (try have hkr := Root.trans (by assumption) hk); (first | (have hkf := From.step (by assumption) hk; obtain ⟨hc, hf⟩ := hkf.cells) | (have hkf := From.start hk; obtain ⟨hc, hf⟩ := hkf.cells))))
    go_ret
    exact ⟨rfl, by (repeat (first | exact Kept.refl _ | assumption | refine Kept.alloc ?_ _ | refine Kept.drew ?_ | refine Kept.drewN ?_ _ | refine Kept.setCell ?_ (by first | (simp; done) | (simp; omega) | omega | exact Kept.size (by (repeat (first | exact Kept.refl _ | assumption | refine Kept.alloc ?_ _ | refine Kept.drew ?_ | refine Kept.drewN ?_ _ | refine Kept.trans ?_ (by assumption))))) _ | refine Kept.trans ?_ (by assumption)))⟩
  · obtain ⟨A, c, rfl, hlc, hcm, hA⟩ := hL
    clear hA
    go_enter Try.func7, Try.ntmps7
    go_wp2_with (go_at_call 14; (with_reducible refine (szTideS_no _ _ _ HL.out (by omega)).mono ?_); rintro e w' ⟨rfl, rfl⟩)
    go_ret
    exact ⟨rfl, by (repeat (first | exact Kept.refl _ | assumption | refine Kept.alloc ?_ _ | refine Kept.drew ?_ | refine Kept.drewN ?_ _ | refine Kept.setCell ?_ (by first | (simp; done) | (simp; omega) | omega | exact Kept.size (by (repeat (first | exact Kept.refl _ | assumption | refine Kept.alloc ?_ _ | refine Kept.drew ?_ | refine Kept.drewN ?_ _ | refine Kept.trans ?_ (by assumption))))) _ | refine Kept.trans ?_ (by assumption)))⟩
end Go.Proofs.Ytlkbneklmcefcaa
