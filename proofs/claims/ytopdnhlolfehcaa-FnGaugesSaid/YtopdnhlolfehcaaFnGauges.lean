/-
  FnGauges' walk: a reading that is added is told, heights stay when the zero is shifted, gaps are between readings.
  Conditions: none.
-/
import Derived.Test.YtopdnhlolfehcaaRGauge
import Derived.Test.YtopdnhlolfehcaaGDraws2
import Derived.Test.YtopdnhlolfehcaaShiftL
import Derived.Deep.DeepCutAuto
import Derived.Deep.CutBlock
namespace Go.Proofs.Ytopdnhlolfehcaa
open Go.ChangeShapes Go.WideShapes Go.ChangeAt Go.RowKit
set_option linter.unusedVariables false
set_option linter.unusedSimpArgs false

theorem if_size (b : Bool) {nm : ByteArray} (h : nm.size ≤ maxLen) : (if b = true then nm else { data := #[] }).size ≤ maxLen := by
  split
  · exact h
  · exact Nat.zero_le _
theorem ad_pack (id : Int) (nm : ByteArray) (z : Int) (xs : List (Int × Int)) (rt rl : Int) (hs : nm.size ≤ maxLen) : ∃ (I : Int) (NM : ByteArray) (Z : Int) (ok : Bool) (L : List (Int × Int)), NM.size ≤ maxLen ∧
    (∀ (W : World) (u : Value), Lies W 2 pairC u xs → Calls Try.prog 17 #[.agg #[.int .i64 id, .string nm, .int .i64 z, u], .agg #[.int .i64 rt, .int .i64 rl]] W fun e w' => ∃ u', e = .returned (.tuple #[.agg #[.int .i64 I, .string NM, .int .i64 Z, u'], .bool ok]) ∧ w'.ownsRow W.heap.size 28 2 u' L.length (L.flatMap pairC) ∧ Kept W w') ∧ (∀ (W : World) (u : Value), Lies W 2 pairC u xs → Calls Try.prog 18 #[.agg #[.int .i64 id, .string nm, .int .i64 z, u], .agg #[.int .i64 rt, .int .i64 rl]] W fun e w' => ∃ u', e = .returned (.tuple #[.agg #[.int .i64 I, .string NM, .int .i64 Z, u'], .bool ok]) ∧ w'.ownsRow W.heap.size 28 2 u' L.length (L.flatMap pairC) ∧ Kept W w') ∧
    (ok = true → hoOk I NM Z L rt = true ∧ hoV I NM Z L rt = rl + z ∧ gaugeB I NM Z L = true ∧ IntKind.i64.wrap (rl + z) = rl + z) := by
  refine ⟨_, _, _, adOk id nm z xs rt rl, adV id nm z xs rt rl, if_size _ hs, fun W u h => addReading_any id nm z u xs rt rl hs W h, fun W u h => sAddReading_any id nm z u xs rt rl hs W h, fun h => ?_⟩
  have hv : adV id nm z xs rt rl = adL xs rt rl := by simp [adV, h]
  obtain ⟨a1, a2, a3⟩ := ad_height h
  simp only [h, if_true, hv]
  refine ⟨a1, a2, a3, ?_⟩
  have hz := (gaugeB_1 a3).2.1
  have hk := at_le xs rt
  obtain ⟨r, hr⟩ : ∃ r, adL xs rt rl = xs.take (atOf xs rt) ++ [(rt, rl)] ++ r := by
    unfold adL
    split
    · exact ⟨_, rfl⟩
    · exact ⟨_, rfl⟩
  have hlen : (xs.take (atOf xs rt)).length = atOf xs rt := by rw [List.length_take]; omega
  obtain ⟨-, m2, -⟩ := mid_at (xs.take (atOf xs rt)) r (rt, rl)
  rw [← hr, hlen] at m2
  have hb := (gaugeB_at a3 (k := atOf xs rt) (by rw [hr]; simp; omega)).2.1
  rw [m2] at hb
  simp only at hb
  exact IntWalk.i64_in _ (by omega)
theorem sz_pack (id : Int) (nm : ByteArray) (z : Int) (xs : List (Int × Int)) (tt : Int) (hs : nm.size ≤ maxLen) : ∃ (I : Int) (NM : ByteArray) (Z : Int) (ok : Bool) (L : List (Int × Int)), NM.size ≤ maxLen ∧
    (∀ (W : World) (u : Value), Lies W 2 pairC u xs → Calls Try.prog 23 #[.agg #[.int .i64 id, .string nm, .int .i64 z, u], .int .i64 tt] W fun e w' => ∃ u', e = .returned (.tuple #[.agg #[.int .i64 I, .string NM, .int .i64 Z, u'], .bool ok]) ∧ w'.ownsRow W.heap.size 28 2 u' L.length (L.flatMap pairC) ∧ Kept W w') ∧ (∀ (W : World) (u : Value), Lies W 2 pairC u xs → Calls Try.prog 24 #[.agg #[.int .i64 id, .string nm, .int .i64 z, u], .int .i64 tt] W fun e w' => ∃ u', e = .returned (.tuple #[.agg #[.int .i64 I, .string NM, .int .i64 Z, u'], .bool ok]) ∧ w'.ownsRow W.heap.size 28 2 u' L.length (L.flatMap pairC) ∧ Kept W w') ∧
    (ok = true → ∀ k, k < xs.length → hoOk id nm z xs (P1 xs k) = true ∧ hoOk I NM Z L (P1 xs k) = true ∧ hoV I NM Z L (P1 xs k) = hoV id nm z xs (P1 xs k)) := by
  refine ⟨_, _, _, szOk id nm z xs tt, szL id nm z xs tt, if_size _ hs, fun W u h => shiftZero_any id nm z u xs tt hs W h, fun W u h => sShiftZero_any id nm z u xs tt hs W h, fun h k hk => ?_⟩
  have hv : szL id nm z xs tt = shiftL xs (z - tt) := by simp [szL, h]
  simp only [h, if_true, hv]
  exact shift_height h hk
/-- Two values lie in block b. -/
def G2 (w : World) (b : Nat) (v0 v1 : Value) : Prop := w.cell? ⟨b, 0, none⟩ = some v0 ∧ w.cell? ⟨b, 1, none⟩ = some v1
theorem G2.kept {w w' : World} {b : Nat} {v0 v1 : Value} (h : G2 w b v0 v1) (k : Kept w w') : G2 w' b v0 v1 := ⟨k.keep h.1, k.keep h.2⟩
set_option maxRecDepth 100000 in
set_option maxHeartbeats 8000000 in
theorem lawFnGauges (v : Value) (w : World) (hc : CodeW w v) : Calls Try.prog 3 #[v] w fun e w' => e = .returned (.bool true) ∧ Kept w w' := by
  have HC := Lib.hid hc
  obtain ⟨CA, len, cap, rfl, -⟩ := hc
  by_cases hbig : (65536 : Int) < (len : Int)
  · have hd : decide ((65536 : Int) < (len : Int)) = true := by simp [hbig]
    go_enter Try.func3, Try.ntmps3
    go_wp2_with (go_at_call 15; (with_reducible refine (rBig_any _ _ _ _).mono ?_); rintro e w' ⟨rfl, rfl⟩)
    go_ret
    exact ⟨rfl, Kept.refl _⟩
  have hd : decide ((65536 : Int) < (len : Int)) = false := by simp [hbig]
  go_enter Try.func3, Try.ntmps3
  go_wp2_with (go_at_call 15; (with_reducible refine (rBig_any _ _ _ _).mono ?_); rintro e w' ⟨rfl, rfl⟩)
  refine (drawAddReading_any _ _ HC.out).mono ?_
  rintro e d1 ⟨i, z, nm, u, xs, rt, rl, rfl, hnm, hxl, hl, k1⟩
  obtain ⟨A, c, rfl, -, -, -⟩ := lies_pairs hl
  have K1 := Lib.hid k1
  have L1 := Lib.hid hl
  clear hl k1
  go_upto_region 4 with fail
  have kb : Kept d1 ((d1.alloc (.cells #[.int .i64 i, .string nm, .int .i64 z, .slice A xs.length c] 26)).alloc (.cells #[.int .i64 rt, .int .i64 rl] 28)) := Kept.alloc (Kept.alloc (Kept.refl _) _) _
  have K := Lib.hid (K1.out.trans kb)
  have LA := Lib.hid (L1.out.kept kb)
  have GA := Lib.hid (show G4 ((d1.alloc (.cells #[.int .i64 i, .string nm, .int .i64 z, .slice A xs.length c] 26)).alloc (.cells #[.int .i64 rt, .int .i64 rl] 28)) d1.heap.size (.int .i64 i) (.string nm) (.int .i64 z) (.slice A xs.length c) from (G4.new d1 _ _ _ _ _).alloc _)
  have RA := Lib.hid (show G2 ((d1.alloc (.cells #[.int .i64 i, .string nm, .int .i64 z, .slice A xs.length c] 26)).alloc (.cells #[.int .i64 rt, .int .i64 rl] 28)) (d1.heap.size + 1) (.int .i64 rt) (.int .i64 rl) by simp [G2, go_sem])
  clear kb K1 L1
  generalize (d1.alloc (.cells #[.int .i64 i, .string nm, .int .i64 z, .slice A xs.length c] 26)).alloc (.cells #[.int .i64 rt, .int .i64 rl] 28) = d2 at *
  obtain ⟨I, NM, Z, ok, L, hNM, hI, hS, hP⟩ := ad_pack i nm z xs rt rl (by unfold maxLen; omega)
  have HI := Lib.hid hI
  have HS := Lib.hid hS
  have HP := Lib.hid hP
  have HNM := Lib.hid hNM
  clear hI hS hP hNM
  have x0 := (GA.out).1
  have x1 := (GA.out).2.1
  have x2 := (GA.out).2.2.1
  have x3 := (GA.out).2.2.2
  have y0 := (RA.out).1
  have y1 := (RA.out).2
  go_wp2_with fail
  refine (HI.out _ _ LA.out).mono ?_
  rintro e d3 ⟨u3, rfl, ho3, k3⟩
  obtain ⟨A3, c3, rfl, -, -, -⟩ := own_form ho3
  have LB := Lib.hid (pairs_own ho3)
  clear x0 x1 x2 x3 y0 y1
  have LA := Lib.hid (LA.out.kept k3)
  have GA := Lib.hid (GA.out.kept k3)
  have RA := Lib.hid (RA.out.kept k3)
  have K := Lib.hid (K.out.trans k3)
  clear k3 ho3
  go_upto_region 5 with fail
  have kb : Kept d3 (d3.alloc (.cells #[.int .i64 I, .string NM, .int .i64 Z, .slice A3 L.length c3] 26)) := Kept.alloc (Kept.refl _) _
  have LA := Lib.hid (LA.out.kept kb)
  have GA := Lib.hid (GA.out.kept kb)
  have RA := Lib.hid (RA.out.kept kb)
  have LB := Lib.hid (LB.out.kept kb)
  have K := Lib.hid (K.out.trans kb)
  have GB := Lib.hid (G4.new d3 (.int .i64 I) (.string NM) (.int .i64 Z) (.slice A3 L.length c3) 26)
  clear kb
  generalize d3.alloc (.cells #[.int .i64 I, .string NM, .int .i64 Z, .slice A3 L.length c3] 26) = d4 at *
  have x0 := (GA.out).1
  have x1 := (GA.out).2.1
  have x2 := (GA.out).2.2.1
  have x3 := (GA.out).2.2.2
  have y0 := (RA.out).1
  have y1 := (RA.out).2
  go_wp2_with fail
  refine (HS.out _ _ LA.out).mono ?_
  rintro e d5 ⟨u5, rfl, ho5, k5⟩
  obtain ⟨A5, c5, rfl, -, -, -⟩ := own_form ho5
  have LD := Lib.hid (pairs_own ho5)
  clear x0 x1 x2 x3 y0 y1
  have LA := Lib.hid (LA.out.kept k5)
  have GA := Lib.hid (GA.out.kept k5)
  have RA := Lib.hid (RA.out.kept k5)
  have LB := Lib.hid (LB.out.kept k5)
  have GB := Lib.hid (GB.out.kept k5)
  have K := Lib.hid (K.out.trans k5)
  clear k5 ho5
  go_upto_region 6 with fail
  have kb : Kept d5 (d5.alloc (.cells #[.int .i64 I, .string NM, .int .i64 Z, .slice A5 L.length c5] 26)) := Kept.alloc (Kept.refl _) _
  have LA := Lib.hid (LA.out.kept kb)
  have GA := Lib.hid (GA.out.kept kb)
  have RA := Lib.hid (RA.out.kept kb)
  have LB := Lib.hid (LB.out.kept kb)
  have GB := Lib.hid (GB.out.kept kb)
  have LD := Lib.hid (LD.out.kept kb)
  have K := Lib.hid (K.out.trans kb)
  have GD := Lib.hid (G4.new d5 (.int .i64 I) (.string NM) (.int .i64 Z) (.slice A5 L.length c5) 26)
  clear kb
  generalize d5.alloc (.cells #[.int .i64 I, .string NM, .int .i64 Z, .slice A5 L.length c5] 26) = d6 at *
  have x0 := (GB.out).1
  have x1 := (GB.out).2.1
  have x2 := (GB.out).2.2.1
  have x3 := (GB.out).2.2.2
  have y0 := (GD.out).1
  have y1 := (GD.out).2.1
  have y2 := (GD.out).2.2.1
  have y3 := (GD.out).2.2.2
  go_wp2_with fail
  refine (rGauge_any _ _ _ _ _ _ _ LB.out LD.out).mono ?_
  rintro e d7 ⟨rfl, k7⟩
  clear x0 x1 x2 x3 y0 y1 y2 y3
  have LA := Lib.hid (LA.out.kept k7)
  have GA := Lib.hid (GA.out.kept k7)
  have RA := Lib.hid (RA.out.kept k7)
  have LB := Lib.hid (LB.out.kept k7)
  have GB := Lib.hid (GB.out.kept k7)
  have LD := Lib.hid (LD.out.kept k7)
  have GD := Lib.hid (GD.out.kept k7)
  have K := Lib.hid (K.out.trans k7)
  clear k7
  clear HI HS LD GD
  go_upto_if 67 with fail
  go_cut [] (fun wx => Kept d7 wx)
  case first =>
    cases hok : ok
    · subst hok
      go_wp2_with fail
      go_meet
      exact Kept.refl _
    · subst hok
      obtain ⟨p1, p2, p3, p4⟩ := HP.out rfl
      have x0 := (GB.out).1
      have x1 := (GB.out).2.1
      have x2 := (GB.out).2.2.1
      have x3 := (GB.out).2.2.2
      have y0 := (RA.out).1
      have y1 := (RA.out).2
      go_wp2_with fail
      refine (heightOf_any _ _ _ _ _ HNM.out rt _ LB.out).mono ?_
      rintro e d8 ⟨rfl, k8⟩
      rw [p1, p2]
      clear x0 x1 x2 x3 y0 y1
      have LA := Lib.hid (LA.out.kept k8)
      have GA := Lib.hid (GA.out.kept k8)
      have RA := Lib.hid (RA.out.kept k8)
      have LB := Lib.hid (LB.out.kept k8)
      have GB := Lib.hid (GB.out.kept k8)
      have K8 := Lib.hid k8
      clear k8
      have x0 := (GB.out).1
      have x1 := (GB.out).2.1
      have x2 := (GB.out).2.2.1
      have x3 := (GB.out).2.2.2
      have y0 := (RA.out).1
      have y1 := (RA.out).2
      have q0 := (GA.out).1
      have q1 := (GA.out).2.1
      have q2 := (GA.out).2.2.1
      have q3 := (GA.out).2.2.2
      go_wp2_with fail
      refine (isGauge_any _ _ _ _ _ HNM.out _ LB.out).mono ?_
      rintro e d9 ⟨rfl, k9⟩
      rw [p3]
      go_wp2_with fail
      go_meet
      exact K8.out.trans k9
  case rest =>
    obtain ⟨e0, he0⟩ : ∃ x, x = wc := ⟨_, rfl⟩
    subst he0
    clear HP HNM LB GB LA GA RA
    have K := Lib.hid (K.out.trans hcut)
    clear hcut
    go_wp2_with fail
    refine (drawShiftZero_any _ _ (HC.out.kept K.out)).mono ?_
    rintro e e1 ⟨i2, z2, nm2, u2, xs2, tt, rfl, hnm2, hxl2, hl2, k1⟩
    obtain ⟨A2, c2, rfl, -, -, -⟩ := lies_pairs hl2
    have LX := Lib.hid hl2
    have K := Lib.hid (K.out.trans k1)
    clear hl2 k1
    go_upto_region 13 with fail
    have kb : Kept e1 (e1.alloc (.cells #[.int .i64 i2, .string nm2, .int .i64 z2, .slice A2 xs2.length c2] 26)) := Kept.alloc (Kept.refl _) _
    have LX := Lib.hid (LX.out.kept kb)
    have K := Lib.hid (K.out.trans kb)
    have GX := Lib.hid (G4.new e1 (.int .i64 i2) (.string nm2) (.int .i64 z2) (.slice A2 xs2.length c2) 26)
    clear kb
    generalize e1.alloc (.cells #[.int .i64 i2, .string nm2, .int .i64 z2, .slice A2 xs2.length c2] 26) = e2 at *
    obtain ⟨I2, NM2, Z2, fine, L2, hNM, hI, hS, hP⟩ := sz_pack i2 nm2 z2 xs2 tt (by unfold maxLen; omega)
    have HI := Lib.hid hI
    have HS := Lib.hid hS
    have HP := Lib.hid hP
    have HNM := Lib.hid hNM
    clear hI hS hP hNM
    have x0 := (GX.out).1
    have x1 := (GX.out).2.1
    have x2 := (GX.out).2.2.1
    have x3 := (GX.out).2.2.2
    go_wp2_with fail
    refine (HI.out _ _ LX.out).mono ?_
    rintro e e3 ⟨u3, rfl, ho3, k3⟩
    obtain ⟨A3, c3, rfl, -, -, -⟩ := own_form ho3
    have LY := Lib.hid (pairs_own ho3)
    clear x0 x1 x2 x3
    have LX := Lib.hid (LX.out.kept k3)
    have GX := Lib.hid (GX.out.kept k3)
    have K := Lib.hid (K.out.trans k3)
    clear k3 ho3
    go_upto_region 14 with fail
    have kb : Kept e3 (e3.alloc (.cells #[.int .i64 I2, .string NM2, .int .i64 Z2, .slice A3 L2.length c3] 26)) := Kept.alloc (Kept.refl _) _
    have LX := Lib.hid (LX.out.kept kb)
    have GX := Lib.hid (GX.out.kept kb)
    have LY := Lib.hid (LY.out.kept kb)
    have K := Lib.hid (K.out.trans kb)
    have GY := Lib.hid (G4.new e3 (.int .i64 I2) (.string NM2) (.int .i64 Z2) (.slice A3 L2.length c3) 26)
    clear kb
    generalize e3.alloc (.cells #[.int .i64 I2, .string NM2, .int .i64 Z2, .slice A3 L2.length c3] 26) = e4 at *
    have x0 := (GX.out).1
    have x1 := (GX.out).2.1
    have x2 := (GX.out).2.2.1
    have x3 := (GX.out).2.2.2
    go_wp2_with fail
    refine (HS.out _ _ LX.out).mono ?_
    rintro e e5 ⟨u5, rfl, ho5, k5⟩
    obtain ⟨A5, c5, rfl, -, -, -⟩ := own_form ho5
    have LD := Lib.hid (pairs_own ho5)
    clear x0 x1 x2 x3
    have LX := Lib.hid (LX.out.kept k5)
    have GX := Lib.hid (GX.out.kept k5)
    have LY := Lib.hid (LY.out.kept k5)
    have GY := Lib.hid (GY.out.kept k5)
    have K := Lib.hid (K.out.trans k5)
    clear k5 ho5
    go_upto_region 15 with fail
    have kb : Kept e5 (e5.alloc (.cells #[.int .i64 I2, .string NM2, .int .i64 Z2, .slice A5 L2.length c5] 26)) := Kept.alloc (Kept.refl _) _
    have LX := Lib.hid (LX.out.kept kb)
    have GX := Lib.hid (GX.out.kept kb)
    have LY := Lib.hid (LY.out.kept kb)
    have GY := Lib.hid (GY.out.kept kb)
    have LD := Lib.hid (LD.out.kept kb)
    have K := Lib.hid (K.out.trans kb)
    have GD := Lib.hid (G4.new e5 (.int .i64 I2) (.string NM2) (.int .i64 Z2) (.slice A5 L2.length c5) 26)
    clear kb
    generalize e5.alloc (.cells #[.int .i64 I2, .string NM2, .int .i64 Z2, .slice A5 L2.length c5] 26) = e6 at *
    have x0 := (GY.out).1
    have x1 := (GY.out).2.1
    have x2 := (GY.out).2.2.1
    have x3 := (GY.out).2.2.2
    have y0 := (GD.out).1
    have y1 := (GD.out).2.1
    have y2 := (GD.out).2.2.1
    have y3 := (GD.out).2.2.2
    go_wp2_with fail
    refine (rGauge_any _ _ _ _ _ _ _ LY.out LD.out).mono ?_
    rintro e e7 ⟨rfl, k7⟩
    clear x0 x1 x2 x3 y0 y1 y2 y3
    have LX := Lib.hid (LX.out.kept k7)
    have GX := Lib.hid (GX.out.kept k7)
    have LY := Lib.hid (LY.out.kept k7)
    have GY := Lib.hid (GY.out.kept k7)
    have LD := Lib.hid (LD.out.kept k7)
    have GD := Lib.hid (GD.out.kept k7)
    have K := Lib.hid (K.out.trans k7)
    clear k7
    clear HI HS LD GD
    go_upto_block 0 with fail
    go_cut [] (fun wx => Kept e7 wx)
    case first =>
      go_wp2_with fail
      go_loopw [17] (fun n wr => ∃ k : Nat, k ≤ xs2.length ∧ n = .int .i64 (k : Int) ∧ Kept e7 wr) (fun n _ => xs2.length - (intOf n).toNat)
      case atStart => exact ⟨0, by omega, rfl, Kept.refl _⟩
      case round =>
        obtain ⟨k, hk, rfl, hkw⟩ := hrel
        have HKW := Lib.hid hkw
        have LX := Lib.hid (LX.out.kept hkw)
        have GX := Lib.hid (GX.out.kept hkw)
        have LY := Lib.hid (LY.out.kept hkw)
        have GY := Lib.hid (GY.out.kept hkw)
        clear hkw
        have x0 := (GX.out).1
        have x1 := (GX.out).2.1
        have x2 := (GX.out).2.2.1
        have x3 := (GX.out).2.2.2
        by_cases hlt : k < xs2.length
        · have k0 : (0 : Int) ≤ (k : Int) := by omega
          have k1 : (k : Int) < (xs2.length : Int) := by omega
          cases hfi : fine
          · subst hfi
            go_wp2_with fail
            go_meet
            exact HKW.out
          · subst hfi
            obtain ⟨p1, p2, p3⟩ := HP.out rfl k hlt
            obtain ⟨A9, c9, e9, -, -, hA9⟩ := lies_pairs LX.out
            injection e9 with e91 e92 e93
            subst e91 e93
            clear e92
            obtain ⟨b, off, rfl, hc⟩ := hA9 (by omega)
            have c0 := (hc k hlt).1
            clear hc hA9
            have HH := Lib.hid (fun (W : World) (h : Lies W 2 pairC (.slice (some ⟨b, off, none⟩) xs2.length c2) xs2) => heightOf_any i2 nm2 z2 _ xs2 (by unfold maxLen; omega) (P1 xs2 k) W h)
            have HH2 := Lib.hid (fun (W : World) (h : Lies W 2 pairC (.slice A3 L2.length c3) L2) => heightOf_any I2 NM2 Z2 _ L2 HNM.out (P1 xs2 k) W h)
            rw [p1] at HH
            rw [p2, p3] at HH2
            clear p1 p2 p3
            generalize hoV i2 nm2 z2 xs2 (P1 xs2 k) = hv at HH HH2
            go_wp2_with fail
            have kf1_0 : ∀ w' : World, Root (wr) w' → w'.cell? ⟨e1.heap.size, 0, none⟩ = some (.int .i64 i2) := fun w' h => h.keep (by first | assumption | exact (Kept.alloc (Kept.refl _) _).keep (by assumption) | (simp [go_sem]; done) | (simp [go_sem, *]; done))
            have kf1_1 : ∀ w' : World, Root (wr) w' → w'.cell? ⟨e1.heap.size, 1, none⟩ = some (.string nm2) := fun w' h => h.keep (by first | assumption | exact (Kept.alloc (Kept.refl _) _).keep (by assumption) | (simp [go_sem]; done) | (simp [go_sem, *]; done))
            have kf1_2 : ∀ w' : World, Root (wr) w' → w'.cell? ⟨e1.heap.size, 2, none⟩ = some (.int .i64 z2) := fun w' h => h.keep (by first | assumption | exact (Kept.alloc (Kept.refl _) _).keep (by assumption) | (simp [go_sem]; done) | (simp [go_sem, *]; done))
            have kf1_3 : ∀ w' : World, Root (wr) w' → w'.cell? ⟨e1.heap.size, 3, none⟩ = some (.slice (some ⟨b, off, none⟩) xs2.length c2) := fun w' h => h.keep (by first | assumption | exact (Kept.alloc (Kept.refl _) _).keep (by assumption) | (simp [go_sem]; done) | (simp [go_sem, *]; done))
            have kf1_4 : ∀ w' : World, Root (wr) w' → w'.cell? ⟨b, off + k * 2, none⟩ = some (.int .i64 (P1 xs2 k)) := fun w' h => h.keep (by first | assumption | exact (Kept.alloc (Kept.refl _) _).keep (by assumption) | (simp [go_sem]; done) | (simp [go_sem, *]; done))
            refine wp_region_held_drew (S := fun w' => Root (wr) w') (by kernel_rfl) (by (try dsimp only); (first | assumption | exact Root.trans (by assumption) hk | exact Root.drew (Root.refl _) | (repeat (first | exact Root.refl _ | assumption | refine Root.alloc ?_ _ | refine Root.drew ?_ | refine Root.setCell ?_ (by first | (simp; done) | (simp; omega) | omega | exact Root.size (by assumption)) _ | refine Root.trans ?_ (by assumption))))) (fun hHeld => ?_)
            refine wpAnyH_take (i := 0) (v := ?_) rfl (by kernel_rfl) (by kernel_rfl) (by kernel_rfl) (fun _ _ _ h => h) (Or.inl ⟨by kernel_rfl, ?_⟩) (by assumption) ?_
            rotate_left
            focus (intro w hSw; (try dsimp only at hSw); go_simp; (try with_reducible rfl))
            (try simp only [Act.put, List.getElem_toArray, List.getElem_cons_zero, List.getElem_cons_succ, List.setIfInBounds_toArray, List.set_cons_zero, List.set_cons_succ])
            refine wpAnyH_take (i := 1) (v := ?_) rfl (by kernel_rfl) (by kernel_rfl) (by kernel_rfl) (fun _ _ _ h => h) (Or.inl ⟨by kernel_rfl, ?_⟩) (by assumption) ?_
            rotate_left
            focus (intro w hSw; (try dsimp only at hSw); go_simp; (try with_reducible rfl))
            (try simp only [Act.put, List.getElem_toArray, List.getElem_cons_zero, List.getElem_cons_succ, List.setIfInBounds_toArray, List.set_cons_zero, List.set_cons_succ])
            refine wpAnyH_take (i := 2) (v := ?_) rfl (by kernel_rfl) (by kernel_rfl) (by kernel_rfl) (fun _ _ _ h => h) (Or.inl ⟨by kernel_rfl, ?_⟩) (by assumption) ?_
            rotate_left
            focus (intro w hSw; (try dsimp only at hSw); go_simp; (try with_reducible rfl))
            (try simp only [Act.put, List.getElem_toArray, List.getElem_cons_zero, List.getElem_cons_succ, List.setIfInBounds_toArray, List.set_cons_zero, List.set_cons_succ])
            refine wpAnyH_take (i := 3) (v := ?_) rfl (by kernel_rfl) (by kernel_rfl) (by kernel_rfl) (fun _ _ _ h => h) (Or.inl ⟨by kernel_rfl, ?_⟩) (by assumption) ?_
            rotate_left
            focus (intro w hSw; (try dsimp only at hSw); go_simp; (try with_reducible rfl))
            (try simp only [Act.put, List.getElem_toArray, List.getElem_cons_zero, List.getElem_cons_succ, List.setIfInBounds_toArray, List.set_cons_zero, List.set_cons_succ])
            refine wpAnyH_take (i := 4) (v := ?_) rfl (by kernel_rfl) (by kernel_rfl) (by kernel_rfl) (fun _ _ _ h => h) (Or.inl ⟨by kernel_rfl, ?_⟩) (by assumption) ?_
            rotate_left
            focus (intro w hSw; (try dsimp only at hSw); go_simp; (try with_reducible rfl))
            (try simp only [Act.put, List.getElem_toArray, List.getElem_cons_zero, List.getElem_cons_succ, List.setIfInBounds_toArray, List.set_cons_zero, List.set_cons_succ])
            refine wpAnyH_take (i := 5) (v := ?_) rfl (by kernel_rfl) (by kernel_rfl) (by kernel_rfl) (fun _ _ _ h => h) (Or.inl ⟨by kernel_rfl, ?_⟩) (by assumption) ?_
            rotate_left
            focus (intro w hSw; (try dsimp only at hSw); go_simp; (try with_reducible rfl))
            (try simp only [Act.put, List.getElem_toArray, List.getElem_cons_zero, List.getElem_cons_succ, List.setIfInBounds_toArray, List.set_cons_zero, List.set_cons_succ])
            refine wpAnyH_take (i := 6) (v := ?_) rfl (by kernel_rfl) (by kernel_rfl) (by kernel_rfl) (fun _ _ _ h => h) (Or.inl ⟨by kernel_rfl, ?_⟩) (by assumption) ?_
            rotate_left
            focus (intro w hSw; (try dsimp only at hSw); go_simp; (try with_reducible rfl))
            (try simp only [Act.put, List.getElem_toArray, List.getElem_cons_zero, List.getElem_cons_succ, List.setIfInBounds_toArray, List.set_cons_zero, List.set_cons_succ])
            refine wpAnyH_ready (rs := [7]) (by kernel_rfl) (by simp) ?_
            refine AllReadyH.cons rfl (fun K hK => ?_) AllReadyH.nil
            go_simp
            (go_at_call 20; (with_reducible refine (HH.out wr.drew (LX.out.kept (Kept.drew (Kept.refl wr)))).mono ?_); rintro e w1 ⟨rfl, hk⟩; (have hkr := Root.trans (by assumption) hk); (first | (have hkf := From.step (by assumption) hk; obtain ⟨hc, hf⟩ := hkf.cells) | (have hkf := From.start hk; obtain ⟨hc, hf⟩ := hkf.cells)))
            (try go_wp2_with fail)
            refine hK.out _ _ (by (try dsimp only); (first | assumption | exact Root.trans (by assumption) hk | exact Root.drew (Root.refl _) | (repeat (first | exact Root.refl _ | assumption | refine Root.alloc ?_ _ | refine Root.drew ?_ | refine Root.setCell ?_ (by first | (simp; done) | (simp; omega) | omega | exact Root.size (by assumption)) _ | refine Root.trans ?_ (by assumption))))) (fun hHeld => ?_)
            clear hK K
            (try simp only [Act.put, List.getElem_toArray, List.getElem_cons_zero, List.getElem_cons_succ, List.setIfInBounds_toArray, List.set_cons_zero, List.set_cons_succ])
            refine wpAnyH_take (i := 8) (v := ?_) rfl (by kernel_rfl) (by kernel_rfl) (by kernel_rfl) (fun _ _ _ h => h) (Or.inl ⟨by kernel_rfl, ?_⟩) (by assumption) ?_
            rotate_left
            focus (intro w hSw; (try dsimp only at hSw); go_simp; (try with_reducible rfl))
            (try simp only [Act.put, List.getElem_toArray, List.getElem_cons_zero, List.getElem_cons_succ, List.setIfInBounds_toArray, List.set_cons_zero, List.set_cons_succ])
            refine wpAnyH_take (i := 9) (v := ?_) rfl (by kernel_rfl) (by kernel_rfl) (by kernel_rfl) (fun _ _ _ h => h) (Or.inl ⟨by kernel_rfl, ?_⟩) (by assumption) ?_
            rotate_left
            focus (intro w hSw; (try dsimp only at hSw); go_simp; (try with_reducible rfl))
            (try simp only [Act.put, List.getElem_toArray, List.getElem_cons_zero, List.getElem_cons_succ, List.setIfInBounds_toArray, List.set_cons_zero, List.set_cons_succ])
            refine wpAnyH_take (i := 10) (v := ?_) rfl (by kernel_rfl) (by kernel_rfl) (by kernel_rfl) (fun _ _ _ h => h) (Or.inl ⟨by kernel_rfl, ?_⟩) (by assumption) ?_
            rotate_left
            focus (intro w hSw; (try dsimp only at hSw); go_simp; (try with_reducible rfl))
            (try simp only [Act.put, List.getElem_toArray, List.getElem_cons_zero, List.getElem_cons_succ, List.setIfInBounds_toArray, List.set_cons_zero, List.set_cons_succ])
            refine wpAnyH_take (i := 11) (v := ?_) rfl (by kernel_rfl) (by kernel_rfl) (by kernel_rfl) (fun _ _ _ h => h) (Or.inl ⟨by kernel_rfl, ?_⟩) (by assumption) ?_
            rotate_left
            focus (intro w hSw; (try dsimp only at hSw); go_simp; (try with_reducible rfl))
            (try simp only [Act.put, List.getElem_toArray, List.getElem_cons_zero, List.getElem_cons_succ, List.setIfInBounds_toArray, List.set_cons_zero, List.set_cons_succ])
            refine wpAnyH_take (i := 12) (v := ?_) rfl (by kernel_rfl) (by kernel_rfl) (by kernel_rfl) (fun _ _ _ h => h) (Or.inl ⟨by kernel_rfl, ?_⟩) (by assumption) ?_
            rotate_left
            focus (intro w hSw; (try dsimp only at hSw); go_simp; (try with_reducible rfl))
            (try simp only [Act.put, List.getElem_toArray, List.getElem_cons_zero, List.getElem_cons_succ, List.setIfInBounds_toArray, List.set_cons_zero, List.set_cons_succ])
            refine wpAnyH_done (by kernel_rfl) ?_ _
            have HK20 := Lib.hid hkr.kept
            have LX := Lib.hid (LX.out.kept HK20.out)
            have GX := Lib.hid (GX.out.kept HK20.out)
            have LY := Lib.hid (LY.out.kept HK20.out)
            have GY := Lib.hid (GY.out.kept HK20.out)
            have c0 := HK20.out.keep c0
            clear hk hkr hc hf hkf x0 x1 x2 x3
            have x0 := (GX.out).1
            have x1 := (GX.out).2.1
            have x2 := (GX.out).2.2.1
            have x3 := (GX.out).2.2.2
            have y0 := (GY.out).1
            have y1 := (GY.out).2.1
            have y2 := (GY.out).2.2.1
            have y3 := (GY.out).2.2.2
            go_wp2_with fail
            have kf2_0 : ∀ w' : World, Root (w1) w' → w'.cell? ⟨e3.heap.size, 0, none⟩ = some (.int .i64 I2) := fun w' h => h.keep (by first | assumption | exact (Kept.alloc (Kept.refl _) _).keep (by assumption) | (simp [go_sem]; done) | (simp [go_sem, *]; done))
            have kf2_1 : ∀ w' : World, Root (w1) w' → w'.cell? ⟨e3.heap.size, 1, none⟩ = some (.string NM2) := fun w' h => h.keep (by first | assumption | exact (Kept.alloc (Kept.refl _) _).keep (by assumption) | (simp [go_sem]; done) | (simp [go_sem, *]; done))
            have kf2_2 : ∀ w' : World, Root (w1) w' → w'.cell? ⟨e3.heap.size, 2, none⟩ = some (.int .i64 Z2) := fun w' h => h.keep (by first | assumption | exact (Kept.alloc (Kept.refl _) _).keep (by assumption) | (simp [go_sem]; done) | (simp [go_sem, *]; done))
            have kf2_3 : ∀ w' : World, Root (w1) w' → w'.cell? ⟨e3.heap.size, 3, none⟩ = some (.slice A3 L2.length c3) := fun w' h => h.keep (by first | assumption | exact (Kept.alloc (Kept.refl _) _).keep (by assumption) | (simp [go_sem]; done) | (simp [go_sem, *]; done))
            have kf2_4 : ∀ w' : World, Root (w1) w' → w'.cell? ⟨e1.heap.size, 3, none⟩ = some (.slice (some ⟨b, off, none⟩) xs2.length c2) := fun w' h => h.keep (by first | assumption | exact (Kept.alloc (Kept.refl _) _).keep (by assumption) | (simp [go_sem]; done) | (simp [go_sem, *]; done))
            have kf2_5 : ∀ w' : World, Root (w1) w' → w'.cell? ⟨b, off + k * 2, none⟩ = some (.int .i64 (P1 xs2 k)) := fun w' h => h.keep (by first | assumption | exact (Kept.alloc (Kept.refl _) _).keep (by assumption) | (simp [go_sem]; done) | (simp [go_sem, *]; done))
            refine wp_region_held_drew (S := fun w' => Root (w1) w') (by kernel_rfl) (by (try dsimp only); (first | assumption | exact Root.trans (by assumption) hk | exact Root.drew (Root.refl _) | (repeat (first | exact Root.refl _ | assumption | refine Root.alloc ?_ _ | refine Root.drew ?_ | refine Root.setCell ?_ (by first | (simp; done) | (simp; omega) | omega | exact Root.size (by assumption)) _ | refine Root.trans ?_ (by assumption))))) (fun hHeld => ?_)
            refine wpAnyH_take (i := 0) (v := ?_) rfl (by kernel_rfl) (by kernel_rfl) (by kernel_rfl) (fun _ _ _ h => h) (Or.inl ⟨by kernel_rfl, ?_⟩) (by assumption) ?_
            rotate_left
            focus (intro w hSw; (try dsimp only at hSw); go_simp; (try with_reducible rfl))
            (try simp only [Act.put, List.getElem_toArray, List.getElem_cons_zero, List.getElem_cons_succ, List.setIfInBounds_toArray, List.set_cons_zero, List.set_cons_succ])
            refine wpAnyH_take (i := 1) (v := ?_) rfl (by kernel_rfl) (by kernel_rfl) (by kernel_rfl) (fun _ _ _ h => h) (Or.inl ⟨by kernel_rfl, ?_⟩) (by assumption) ?_
            rotate_left
            focus (intro w hSw; (try dsimp only at hSw); go_simp; (try with_reducible rfl))
            (try simp only [Act.put, List.getElem_toArray, List.getElem_cons_zero, List.getElem_cons_succ, List.setIfInBounds_toArray, List.set_cons_zero, List.set_cons_succ])
            refine wpAnyH_take (i := 2) (v := ?_) rfl (by kernel_rfl) (by kernel_rfl) (by kernel_rfl) (fun _ _ _ h => h) (Or.inl ⟨by kernel_rfl, ?_⟩) (by assumption) ?_
            rotate_left
            focus (intro w hSw; (try dsimp only at hSw); go_simp; (try with_reducible rfl))
            (try simp only [Act.put, List.getElem_toArray, List.getElem_cons_zero, List.getElem_cons_succ, List.setIfInBounds_toArray, List.set_cons_zero, List.set_cons_succ])
            refine wpAnyH_take (i := 3) (v := ?_) rfl (by kernel_rfl) (by kernel_rfl) (by kernel_rfl) (fun _ _ _ h => h) (Or.inl ⟨by kernel_rfl, ?_⟩) (by assumption) ?_
            rotate_left
            focus (intro w hSw; (try dsimp only at hSw); go_simp; (try with_reducible rfl))
            (try simp only [Act.put, List.getElem_toArray, List.getElem_cons_zero, List.getElem_cons_succ, List.setIfInBounds_toArray, List.set_cons_zero, List.set_cons_succ])
            refine wpAnyH_take (i := 4) (v := ?_) rfl (by kernel_rfl) (by kernel_rfl) (by kernel_rfl) (fun _ _ _ h => h) (Or.inl ⟨by kernel_rfl, ?_⟩) (by assumption) ?_
            rotate_left
            focus (intro w hSw; (try dsimp only at hSw); go_simp; (try with_reducible rfl))
            (try simp only [Act.put, List.getElem_toArray, List.getElem_cons_zero, List.getElem_cons_succ, List.setIfInBounds_toArray, List.set_cons_zero, List.set_cons_succ])
            refine wpAnyH_take (i := 5) (v := ?_) rfl (by kernel_rfl) (by kernel_rfl) (by kernel_rfl) (fun _ _ _ h => h) (Or.inl ⟨by kernel_rfl, ?_⟩) (by assumption) ?_
            rotate_left
            focus (intro w hSw; (try dsimp only at hSw); go_simp; (try with_reducible rfl))
            (try simp only [Act.put, List.getElem_toArray, List.getElem_cons_zero, List.getElem_cons_succ, List.setIfInBounds_toArray, List.set_cons_zero, List.set_cons_succ])
            refine wpAnyH_take (i := 6) (v := ?_) rfl (by kernel_rfl) (by kernel_rfl) (by kernel_rfl) (fun _ _ _ h => h) (Or.inl ⟨by kernel_rfl, ?_⟩) (by assumption) ?_
            rotate_left
            focus (intro w hSw; (try dsimp only at hSw); go_simp; (try with_reducible rfl))
            (try simp only [Act.put, List.getElem_toArray, List.getElem_cons_zero, List.getElem_cons_succ, List.setIfInBounds_toArray, List.set_cons_zero, List.set_cons_succ])
            refine wpAnyH_ready (rs := [7]) (by kernel_rfl) (by simp) ?_
            refine AllReadyH.cons rfl (fun K hK => ?_) AllReadyH.nil
            go_simp
            (go_at_call 20; (with_reducible refine (HH2.out w1.drew (LY.out.kept (Kept.drew (Kept.refl w1)))).mono ?_); rintro e w1 ⟨rfl, hk⟩; (have hkr := Root.trans (by assumption) hk); (first | (have hkf := From.step (by assumption) hk; obtain ⟨hc, hf⟩ := hkf.cells) | (have hkf := From.start hk; obtain ⟨hc, hf⟩ := hkf.cells)))
            (try go_wp2_with fail)
            refine hK.out _ _ (by (try dsimp only); (first | assumption | exact Root.trans (by assumption) hk | exact Root.drew (Root.refl _) | (repeat (first | exact Root.refl _ | assumption | refine Root.alloc ?_ _ | refine Root.drew ?_ | refine Root.setCell ?_ (by first | (simp; done) | (simp; omega) | omega | exact Root.size (by assumption)) _ | refine Root.trans ?_ (by assumption))))) (fun hHeld => ?_)
            clear hK K
            (try simp only [Act.put, List.getElem_toArray, List.getElem_cons_zero, List.getElem_cons_succ, List.setIfInBounds_toArray, List.set_cons_zero, List.set_cons_succ])
            refine wpAnyH_take (i := 8) (v := ?_) rfl (by kernel_rfl) (by kernel_rfl) (by kernel_rfl) (fun _ _ _ h => h) (Or.inl ⟨by kernel_rfl, ?_⟩) (by assumption) ?_
            rotate_left
            focus (intro w hSw; (try dsimp only at hSw); go_simp; (try with_reducible rfl))
            (try simp only [Act.put, List.getElem_toArray, List.getElem_cons_zero, List.getElem_cons_succ, List.setIfInBounds_toArray, List.set_cons_zero, List.set_cons_succ])
            refine wpAnyH_take (i := 9) (v := ?_) rfl (by kernel_rfl) (by kernel_rfl) (by kernel_rfl) (fun _ _ _ h => h) (Or.inl ⟨by kernel_rfl, ?_⟩) (by assumption) ?_
            rotate_left
            focus (intro w hSw; (try dsimp only at hSw); go_simp; (try with_reducible rfl))
            (try simp only [Act.put, List.getElem_toArray, List.getElem_cons_zero, List.getElem_cons_succ, List.setIfInBounds_toArray, List.set_cons_zero, List.set_cons_succ])
            refine wpAnyH_take (i := 10) (v := ?_) rfl (by kernel_rfl) (by kernel_rfl) (by kernel_rfl) (fun _ _ _ h => h) (Or.inl ⟨by kernel_rfl, ?_⟩) (by assumption) ?_
            rotate_left
            focus (intro w hSw; (try dsimp only at hSw); go_simp; (try with_reducible rfl))
            (try simp only [Act.put, List.getElem_toArray, List.getElem_cons_zero, List.getElem_cons_succ, List.setIfInBounds_toArray, List.set_cons_zero, List.set_cons_succ])
            refine wpAnyH_take (i := 11) (v := ?_) rfl (by kernel_rfl) (by kernel_rfl) (by kernel_rfl) (fun _ _ _ h => h) (Or.inl ⟨by kernel_rfl, ?_⟩) (by assumption) ?_
            rotate_left
            focus (intro w hSw; (try dsimp only at hSw); go_simp; (try with_reducible rfl))
            (try simp only [Act.put, List.getElem_toArray, List.getElem_cons_zero, List.getElem_cons_succ, List.setIfInBounds_toArray, List.set_cons_zero, List.set_cons_succ])
            refine wpAnyH_take (i := 12) (v := ?_) rfl (by kernel_rfl) (by kernel_rfl) (by kernel_rfl) (fun _ _ _ h => h) (Or.inl ⟨by kernel_rfl, ?_⟩) (by assumption) ?_
            rotate_left
            focus (intro w hSw; (try dsimp only at hSw); go_simp; (try with_reducible rfl))
            (try simp only [Act.put, List.getElem_toArray, List.getElem_cons_zero, List.getElem_cons_succ, List.setIfInBounds_toArray, List.set_cons_zero, List.set_cons_succ])
            refine wpAnyH_done (by kernel_rfl) ?_ _
            have HK21 := Lib.hid hkr.kept
            clear hk hkr hc hf hkf x0 x1 x2 x3 y0 y1 y2 y3
            go_wp2_with fail
            go_roundw
            case rel => exact ⟨k + 1, by omega, by go_num, (HKW.out.trans HK20.out).trans HK21.out⟩
            case measure => simp [intOf]; omega
        · have e : k = xs2.length := by omega
          subst e
          go_wp2_with fail
          go_meet
          exact HKW.out
    case rest =>
      obtain ⟨f0, hf0⟩ : ∃ x, x = wc := ⟨_, rfl⟩
      subst hf0
      clear HP HNM LX LY GX GY
      have K := Lib.hid (K.out.trans hcut)
      clear hcut
      go_wp2_with fail
      refine (drawGapsOf_any _ _ (HC.out.kept K.out)).mono ?_
      rintro e f1 ⟨i3, z3, nm3, u3, xs3, m3, rfl, hnm3, hxl3, hl3, k1⟩
      obtain ⟨A3, c3, rfl, -, -, -⟩ := lies_pairs hl3
      have LX := Lib.hid hl3
      have K := Lib.hid (K.out.trans k1)
      clear hl3 k1
      go_upto_region 25 with fail
      have kb : Kept f1 (f1.alloc (.cells #[.int .i64 i3, .string nm3, .int .i64 z3, .slice A3 xs3.length c3] 26)) := Kept.alloc (Kept.refl _) _
      have LX := Lib.hid (LX.out.kept kb)
      have K := Lib.hid (K.out.trans kb)
      have GX := Lib.hid (G4.new f1 (.int .i64 i3) (.string nm3) (.int .i64 z3) (.slice A3 xs3.length c3) 26)
      clear kb
      generalize f1.alloc (.cells #[.int .i64 i3, .string nm3, .int .i64 z3, .slice A3 xs3.length c3] 26) = f2 at *
      have hG := fun (k : Nat) (hk : k < (gpVal i3 nm3 z3 xs3 m3).length) => gap_height hk
      have HG := Lib.hid hG
      clear hG
      have HI := Lib.hid (fun (W : World) (h : Lies W 2 pairC (.slice A3 xs3.length c3) xs3) => gapsOf_any i3 nm3 z3 _ xs3 m3 (by unfold maxLen; omega) W h)
      have HS := Lib.hid (fun (W : World) (h : Lies W 2 pairC (.slice A3 xs3.length c3) xs3) => sGapsOf_any i3 nm3 z3 _ xs3 m3 (by unfold maxLen; omega) W h)
      generalize gpVal i3 nm3 z3 xs3 m3 = L3 at HG HI HS
      generalize gpOk i3 nm3 z3 xs3 m3 = told at HI HS
      have x0 := (GX.out).1
      have x1 := (GX.out).2.1
      have x2 := (GX.out).2.2.1
      have x3 := (GX.out).2.2.2
      go_wp2_with fail
      refine (HI.out _ LX.out).mono ?_
      rintro e f3 ⟨u4, rfl, ⟨bs, hbs⟩, k3⟩
      obtain ⟨A4, c4, hu4, hcl4, hcm4, -⟩ := own_form hbs.out
      rw [prs_len] at hu4 hcl4
      unfold maxLen at hcm4
      subst hu4
      have PX := Lib.hid hbs
      clear x0 x1 x2 x3
      have LX := Lib.hid (LX.out.kept k3)
      have GX := Lib.hid (GX.out.kept k3)
      have K := Lib.hid (K.out.trans k3)
      clear k3 hbs
      have x0 := (GX.out).1
      have x1 := (GX.out).2.1
      have x2 := (GX.out).2.2.1
      have x3 := (GX.out).2.2.2
      go_wp2_with fail
      refine (HS.out _ LX.out).mono ?_
      rintro e f4 ⟨u5, rfl, ⟨bs5, hbs5⟩, k4⟩
      obtain ⟨A5, c5, hu5, -, -, -⟩ := own_form hbs5.out
      rw [prs_len] at hu5
      subst hu5
      have PY := Lib.hid hbs5
      clear x0 x1 x2 x3
      have LX := Lib.hid (LX.out.kept k4)
      have GX := Lib.hid (GX.out.kept k4)
      have PX := Lib.hid (PX.out.kept k4)
      have K := Lib.hid (K.out.trans k4)
      clear k4 hbs5
      go_wp2_with fail
      refine (rTable_any _ _ _ _ _ _ _ _ _ _ _ _ PX.out PY.out).mono ?_
      rintro e f5 ⟨rfl, k5⟩
      have LX := Lib.hid (LX.out.kept k5)
      have GX := Lib.hid (GX.out.kept k5)
      have PX := Lib.hid (PX.out.kept k5)
      have PY := Lib.hid (PY.out.kept k5)
      have K := Lib.hid (K.out.trans k5)
      clear k5 HI HS PY
      go_upto_block 2 with fail
      go_cut [] (fun wx => Kept f5 wx)
      case first =>
        go_wp2_with fail
        go_loopw [28] (fun n wr => ∃ k : Nat, k ≤ L3.length ∧ n = .int .i64 (k : Int) ∧ Kept f5 wr) (fun n _ => L3.length - (intOf n).toNat)
        case atStart => exact ⟨0, by omega, rfl, Kept.refl _⟩
        case round =>
          obtain ⟨k, hk, rfl, hkw⟩ := hrel
          have HKW := Lib.hid hkw
          have LX := Lib.hid (LX.out.kept hkw)
          have GX := Lib.hid (GX.out.kept hkw)
          have PX := Lib.hid (PX.out.kept hkw)
          clear hkw
          have x0 := (GX.out).1
          have x1 := (GX.out).2.1
          have x2 := (GX.out).2.2.1
          have x3 := (GX.out).2.2.2
          by_cases hlt : k < L3.length
          · have k0 : (0 : Int) ≤ (k : Int) := by omega
            have k1 : (k : Int) < (L3.length : Int) := by omega
            obtain ⟨va, vb, hab, p1, p2, p3, p4, p5⟩ := HG.out k hlt
            have HL := PX.out.len.trans (prs_len L3)
            obtain ⟨bl, hbl⟩ : ∃ b, bs[k]? = some b := ⟨bs[k]'(by rw [HL]; exact hlt), List.getElem?_eq_getElem _⟩
            obtain ⟨g, rfl, d0⟩ := PX.out.cell hbl
            have hat := PX.out.at hbl (p := (.int .i64 va, .int .i64 vb)) (by simp [prs, hab])
            have d1 : wr.cell? ⟨bl, 0, none⟩ = some (.int .i64 va) := hat.cellAt 0 (by decide)
            have d2 : wr.cell? ⟨bl, 1, none⟩ = some (.int .i64 vb) := hat.cellAt 1 (by decide)
            unfold rowV at d0
            clear hat hab hbl HL
            go_wp2_with fail
            have kf3_0 : ∀ w' : World, Root (wr) w' → w'.cell? ⟨f1.heap.size, 0, none⟩ = some (.int .i64 i3) := fun w' h => h.keep (by first | assumption | exact (Kept.alloc (Kept.refl _) _).keep (by assumption) | (simp [go_sem]; done) | (simp [go_sem, *]; done))
            have kf3_1 : ∀ w' : World, Root (wr) w' → w'.cell? ⟨f1.heap.size, 1, none⟩ = some (.string nm3) := fun w' h => h.keep (by first | assumption | exact (Kept.alloc (Kept.refl _) _).keep (by assumption) | (simp [go_sem]; done) | (simp [go_sem, *]; done))
            have kf3_2 : ∀ w' : World, Root (wr) w' → w'.cell? ⟨f1.heap.size, 2, none⟩ = some (.int .i64 z3) := fun w' h => h.keep (by first | assumption | exact (Kept.alloc (Kept.refl _) _).keep (by assumption) | (simp [go_sem]; done) | (simp [go_sem, *]; done))
            have kf3_3 : ∀ w' : World, Root (wr) w' → w'.cell? ⟨f1.heap.size, 3, none⟩ = some (.slice A3 xs3.length c3) := fun w' h => h.keep (by first | assumption | exact (Kept.alloc (Kept.refl _) _).keep (by assumption) | (simp [go_sem]; done) | (simp [go_sem, *]; done))
            have kf3_4 : ∀ w' : World, Root (wr) w' → w'.cell? ⟨g, k, none⟩ = some (.slice (some ⟨bl, 0, none⟩) 2 2) := fun w' h => h.keep (by first | assumption | exact (Kept.alloc (Kept.refl _) _).keep (by assumption) | (simp [go_sem]; done) | (simp [go_sem, *]; done))
            have kf3_5 : ∀ w' : World, Root (wr) w' → w'.cell? ⟨bl, 0, none⟩ = some (.int .i64 va) := fun w' h => h.keep (by first | assumption | exact (Kept.alloc (Kept.refl _) _).keep (by assumption) | (simp [go_sem]; done) | (simp [go_sem, *]; done))
            go_region_held3 (fun w' => Root (wr) w')
              (first | assumption | exact Root.trans (by assumption) hk | exact Root.drew (Root.refl _) | (repeat (first | exact Root.refl _ | assumption | refine Root.alloc ?_ _ | refine Root.drew ?_ | refine Root.setCell ?_ (by first | (simp; done) | (simp; omega) | omega | exact Root.size (by assumption)) _ | refine Root.trans ?_ (by assumption))))
              (first | (go_at_call 20; refine (heightOf_any _ _ _ _ _ (by unfold maxLen; omega) _ _ (by exact LX.out.kept (by (repeat (first | exact Kept.refl _ | assumption | refine Kept.alloc ?_ _ | refine Kept.drew ?_ | refine Kept.drewN ?_ _ | refine Kept.setCell ?_ (by first | (simp; done) | (simp; omega) | omega | exact Kept.size (by (repeat (first | exact Kept.refl _ | assumption | refine Kept.alloc ?_ _ | refine Kept.drew ?_ | refine Kept.drewN ?_ _ | refine Kept.trans ?_ (by assumption))))) _ | refine Kept.trans ?_ (by assumption)))))).mono ?_; rintro e w1 ⟨rfl, hk⟩; (have hkr := Root.trans (by assumption) hk); (first | (have hkf := From.step (by assumption) hk; obtain ⟨hc, hf⟩ := hkf.cells) | (have hkf := From.start hk; obtain ⟨hc, hf⟩ := hkf.cells))))
            have HK20 := Lib.hid hkr.kept
            have LX := Lib.hid (LX.out.kept HK20.out)
            have GX := Lib.hid (GX.out.kept HK20.out)
            have PX := Lib.hid (PX.out.kept HK20.out)
            have d0 := HK20.out.keep d0
            have d1 := HK20.out.keep d1
            have d2 := HK20.out.keep d2
            clear hk hkr hc hf hkf x0 x1 x2 x3
            have x0 := (GX.out).1
            have x1 := (GX.out).2.1
            have x2 := (GX.out).2.2.1
            have x3 := (GX.out).2.2.2
            go_wp2_with fail
            have kf4_0 : ∀ w' : World, Root (w1) w' → w'.cell? ⟨f1.heap.size, 0, none⟩ = some (.int .i64 i3) := fun w' h => h.keep (by first | assumption | exact (Kept.alloc (Kept.refl _) _).keep (by assumption) | (simp [go_sem]; done) | (simp [go_sem, *]; done))
            have kf4_1 : ∀ w' : World, Root (w1) w' → w'.cell? ⟨f1.heap.size, 1, none⟩ = some (.string nm3) := fun w' h => h.keep (by first | assumption | exact (Kept.alloc (Kept.refl _) _).keep (by assumption) | (simp [go_sem]; done) | (simp [go_sem, *]; done))
            have kf4_2 : ∀ w' : World, Root (w1) w' → w'.cell? ⟨f1.heap.size, 2, none⟩ = some (.int .i64 z3) := fun w' h => h.keep (by first | assumption | exact (Kept.alloc (Kept.refl _) _).keep (by assumption) | (simp [go_sem]; done) | (simp [go_sem, *]; done))
            have kf4_3 : ∀ w' : World, Root (w1) w' → w'.cell? ⟨f1.heap.size, 3, none⟩ = some (.slice A3 xs3.length c3) := fun w' h => h.keep (by first | assumption | exact (Kept.alloc (Kept.refl _) _).keep (by assumption) | (simp [go_sem]; done) | (simp [go_sem, *]; done))
            have kf4_4 : ∀ w' : World, Root (w1) w' → w'.cell? ⟨g, k, none⟩ = some (.slice (some ⟨bl, 0, none⟩) 2 2) := fun w' h => h.keep (by first | assumption | exact (Kept.alloc (Kept.refl _) _).keep (by assumption) | (simp [go_sem]; done) | (simp [go_sem, *]; done))
            have kf4_5 : ∀ w' : World, Root (w1) w' → w'.cell? ⟨bl, 1, none⟩ = some (.int .i64 vb) := fun w' h => h.keep (by first | assumption | exact (Kept.alloc (Kept.refl _) _).keep (by assumption) | (simp [go_sem]; done) | (simp [go_sem, *]; done))
            go_region_held3 (fun w' => Root (w1) w')
              (first | assumption | exact Root.trans (by assumption) hk | exact Root.drew (Root.refl _) | (repeat (first | exact Root.refl _ | assumption | refine Root.alloc ?_ _ | refine Root.drew ?_ | refine Root.setCell ?_ (by first | (simp; done) | (simp; omega) | omega | exact Root.size (by assumption)) _ | refine Root.trans ?_ (by assumption))))
              (first | (go_at_call 20; refine (heightOf_any _ _ _ _ _ (by unfold maxLen; omega) _ _ (by exact LX.out.kept (by (repeat (first | exact Kept.refl _ | assumption | refine Kept.alloc ?_ _ | refine Kept.drew ?_ | refine Kept.drewN ?_ _ | refine Kept.setCell ?_ (by first | (simp; done) | (simp; omega) | omega | exact Kept.size (by (repeat (first | exact Kept.refl _ | assumption | refine Kept.alloc ?_ _ | refine Kept.drew ?_ | refine Kept.drewN ?_ _ | refine Kept.trans ?_ (by assumption))))) _ | refine Kept.trans ?_ (by assumption)))))).mono ?_; rintro e w1 ⟨rfl, hk⟩; (have hkr := Root.trans (by assumption) hk); (first | (have hkf := From.step (by assumption) hk; obtain ⟨hc, hf⟩ := hkf.cells) | (have hkf := From.start hk; obtain ⟨hc, hf⟩ := hkf.cells))))
            have HK21 := Lib.hid hkr.kept
            have d0 := HK21.out.keep d0
            have d1 := HK21.out.keep d1
            have d2 := HK21.out.keep d2
            clear hk hkr hc hf hkf x0 x1 x2 x3
            have hw9 : IntKind.i64.wrap (vb - va) = vb - va := IntWalk.i64_in _ (by omega)
            have hq9 : decide (vb - va ≤ m3) = false := decide_eq_false (by omega)
            have hq8 : ¬ (vb - va ≤ m3) := by omega
            go_wp2_with fail
            go_quiet (fail)
            go_wp2_with fail
            go_roundw
            case rel => exact ⟨k + 1, by omega, by go_num, by have h20 := HK20.out; have h21 := HK21.out; have h22 := HKW.out; exact ((h22.trans h20).trans h21).drewN _⟩
            case measure => simp [intOf]; omega
          · have e : k = L3.length := by omega
            subst e
            go_wp2_with fail
            go_meet
            exact HKW.out
      case rest =>
        obtain ⟨h0, hh0⟩ : ∃ x, x = wc := ⟨_, rfl⟩
        subst hh0
        clear HG LX PX GX
        have K := Lib.hid (K.out.trans hcut)
        clear hcut
        go_wp2_with fail
        refine (drawHeightOf_any _ _ (HC.out.kept K.out)).mono ?_
        rintro e h1 ⟨i4, z4, nm4, u4, xs4, tm, rfl, hnm4, hxl4, hl4, k1⟩
        obtain ⟨A4, c4, rfl, -, -, -⟩ := lies_pairs hl4
        have LX := Lib.hid hl4
        have K := Lib.hid (K.out.trans k1)
        clear hl4 k1
        go_upto_region 37 with fail
        have kb : Kept h1 (h1.alloc (.cells #[.int .i64 i4, .string nm4, .int .i64 z4, .slice A4 xs4.length c4] 26)) := Kept.alloc (Kept.refl _) _
        have LX := Lib.hid (LX.out.kept kb)
        have K := Lib.hid (K.out.trans kb)
        have GX := Lib.hid (G4.new h1 (.int .i64 i4) (.string nm4) (.int .i64 z4) (.slice A4 xs4.length c4) 26)
        clear kb
        generalize h1.alloc (.cells #[.int .i64 i4, .string nm4, .int .i64 z4, .slice A4 xs4.length c4] 26) = h2 at *
        have HI := Lib.hid (fun (W : World) (h : Lies W 2 pairC (.slice A4 xs4.length c4) xs4) => heightOf_any i4 nm4 z4 _ xs4 (by unfold maxLen; omega) tm W h)
        have HS := Lib.hid (fun (W : World) (h : Lies W 2 pairC (.slice A4 xs4.length c4) xs4) => sHeightOf_any i4 nm4 z4 _ xs4 (by unfold maxLen; omega) tm W h)
        generalize hoV i4 nm4 z4 xs4 tm = hv at HI HS
        generalize hoOk i4 nm4 z4 xs4 tm = ho at HI HS
        have x0 := (GX.out).1
        have x1 := (GX.out).2.1
        have x2 := (GX.out).2.2.1
        have x3 := (GX.out).2.2.2
        go_wp2_with fail
        refine (HI.out _ LX.out).mono ?_
        rintro e h3 ⟨rfl, k3⟩
        clear x0 x1 x2 x3
        have LX := Lib.hid (LX.out.kept k3)
        have GX := Lib.hid (GX.out.kept k3)
        have K := Lib.hid (K.out.trans k3)
        clear k3
        have x0 := (GX.out).1
        have x1 := (GX.out).2.1
        have x2 := (GX.out).2.2.1
        have x3 := (GX.out).2.2.2
        go_wp2_with fail
        refine (HS.out _ LX.out).mono ?_
        rintro e h4 ⟨rfl, k4⟩
        clear x0 x1 x2 x3
        have K := Lib.hid (K.out.trans k4)
        clear k4
        go_wp2_with fail
        go_ret
        exact ⟨rfl, K.out⟩
end Go.Proofs.Ytopdnhlolfehcaa
