/-
  FnHighWaters' walk: the highest level, the first minute, the count of minutes and the gaps agree and keep their promises.
  Conditions: none.
-/
import Derived.Test.YtlkbneklmcefcaaDrawT2
import Derived.Test.YtlkbneklmcefcaaHwM
namespace Go.Proofs.Ytlkbneklmcefcaa
open Go.ChangeShapes Go.WideShapes Go.ChangeAt Go.RowKit
set_option linter.unusedVariables false
set_option linter.unusedSimpArgs false

theorem mulb {a b : Int} (h1 : -40000000 ≤ a) (h2 : a ≤ 40000000) (h3 : 1 ≤ b) (h4 : b ≤ 60) : -2400000000 ≤ a * b ∧ a * b ≤ 2400000000 := by
  have s1 := Int.mul_le_mul_of_nonneg_right h1 (show 0 ≤ b by omega)
  have s2 := Int.mul_le_mul_of_nonneg_right h2 (show 0 ≤ b by omega)
  omega
set_option maxRecDepth 100000 in
set_option maxHeartbeats 4000000 in
theorem lawFnHigh (v : Value) (w : World) (hc : CodeW w v) : Calls Try.prog 13 #[v] w fun e w' => e = .returned (.bool true) ∧ Kept w w' := by
  have HC := Lib.hid hc
  obtain ⟨A, len, cap, rfl, -⟩ := hc
  by_cases hbig : (65536 : Int) < (len : Int)
  · have hd : decide ((65536 : Int) < (len : Int)) = true := by simp [hbig]
    go_enter Try.func13, Try.ntmps13
    go_wp2_with (go_at_call 40; (with_reducible refine (vBig_any _ _ _ _).mono ?_); rintro e w' ⟨rfl, rfl⟩)
    go_ret
    exact ⟨rfl, Kept.refl _⟩
  · have hd : decide ((65536 : Int) < (len : Int)) = false := by simp [hbig]
    go_enter Try.func13, Try.ntmps13
    go_wp2_with (go_at_call 40; (with_reducible refine (vBig_any _ _ _ _).mono ?_); rintro e w' ⟨rfl, rfl⟩)
    refine (drawHighestLevel_any _ _ HC.out).mono ?_
    rintro e d1 ⟨l, xs, f, t, rfl, hx, hl, k1⟩
    have K1 := Lib.hid k1
    have L1 := Lib.hid hl
    obtain ⟨A1, c1, rfl, -, -, -⟩ := lies_pairs hl
    have hI := Lib.hid fun W (hL : Lies W 2 pairC (.slice A1 xs.length c1) xs) => highest_any (.slice A1 xs.length c1) xs f t W hL
    have hS := Lib.hid fun W (hL : Lies W 2 pairC (.slice A1 xs.length c1) xs) => sHighest_any (.slice A1 xs.length c1) xs f t W hL
    have hF := high_fact (xs := xs) (f := f) (t := t)
    generalize hlN xs f t = num at hI hS hF
    generalize hlD xs f t = den at hI hS hF
    generalize hlOk xs f t = ok at hI hS hF
    have HF := Lib.hid hF
    clear hF k1 hl
    go_wp2_with fail
    refine (hI.out _ L1.out).mono ?_
    rintro e d2 ⟨rfl, k2⟩
    have K2 := Lib.hid k2
    clear k2
    go_wp2_with fail
    refine (hS.out _ (L1.out.kept K2.out)).mono ?_
    rintro e d3 ⟨rfl, k3⟩
    have K3 := Lib.hid (K2.out.trans k3)
    clear k3 hI hS K2
    go_upto_if 76 with fail
    go_cut [] (fun wx => Kept w wx)
    case first =>
      cases ok
      · go_wp2_with fail
        go_meet
        exact K1.out.trans K3.out
      · obtain ⟨⟨f0, f1, f2⟩, ⟨⟨n0, n1⟩, ⟨m0, m1⟩⟩, hall, j0, hj0, hN0, hD0⟩ := HF.out (by trivial)
        have HA := Lib.hid hall
        have HN := Lib.hid hN0
        have HD := Lib.hid hD0
        clear hall hN0 hD0 HF
        go_wp2_with fail
        go_loopw [12, 13] (fun s i wr => ∃ k : Nat, f + (k : Int) ≤ t + 1 ∧ i = .int .i64 (f + (k : Int)) ∧ s = .bool (hitTo xs f num den k) ∧ Kept d3 wr) (fun _ i _ => (t + 1 - intOf i).toNat)
        case atStart => exact ⟨0, by omega, by simp, by simp [hitTo], Kept.refl _⟩
        case round =>
          obtain ⟨k, hk, rfl, rfl, hkw⟩ := hrel
          have HK := Lib.hid hkw
          clear hkw
          by_cases hlt : f + (k : Int) ≤ t
          · obtain ⟨hok, ⟨⟨a0, a1⟩, ⟨b0, b1⟩⟩, hle⟩ := HA.out k hlt
            have hst := hit_step xs f num den k
            have hL := Lib.hid fun W (hL : Lies W 2 pairC (.slice A1 xs.length c1) xs) => levelAtX_any (.slice A1 xs.length c1) xs (f + (k : Int)) W hL
            rw [hok] at hL
            clear hok
            generalize lvlN xs (f + (k : Int)) = a at hst hL a0 a1 hle
            generalize lvlD xs (f + (k : Int)) = b at hst hL b0 b1 hle
            generalize hitTo xs f num den k = h0 at hst ⊢
            have HST := Lib.hid hst
            clear hst
            obtain ⟨p0, p1⟩ := mulb a0 a1 m0 m1
            obtain ⟨q0, q1⟩ := mulb n0 n1 b0 b1
            have hde : decide (num * b < a * den) = false := by simp; omega
            go_wp2_with fail
            refine (hL.out _ (L1.out.kept (K3.out.trans HK.out))).mono ?_
            rintro e d4 ⟨rfl, k4⟩
            have K4 := Lib.hid (HK.out.trans k4)
            clear k4 hL HK
            cases h0
            · cases ha' : (a == num)
              · go_wp2_with fail
                go_roundw
                case rel => exact ⟨k + 1, by omega, by go_num, by rw [HST.out]; simp [ha'], K4.out⟩
                case measure => simp [intOf]; omega
              · cases hb' : (b == den)
                · go_wp2_with fail
                  go_roundw
                  case rel => exact ⟨k + 1, by omega, by go_num, by rw [HST.out]; simp [ha', hb'], K4.out⟩
                  case measure => simp [intOf]; omega
                · go_wp2_with fail
                  go_roundw
                  case rel => exact ⟨k + 1, by omega, by go_num, by rw [HST.out]; simp [ha', hb'], K4.out⟩
                  case measure => simp [intOf]; omega
            · go_wp2_with fail
              go_roundw
              case rel => exact ⟨k + 1, by omega, by go_num, by rw [HST.out]; simp, K4.out⟩
              case measure => simp [intOf]; omega
          · have hT : hitTo xs f num den k = true := hit_all (j := j0) (by omega) HN.out HD.out
            rw [hT]
            clear hT
            go_wp2_with fail
            go_meet
            exact K1.out.trans (K3.out.trans HK.out)
    case rest =>
      have KE := Lib.hid hcut
      clear hcut K1 K3 HF L1
      go_wp2_with fail
      refine (drawFirstMinuteWith_any _ _ (HC.out.kept KE.out)).mono ?_
      rintro e d1 ⟨l, xs, lev, f, rfl, hx, hl, k1⟩
      have K1 := Lib.hid (KE.out.trans k1)
      have L1 := Lib.hid hl
      obtain ⟨A1, c1, rfl, -, -, -⟩ := lies_pairs hl
      have hI := Lib.hid fun W (hL : Lies W 2 pairC (.slice A1 xs.length c1) xs) => firstMinute_any (.slice A1 xs.length c1) xs lev f W hL
      have hS := Lib.hid fun W (hL : Lies W 2 pairC (.slice A1 xs.length c1) xs) => sFirstMinute_any (.slice A1 xs.length c1) xs lev f W hL
      have hM := Lib.hid fun t W (hL : Lies W 2 pairC (.slice A1 xs.length c1) xs) => minutesWith_all (.slice A1 xs.length c1) xs lev f t W hL
      have hF := first_fact (xs := xs) (l := lev) (f := f)
      generalize fmV xs lev f = fst at hI hS hF
      generalize fmOk xs lev f = told at hI hS hF
      have HF := Lib.hid hF
      clear hF k1 hl KE
      go_wp2_with fail
      refine (hI.out _ L1.out).mono ?_
      rintro e d2 ⟨rfl, k2⟩
      have K2 := Lib.hid k2
      clear k2
      go_wp2_with fail
      refine (hS.out _ (L1.out.kept K2.out)).mono ?_
      rintro e d3 ⟨rfl, k3⟩
      have K3 := Lib.hid (K2.out.trans k3)
      clear k3 hI hS K2
      go_upto_if 142 with fail
      go_cut [] (fun wx => Kept w wx)
      case first =>
        cases told
        · go_wp2_with fail
          go_meet
          exact K1.out.trans K3.out
        · obtain ⟨k, rfl, ⟨f0, f1⟩, hok, hone⟩ := HF.out (by trivial)
          have hM1 := Lib.hid (hM.out (f + (k : Int)))
          rw [hok, hone] at hM1
          clear hok hone hM HF
          have hde : decide (f + (k : Int) < f) = false := by simp; omega
          go_wp2_with fail
          refine (hM1.out _ (L1.out.kept K3.out)).mono ?_
          rintro e d4 ⟨rfl, k4⟩
          have K4 := Lib.hid (K1.out.trans (K3.out.trans k4))
          clear k4 hM1
          go_wp2_with fail
          go_meet
          exact K4.out
      case rest =>
        have KF := Lib.hid hcut
        clear hcut K1 K3 HF L1 hM
        go_wp2_with fail
        refine (drawMinutesWith_any _ _ (HC.out.kept KF.out)).mono ?_
        rintro e d1 ⟨l, xs, lev, f, t, rfl, hx, hl, k1⟩
        have K1 := Lib.hid (KF.out.trans k1)
        have L1 := Lib.hid hl
        obtain ⟨A1, c1, rfl, -, -, -⟩ := lies_pairs hl
        have hI := Lib.hid fun W (hL : Lies W 2 pairC (.slice A1 xs.length c1) xs) => minutesWith_all (.slice A1 xs.length c1) xs lev f t W hL
        have hS := Lib.hid fun W (hL : Lies W 2 pairC (.slice A1 xs.length c1) xs) => sMinutesWith_all (.slice A1 xs.length c1) xs lev f t W hL
        have hF := minutes_fact (xs := xs) (l := lev) (f := f) (t := t)
        generalize mwV xs lev f t = n at hI hS hF
        generalize mwOk xs lev f t = fine at hI hS hF
        have HF := Lib.hid hF
        clear hF k1 hl KF
        go_wp2_with fail
        refine (hI.out _ L1.out).mono ?_
        rintro e d2 ⟨rfl, k2⟩
        have K2 := Lib.hid k2
        clear k2
        go_wp2_with fail
        refine (hS.out _ (L1.out.kept K2.out)).mono ?_
        rintro e d3 ⟨rfl, k3⟩
        have K3 := Lib.hid (K1.out.trans (K2.out.trans k3))
        clear k3 hI hS K2 K1 L1
        go_upto_region 31 with fail
        go_cut [207] (fun s wx => s = .bool false ∧ Kept w wx)
        case first =>
          cases fine
          · go_wp2_with fail
            go_meet
            exact ⟨rfl, K3.out⟩
          · obtain ⟨⟨f0, f1, f2⟩, n0, n1⟩ := HF.out (by trivial)
            have hd0 : decide (n < 0) = false := by simp; omega
            have hd1 : decide (t - f + 1 < n) = false := by simp; omega
            go_wp2_with fail
            go_meet
            exact ⟨rfl, K3.out⟩
        case rest =>
          obtain ⟨rfl, kg⟩ := hcut
          have KG := Lib.hid kg
          clear kg K3 HF
          go_wp2_with fail
          refine (drawTideGaps_any _ _ (HC.out.kept KG.out)).mono ?_
          rintro e d1 ⟨l, xs, rfl, hx, hl, k1⟩
          have K1 := Lib.hid (KG.out.trans k1)
          have L1 := Lib.hid hl
          obtain ⟨A1, c1, rfl, -, -, -⟩ := lies_pairs hl
          clear k1 hl KG
          go_wp2_with fail
          refine (tideGaps_any _ xs _ L1.out).mono ?_
          rintro e d2 ⟨s1, rfl, ho1, k2⟩
          obtain ⟨A3, c3, rfl, -, -, -⟩ := own_form ho1
          have K2 := Lib.hid k2
          have O1 := Lib.hid ho1
          clear ho1 k2
          go_wp2_with fail
          refine (sTideGaps_any _ xs _ (L1.out.kept K2.out)).mono ?_
          rintro e d3 ⟨s2, rfl, ho2, k3⟩
          obtain ⟨A4, c4, rfl, -, -, -⟩ := own_form ho2
          have O2 := Lib.hid ho2
          have O3 := Lib.hid (own_kept O1.out k3)
          have K3 := Lib.hid (K1.out.trans (K2.out.trans k3))
          clear ho2 k3 K1 K2 O1 L1
          generalize tideB xs = tok
          go_wp2_with fail
          refine (vInts_any _ _ _ _ (ints_own O3.out) (ints_own O2.out)).mono ?_
          rintro e d4 ⟨rfl, k4⟩
          have K4 := Lib.hid (K3.out.trans k4)
          clear k4
          go_wp2_with fail
          go_ret
          exact ⟨rfl, K4.out⟩
end Go.Proofs.Ytlkbneklmcefcaa
