/-
  FnTideLevels' walk: levels lie between those of the tides, reduced depths round down, raised tides lower them, levels between two curves are symmetric.
  Conditions: none.
-/
import Derived.Test.YtlkbneklmcefcaaDrawT3
import Derived.Test.YtlkbneklmcefcaaTideM
namespace Go.Proofs.Ytlkbneklmcefcaa
open Go.ChangeShapes Go.WideShapes Go.ChangeAt Go.RowKit
set_option linter.unusedVariables false
set_option linter.unusedSimpArgs false

theorem mulc {a b B : Int} (h1 : -B ≤ a) (h2 : a ≤ B) (h3 : 1 ≤ b) (h4 : b ≤ 60) (hB : 0 ≤ B) : -(B * 60) ≤ a * b ∧ a * b ≤ B * 60 := by
  have s1 := Int.mul_le_mul_of_nonneg_right h1 (show 0 ≤ b by omega)
  have s2 := Int.mul_le_mul_of_nonneg_right h2 (show 0 ≤ b by omega)
  have s3 := Int.mul_le_mul_of_nonneg_left h4 hB
  rw [Int.neg_mul] at s1
  omega
set_option maxRecDepth 100000 in
set_option maxHeartbeats 4000000 in
theorem lawFnTide (v : Value) (w : World) (hc : CodeW w v) : Calls Try.prog 12 #[v] w fun e w' => e = .returned (.bool true) ∧ Kept w w' := by
  have HC := Lib.hid hc
  obtain ⟨A, len, cap, rfl, -⟩ := hc
  by_cases hbig : (65536 : Int) < (len : Int)
  · have hd : decide ((65536 : Int) < (len : Int)) = true := by simp [hbig]
    go_enter Try.func12, Try.ntmps12
    go_wp2_with (go_at_call 40; (with_reducible refine (vBig_any _ _ _ _).mono ?_); rintro e w' ⟨rfl, rfl⟩)
    go_ret
    exact ⟨rfl, Kept.refl _⟩
  · have hd : decide ((65536 : Int) < (len : Int)) = false := by simp [hbig]
    go_enter Try.func12, Try.ntmps12
    go_wp2_with (go_at_call 40; (with_reducible refine (vBig_any _ _ _ _).mono ?_); rintro e w' ⟨rfl, rfl⟩)
    refine (drawLevelAt_any _ _ HC.out).mono ?_
    rintro e d1 ⟨l, xs, t, rfl, hx, hl, k1⟩
    have K1 := Lib.hid k1
    have L1 := Lib.hid hl
    have HL := Lib.hid (lies_pairs hl)
    obtain ⟨A1, c1, rfl, -, -, -⟩ := lies_pairs hl
    have hI := Lib.hid fun W (hL : Lies W 2 pairC (.slice A1 xs.length c1) xs) => levelAtX_any (.slice A1 xs.length c1) xs t W hL
    have hS := Lib.hid fun W (hL : Lies W 2 pairC (.slice A1 xs.length c1) xs) => sLevelAt_any (.slice A1 xs.length c1) xs t W hL
    have hF : lvlOk xs t = true → tideB xs = true ∧ ((-40000000 ≤ lvlN xs t ∧ lvlN xs t ≤ 40000000) ∧ (1 ≤ lvlD xs t ∧ lvlD xs t ≤ 60)) ∧ ∀ lo hi : Int, (∀ i, i < xs.length → lo ≤ P2 xs i) → (∀ i, i < xs.length → P2 xs i ≤ hi) → lo * lvlD xs t ≤ lvlN xs t ∧ lvlN xs t ≤ hi * lvlD xs t :=
      fun h => ⟨(lvl_1 h).1, lvl_bd h, fun lo hi h1 h2 => lvl_all h h1 h2⟩
    generalize lvlN xs t = num at hI hS hF
    generalize lvlD xs t = den at hI hS hF
    generalize lvlOk xs t = ok at hI hS hF
    have HF := Lib.hid hF
    clear hF k1 hl
    go_wp2_with fail
    refine (hI.out _ L1.out).mono ?_
    rintro e d2 ⟨rfl, k2⟩
    have K2 := Lib.hid k2
    clear k2
    go_wp2_with fail
    refine (hS.out _ (L1.out.kept K2.out)).mono ?_
    rintro e d3 ⟨rfl, k3⟩
    have K3 := Lib.hid (K2.out.trans k3)
    clear k3 hI hS K2
    go_wp2_with fail
    refine (isTideCurve_any _ xs _ (L1.out.kept K3.out)).mono ?_
    rintro e d4 ⟨rfl, k4⟩
    have K4 := Lib.hid (K3.out.trans k4)
    clear k4 K3
    go_wp2_with fail
    refine (sIsTideCurve_any _ xs _ (L1.out.kept K4.out)).mono ?_
    rintro e d5 ⟨rfl, k5⟩
    have K5 := Lib.hid (K4.out.trans k5)
    clear k5 K4
    generalize hgen : tideB xs = tb at HF ⊢
    go_upto_if 89 with fail
    go_cut [] (fun wx => Kept w wx)
    case first => as_aux_lemma =>
      cases ok
      · go_wp2_with fail
        go_meet
        exact K1.out.trans K5.out
      · obtain ⟨hB, ⟨⟨n0, n1⟩, ⟨m0, m1⟩⟩, hall⟩ := HF.out (by trivial)
        subst hB
        have HTB := Lib.hid hgen
        have HALL := Lib.hid hall
        clear hall HF
        obtain ⟨A1', c1', hA1, -, -, hcell⟩ := HL.out
        injection hA1 with hA1 _ hA2
        subst hA1 hA2
        have HCL := Lib.hid hcell
        clear hcell HL
        go_wp2_with fail
        go_loopw [11, 12, 13] (fun p q i wr => ∃ (k : Nat) (lo hi : Int), k ≤ xs.length ∧ i = .int .i64 (k : Int) ∧ p = .int .i64 lo ∧ q = .int .i64 hi ∧ (-1000 ≤ lo ∧ lo ≤ 2000) ∧ (-1000 ≤ hi ∧ hi ≤ 2000) ∧ (∀ i, i < k → lo ≤ P2 xs i ∧ P2 xs i ≤ hi) ∧ wr = d5) (fun _ _ i _ => xs.length - (intOf i).toNat)
        case atStart => exact ⟨0, 2000, -1000, by omega, rfl, rfl, rfl, by omega, by omega, fun i hi => absurd hi (by omega), rfl⟩
        case round =>
          obtain ⟨k, lo, hi, hk, rfl, rfl, rfl, ⟨l0, l1⟩, ⟨h0, h1⟩, hin, rfl⟩ := hrel
          have HIN := Lib.hid hin
          clear hin
          by_cases hlt : k < xs.length
          · obtain ⟨b, off, rfl, hcl⟩ := HCL.out (by omega)
            have c1' := K5.out.keep (hcl k hlt).2
            have hbd := (tideB_at HTB.out hlt).2.1
            obtain ⟨t0, t1⟩ := hbd
            have k0 : (0 : Int) ≤ (k : Int) := by omega
            have k1 : (k : Int) < (xs.length : Int) := by omega
            have HP := Lib.hid (rfl : P2 xs k = P2 xs k)
            clear hcl
            have upd : ∀ lo' hi' : Int, lo' ≤ lo → lo' ≤ P2 xs k → hi ≤ hi' → P2 xs k ≤ hi' → ∀ i, i < k + 1 → lo' ≤ P2 xs i ∧ P2 xs i ≤ hi' := fun lo' hi' g1 g2 g3 g4 i hik => by
              by_cases e : i = k
              · subst e
                exact ⟨g2, g4⟩
              · have := HIN.out i (by omega)
                omega
            have UPD := Lib.hid upd
            clear upd
            by_cases g1 : P2 xs k < lo
            · by_cases g2 : hi < P2 xs k
              · go_wp2_with fail
                go_roundw
                case rel => exact ⟨k + 1, _, _, by omega, by go_num, rfl, rfl, by omega, by omega, UPD.out _ _ (by omega) (by omega) (by omega) (by omega), by trivial⟩
                case measure => simp [intOf]; omega
              · have g3 : P2 xs k ≤ hi := by omega
                go_wp2_with fail
                go_roundw
                case rel => exact ⟨k + 1, _, _, by omega, by go_num, rfl, rfl, by omega, by omega, UPD.out _ _ (by omega) (by omega) (by omega) (by omega), by trivial⟩
                case measure => simp [intOf]; omega
            · have g4 : lo ≤ P2 xs k := by omega
              by_cases g2 : hi < P2 xs k
              · go_wp2_with fail
                go_roundw
                case rel => exact ⟨k + 1, _, _, by omega, by go_num, rfl, rfl, by omega, by omega, UPD.out _ _ (by omega) (by omega) (by omega) (by omega), by trivial⟩
                case measure => simp [intOf]; omega
              · have g3 : P2 xs k ≤ hi := by omega
                go_wp2_with fail
                go_roundw
                case rel => exact ⟨k + 1, _, _, by omega, by go_num, rfl, rfl, by omega, by omega, UPD.out _ _ (by omega) (by omega) (by omega) (by omega), by trivial⟩
                case measure => simp [intOf]; omega
          · have ha := HALL.out lo hi (fun i hi' => (HIN.out i (by omega)).1) (fun i hi' => (HIN.out i (by omega)).2)
            obtain ⟨ha0, ha1⟩ := ha
            obtain ⟨q0, q1⟩ := mulc (a := lo) (B := 2000) (by omega) (by omega) m0 m1 (by omega)
            obtain ⟨r0, r1⟩ := mulc (a := hi) (B := 2000) (by omega) (by omega) m0 m1 (by omega)
            have g0 : decide (num < lo * den) = false := by simp; omega
            have g1 : decide (hi * den < num) = false := by simp; omega
            have hnl : ¬ ((k : Int) < (xs.length : Int)) := by omega
            go_wp2_with fail
            go_meet
            exact K1.out.trans K5.out
    case rest => as_aux_lemma =>
      have KE := Lib.hid hcut
      clear hcut K1 K5 HF L1
      go_wp2_with fail
      refine (drawReducedDepth_any _ _ (HC.out.kept KE.out)).mono ?_
      rintro e d1 ⟨l, xs, dp, t, rfl, hx, hl, k1⟩
      have K1 := Lib.hid (KE.out.trans k1)
      have L1 := Lib.hid hl
      obtain ⟨A1, c1, rfl, -, -, -⟩ := lies_pairs hl
      have hI := Lib.hid fun W (hL : Lies W 2 pairC (.slice A1 xs.length c1) xs) => reducedDepth_any (.slice A1 xs.length c1) xs dp t W hL
      have hS := Lib.hid fun W (hL : Lies W 2 pairC (.slice A1 xs.length c1) xs) => sReducedDepth_any (.slice A1 xs.length c1) xs dp t W hL
      have hA := Lib.hid fun W (hL : Lies W 2 pairC (.slice A1 xs.length c1) xs) => levelAtX_any (.slice A1 xs.length c1) xs t W hL
      have hR := Lib.hid fun W (hL : Lies W 2 pairC (.slice A1 xs.length c1) xs) => raiseTides_any (.slice A1 xs.length c1) xs 10 W hL
      have hR2 := Lib.hid fun u W (hL : Lies W 2 pairC u (raiseVal xs 10)) => reducedDepth_any u (raiseVal xs 10) dp t W hL
      have hF : rdOk xs dp t = true → (lvlOk xs t = true ∧ (0 ≤ dp ∧ dp ≤ 30000) ∧ ((-40000000 ≤ lvlN xs t ∧ lvlN xs t ≤ 40000000) ∧ (1 ≤ lvlD xs t ∧ lvlD xs t ≤ 60)) ∧ (-45000000 ≤ rdV xs dp t ∧ rdV xs dp t ≤ 45000000) ∧ rdV xs dp t * lvlD xs t ≤ dp * lvlD xs t - lvlN xs t ∧ dp * lvlD xs t - lvlN xs t < (rdV xs dp t + 1) * lvlD xs t) ∧
          (raiseOk xs 10 = true → rdOk (raiseVal xs 10) dp t = true ∧ rdV (raiseVal xs 10) dp t = rdV xs dp t - 10) :=
        fun h => ⟨⟨(rd_1 h).1, (rd_1 h).2, lvl_bd (rd_1 h).1, rd_fact h⟩, fun h2 => raise_rd h h2⟩
      generalize rdV xs dp t = n at hI hS hF
      generalize rdOk xs dp t = told at hI hS hF
      generalize lvlN xs t = a at hA hF
      generalize lvlD xs t = b at hA hF
      generalize lvlOk xs t = one at hA hF
      generalize raiseOk xs 10 = two at hR hF
      generalize rdV (raiseVal xs 10) dp t = m at hR2 hF
      generalize rdOk (raiseVal xs 10) dp t = three at hR2 hF
      have HF := Lib.hid hF
      clear hF k1 hl KE
      go_wp2_with fail
      refine (hI.out _ L1.out).mono ?_
      rintro e d2 ⟨rfl, k2⟩
      have K2 := Lib.hid k2
      clear k2
      go_wp2_with fail
      refine (hS.out _ (L1.out.kept K2.out)).mono ?_
      rintro e d3 ⟨rfl, k3⟩
      have K3 := Lib.hid (K2.out.trans k3)
      clear k3 hI hS K2
      go_upto_if 160 with fail
      go_cut [] (fun wx => Kept w wx)
      case first => as_aux_lemma =>
        cases told
        · go_wp2_with fail
          go_meet
          exact K1.out.trans K3.out
        · obtain ⟨⟨h1, ⟨p0, p1⟩, ⟨⟨a0, a1⟩, ⟨b0, b1⟩⟩, ⟨n0, n1⟩, f0, f1⟩, hr⟩ := HF.out (by trivial)
          have HR := Lib.hid hr
          clear hr HF
          subst h1
          obtain ⟨q0, q1⟩ := mulc (B := 45000000) n0 n1 b0 b1 (by omega)
          obtain ⟨r0, r1⟩ := mulc (a := n + 1) (B := 45000001) (by omega) (by omega) b0 b1 (by omega)
          obtain ⟨s0, s1⟩ := mulc (a := dp) (B := 30000) (by omega) (by omega) b0 b1 (by omega)
          have g0 : decide (dp * b - a < n * b) = false := by simp; omega
          have g1 : decide ((n + 1) * b ≤ dp * b - a) = false := by simp; omega
          go_wp2_with fail
          refine (hA.out _ (L1.out.kept K3.out)).mono ?_
          rintro e d4 ⟨rfl, k4⟩
          have K4 := Lib.hid (K3.out.trans k4)
          clear k4 hA K3
          go_wp2_with fail
          refine (hR.out _ (L1.out.kept K4.out)).mono ?_
          rintro e d5 ⟨u, rfl, hou, k5⟩
          obtain ⟨Au, cu, rfl, -, -, -⟩ := own_form hou
          have K5 := Lib.hid (K4.out.trans k5)
          have LU := Lib.hid (pairs_own hou)
          clear k5 hou K4 hR
          cases two
          · go_wp2_with fail
            go_meet
            exact K1.out.trans K5.out
          · obtain ⟨rfl, rfl⟩ := HR.out (by trivial)
            have w0 : IntKind.i64.wrap (n - 10) = n - 10 := IntWalk.i64_in _ (by omega)
            go_wp2_with fail
            refine (hR2.out _ _ LU.out).mono ?_
            rintro e d6 ⟨rfl, k6⟩
            have K6 := Lib.hid (K1.out.trans (K5.out.trans k6))
            clear k6
            go_wp2_with fail
            go_meet
            exact K6.out
      case rest => as_aux_lemma =>
        have KF := Lib.hid hcut
        clear hcut K1 K3 HF L1 hA hR hR2
        go_wp2_with fail
        refine (drawRaiseTides_any _ _ (HC.out.kept KF.out)).mono ?_
        rintro e d1 ⟨l, xs, by_, rfl, hx, hl, k1⟩
        have K1 := Lib.hid (KF.out.trans k1)
        have L1 := Lib.hid hl
        obtain ⟨A1, c1, rfl, -, -, -⟩ := lies_pairs hl
        clear k1 hl KF
        go_wp2_with fail
        refine (raiseTides_any _ xs by_ _ L1.out).mono ?_
        rintro e d2 ⟨s1, rfl, ho1, k2⟩
        obtain ⟨A3, c3, rfl, -, -, -⟩ := own_form ho1
        have K2 := Lib.hid k2
        have O1 := Lib.hid ho1
        clear ho1 k2
        go_wp2_with fail
        refine (sRaiseTides_any _ xs by_ _ (L1.out.kept K2.out)).mono ?_
        rintro e d3 ⟨s2, rfl, ho2, k3⟩
        obtain ⟨A4, c4, rfl, -, -, -⟩ := own_form ho2
        have O2 := Lib.hid ho2
        have O3 := Lib.hid (own_kept O1.out k3)
        have K3 := Lib.hid (K1.out.trans (K2.out.trans k3))
        clear ho2 k3 K1 K2 O1 L1
        generalize raiseOk xs by_ = rok
        go_wp2_with fail
        refine (vTides_any _ _ _ _ (pairs_own O3.out) (pairs_own O2.out)).mono ?_
        rintro e d4 ⟨rfl, k4⟩
        have KG := Lib.hid (K3.out.trans k4)
        clear k4 K3 O2 O3
        go_wp2_with fail
        refine (drawLevelBetween_any _ _ (HC.out.kept KG.out)).mono ?_
        rintro e d1 ⟨l, xs, m, ys, x, y, t, rfl, hl, hm, k1⟩
        have K1 := Lib.hid (KG.out.trans k1)
        have L1 := Lib.hid hl
        have M1 := Lib.hid hm
        obtain ⟨A1, c1, rfl, -, -, -⟩ := lies_pairs hl
        obtain ⟨A2, c2, rfl, -, -, -⟩ := lies_pairs hm
        have hI := Lib.hid fun W (hL : Lies W 2 pairC (.slice A1 xs.length c1) xs) (hM : Lies W 2 pairC (.slice A2 ys.length c2) ys) => levelBetween_any _ _ xs ys x y t W hL hM
        have hS := Lib.hid fun W (hL : Lies W 2 pairC (.slice A1 xs.length c1) xs) (hM : Lies W 2 pairC (.slice A2 ys.length c2) ys) => sLevelBetween_any _ _ xs ys x y t W hL hM
        have hB := Lib.hid fun W (hL : Lies W 2 pairC (.slice A1 xs.length c1) xs) (hM : Lies W 2 pairC (.slice A2 ys.length c2) ys) => levelBetween_any _ _ ys xs y x t W hM hL
        obtain ⟨e1, e2, e3⟩ := lb_symm xs ys x y t
        rw [e1, e2, e3] at hB
        clear e1 e2 e3
        generalize lbN xs ys x y t = num at hI hS hB
        generalize lbD xs ys x y t = den at hI hS hB
        generalize lbOk xs ys x y t = known at hI hS hB
        clear k1 hl hm KG
        go_wp2_with fail
        refine (hI.out _ L1.out M1.out).mono ?_
        rintro e d2 ⟨rfl, k2⟩
        have K2 := Lib.hid k2
        clear k2
        go_wp2_with fail
        refine (hS.out _ (L1.out.kept K2.out) (M1.out.kept K2.out)).mono ?_
        rintro e d3 ⟨rfl, k3⟩
        have K3 := Lib.hid (K2.out.trans k3)
        clear k3 hI hS K2
        cases known
        · go_wp2_with fail
          go_ret
          exact ⟨rfl, K1.out.trans K3.out⟩
        · go_wp2_with fail
          refine (hB.out _ (L1.out.kept K3.out) (M1.out.kept K3.out)).mono ?_
          rintro e d4 ⟨rfl, k4⟩
          have K4 := Lib.hid (K1.out.trans (K3.out.trans k4))
          clear k4
          go_wp2_with fail
          go_ret
          exact ⟨rfl, K4.out⟩
end Go.Proofs.Ytlkbneklmcefcaa
