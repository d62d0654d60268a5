/-
  FnLevels' walk: high waters are within the range, times are common both ways, and errors of the zero have opposite signs.
  Conditions: none.
-/
import Derived.Test.YtopdnhlolfehcaaLevP
import Derived.Test.YtopdnhlolfehcaaGDraws3
import Derived.Test.YtopdnhlolfehcaaShiftL
import Derived.Test.YtopdnhlolfehcaaCtimes
import Derived.Deep.DeepCutAuto
import Derived.Deep.CutBlock
namespace Go.Proofs.Ytopdnhlolfehcaa
open Go.ChangeShapes Go.WideShapes Go.ChangeAt Go.RowKit
set_option linter.unusedVariables false
set_option linter.unusedSimpArgs false

set_option maxRecDepth 100000 in
set_option maxHeartbeats 8000000 in
theorem lawFnLevels (v : Value) (w : World) (hc : CodeW w v) : Calls Try.prog 14 #[v] w fun e w' => e = .returned (.bool true) ∧ Kept w w' := by
  have HC := Lib.hid hc
  obtain ⟨CA, len, cap, rfl, -⟩ := hc
  by_cases hbig : (65536 : Int) < (len : Int)
  · have hd : decide ((65536 : Int) < (len : Int)) = true := by simp [hbig]
    go_enter Try.func14, Try.ntmps14
    go_wp2_with (go_at_call 15; (with_reducible refine (rBig_any _ _ _ _).mono ?_); rintro e w' ⟨rfl, rfl⟩)
    go_ret
    exact ⟨rfl, Kept.refl _⟩
  have hd : decide ((65536 : Int) < (len : Int)) = false := by simp [hbig]
  go_enter Try.func14, Try.ntmps14
  go_wp2_with (go_at_call 15; (with_reducible refine (rBig_any _ _ _ _).mono ?_); rintro e w' ⟨rfl, rfl⟩)
  refine (drawHighWaters_any _ _ HC.out).mono ?_
  rintro e d1 ⟨i, z, nm, u, xs, rfl, hnm, hxl, hl, k1⟩
  obtain ⟨A, c, rfl, -, -, -⟩ := lies_pairs hl
  have K := Lib.hid k1
  have LA := Lib.hid hl
  clear hl k1
  have hs : nm.size ≤ maxLen := by unfold maxLen; omega
  have HI := Lib.hid (fun (W : World) (h : Lies W 2 pairC (.slice A xs.length c) xs) => highWaters_any i nm z _ xs hs W h)
  have HS := Lib.hid (fun (W : World) (h : Lies W 2 pairC (.slice A xs.length c) xs) => sHighWaters_any i nm z _ xs hs W h)
  have HR := Lib.hid (fun (W : World) (h : Lies W 2 pairC (.slice A xs.length c) xs) => rangeOf_any i nm z _ xs hs W h)
  have HSR := Lib.hid (fun (W : World) (h : Lies W 2 pairC (.slice A xs.length c) xs) => sRangeOf_any i nm z _ xs hs W h)
  have HG := Lib.hid (fun (k : Nat) (hk : k < (hwVal i nm z xs).length) => high_in hk)
  generalize hwVal i nm z xs = L at HI HS HG
  generalize gaugeB i nm z xs = ok at HI HS
  generalize rgL i nm z xs = lo at HR HSR HG
  generalize rgH i nm z xs = hi at HR HSR HG
  generalize rgOk i nm z xs = fine at HR HSR HG
  go_upto_region 4 with fail
  have kb : Kept d1 (d1.alloc (.cells #[.int .i64 i, .string nm, .int .i64 z, .slice A xs.length c] 26)) := Kept.alloc (Kept.refl _) _
  have LA := Lib.hid (LA.out.kept kb)
  have K := Lib.hid (K.out.trans kb)
  have GA := Lib.hid (G4.new d1 (.int .i64 i) (.string nm) (.int .i64 z) (.slice A xs.length c) 26)
  clear kb
  generalize d1.alloc (.cells #[.int .i64 i, .string nm, .int .i64 z, .slice A xs.length c] 26) = d2 at *
  have x0 := (GA.out).1
  have x1 := (GA.out).2.1
  have x2 := (GA.out).2.2.1
  have x3 := (GA.out).2.2.2
  go_wp2_with fail
  refine (HI.out _ LA.out).mono ?_
  rintro e d3 ⟨u3, rfl, ho3, k3⟩
  obtain ⟨A3, c3, rfl, -, hcm3, -⟩ := own_form ho3
  have hL3 := hcm3
  unfold maxLen at hcm3
  have LB := Lib.hid (pairs_own ho3)
  clear x0 x1 x2 x3
  have LA := Lib.hid (LA.out.kept k3)
  have GA := Lib.hid (GA.out.kept k3)
  have K := Lib.hid (K.out.trans k3)
  clear k3 ho3
  have x0 := (GA.out).1
  have x1 := (GA.out).2.1
  have x2 := (GA.out).2.2.1
  have x3 := (GA.out).2.2.2
  go_wp2_with fail
  refine (HS.out _ LA.out).mono ?_
  rintro e d4 ⟨u4, rfl, ho4, k4⟩
  obtain ⟨A4, c4, rfl, -, -, -⟩ := own_form ho4
  have LD := Lib.hid (pairs_own ho4)
  clear x0 x1 x2 x3
  have LA := Lib.hid (LA.out.kept k4)
  have GA := Lib.hid (GA.out.kept k4)
  have LB := Lib.hid (LB.out.kept k4)
  have K := Lib.hid (K.out.trans k4)
  clear k4 ho4
  go_wp2_with fail
  refine (rReadings_any _ _ _ _ LB.out LD.out).mono ?_
  rintro e d5 ⟨rfl, k5⟩
  have LA := Lib.hid (LA.out.kept k5)
  have GA := Lib.hid (GA.out.kept k5)
  have LB := Lib.hid (LB.out.kept k5)
  have LD := Lib.hid (LD.out.kept k5)
  have K := Lib.hid (K.out.trans k5)
  clear k5 HI HS LD
  have x0 := (GA.out).1
  have x1 := (GA.out).2.1
  have x2 := (GA.out).2.2.1
  have x3 := (GA.out).2.2.2
  go_wp2_with fail
  refine (HR.out _ LA.out).mono ?_
  rintro e d6 ⟨rfl, k6⟩
  clear x0 x1 x2 x3
  have LA := Lib.hid (LA.out.kept k6)
  have GA := Lib.hid (GA.out.kept k6)
  have LB := Lib.hid (LB.out.kept k6)
  have K := Lib.hid (K.out.trans k6)
  clear k6
  have x0 := (GA.out).1
  have x1 := (GA.out).2.1
  have x2 := (GA.out).2.2.1
  have x3 := (GA.out).2.2.2
  go_wp2_with fail
  refine (HSR.out _ LA.out).mono ?_
  rintro e d7 ⟨rfl, k7⟩
  clear x0 x1 x2 x3
  have LA := Lib.hid (LA.out.kept k7)
  have GA := Lib.hid (GA.out.kept k7)
  have LB := Lib.hid (LB.out.kept k7)
  have K := Lib.hid (K.out.trans k7)
  clear k7 HR HSR
  go_upto_block 0 with fail
  go_cut [] (fun wx => Kept d7 wx)
  case first =>
    have hLm := LB.out.len
    unfold maxLen at hLm
    go_wp2_with fail
    go_loopw [14] (fun n wr => ∃ k : Nat, k ≤ L.length ∧ n = .int .i64 (k : Int) ∧ Kept d7 wr) (fun n _ => L.length - (intOf n).toNat)
    case atStart => exact ⟨0, by omega, rfl, Kept.refl _⟩
    case round =>
      obtain ⟨k, hk, rfl, hkw⟩ := hrel
      have HKW := Lib.hid hkw
      have LA := Lib.hid (LA.out.kept hkw)
      have GA := Lib.hid (GA.out.kept hkw)
      have LB := Lib.hid (LB.out.kept hkw)
      clear hkw
      have x0 := (GA.out).1
      have x1 := (GA.out).2.1
      have x2 := (GA.out).2.2.1
      have x3 := (GA.out).2.2.2
      by_cases hlt : k < L.length
      · obtain ⟨p1, p2, p3, p4⟩ := HG.out k hlt
        have k0 : (0 : Int) ≤ (k : Int) := by omega
        have k1 : (k : Int) < (L.length : Int) := by omega
        obtain ⟨A9, c9, e9, -, -, hA9⟩ := lies_pairs LB.out
        injection e9 with e91 e92 e93
        subst e91 e93
        clear e92
        obtain ⟨b, off, rfl, hc⟩ := hA9 (by omega)
        have c0 := (hc k hlt).2
        clear hc hA9
        have t1 : ¬ (P2 L k + z < lo) := by omega
        have t2 : ¬ (hi < P2 L k + z) := by omega
        have t3 : decide (P2 L k + z < lo) = false := decide_eq_false t1
        have t4 : decide (hi < P2 L k + z) = false := decide_eq_false t2
        subst p1
        go_wp2_with fail
        go_quiet (fail)
        go_wp2_with fail
        go_roundw
        case rel => exact ⟨k + 1, by omega, by go_num, by have hq := HKW.out; (repeat (first | exact Kept.refl _ | assumption | refine Kept.alloc ?_ _ | refine Kept.drew ?_ | refine Kept.drewN ?_ _ | refine Kept.setCell ?_ (by first | (simp; done) | (simp; omega) | omega | exact Kept.size (by (repeat (first | exact Kept.refl _ | assumption | refine Kept.alloc ?_ _ | refine Kept.drew ?_ | refine Kept.drewN ?_ _ | refine Kept.trans ?_ (by assumption))))) _ | refine Kept.trans ?_ (by assumption)))⟩
        case measure => simp [intOf]; omega
      · have e : k = L.length := by omega
        subst e
        go_wp2_with fail
        go_meet
        exact HKW.out
  case rest =>
    obtain ⟨e0, he0⟩ : ∃ x, x = wc := ⟨_, rfl⟩
    subst he0
    clear HG LA LB GA
    have K := Lib.hid (K.out.trans hcut)
    clear hcut
    go_wp2_with fail
    refine (drawZeroError_any _ _ (HC.out.kept K.out)).mono ?_
    rintro e e1 ⟨ug, gs, a, b, rfl, hgn, hF, hL, k1⟩
    obtain ⟨AG, cg, rfl, -, -, -⟩ := id hL
    have LG := Lib.hid hL
    have K := Lib.hid (K.out.trans k1)
    clear hL k1
    have hz := hF.sized
    have HZ := Lib.hid (fun (W : World) (h : GLies W (.slice AG gs.length cg) gs) => zeroError_any _ gs a b W h hz)
    have HSZ := Lib.hid (fun (W : World) (h : GLies W (.slice AG gs.length cg) gs) => sZeroError_any _ gs a b W h hz)
    have HZ2 := Lib.hid (fun (W : World) (h : GLies W (.slice AG gs.length cg) gs) => zeroError_any _ gs b a W h hz)
    have HT := Lib.hid (fun (W : World) (h : GLies W (.slice AG gs.length cg) gs) => iCommonTimes_any _ gs a b W h hz)
    have HT2 := Lib.hid (fun (W : World) (h : GLies W (.slice AG gs.length cg) gs) => iCommonTimes_any _ gs b a W h hz)
    have HST := Lib.hid (fun (W : World) (h : GLies W (.slice AG gs.length cg) gs) => sCommonTimes_any _ gs a b W h hz)
    obtain ⟨s1, s2, s3⟩ := ze_sym gs a b
    rw [s1, s2, s3] at HZ2
    rw [ct_sym, two_sym] at HT2
    have hnum := zeN_bd gs a b
    have hto := ze_ct gs a b
    clear s1 s2 s3
    generalize zeN gs a b = num at HZ HSZ HZ2 hnum
    generalize zeD gs a b = den at HZ HSZ HZ2
    generalize zeOk gs a b = told at HZ HSZ HZ2 hto
    generalize ctV gs a b = ts at HT HT2 HST hto
    generalize twoOk gs a b = known at HT HT2 HST
    have HTO := Lib.hid hto
    clear hto
    go_wp2_with fail
    refine (HZ.out _ LG.out).mono ?_
    rintro e e2 ⟨rfl, k9⟩
    have LG := Lib.hid (LG.out.kept k9)
    have K := Lib.hid (K.out.trans k9)
    clear k9 HZ
    go_wp2_with fail
    refine (HSZ.out _ LG.out).mono ?_
    rintro e e3 ⟨rfl, k9⟩
    have LG := Lib.hid (LG.out.kept k9)
    have K := Lib.hid (K.out.trans k9)
    clear k9 HSZ
    go_wp2_with fail
    refine (HZ2.out _ LG.out).mono ?_
    rintro e e4 ⟨rfl, k9⟩
    have LG := Lib.hid (LG.out.kept k9)
    have K := Lib.hid (K.out.trans k9)
    clear k9 HZ2
    have hwn : IntKind.i64.wrap (-num) = -num := IntWalk.i64_in _ (by omega)
    go_upto_region 24 with fail
    go_cut [168] (fun s168 wx => s168 = .bool false ∧ wx = e4)
    case first =>
      cases told
      · go_wp2_with fail
        go_meet
        exact ⟨rfl, rfl⟩
      · go_wp2_with fail
        go_meet
        exact ⟨rfl, rfl⟩
    case rest =>
      obtain ⟨rfl, rfl⟩ := hcut
      clear hwn
      go_wp2_with fail
      refine (HT.out _ LG.out).mono ?_
      rintro e e5 ⟨t5, rfl, ho9, k9⟩
      obtain ⟨At5, ct5, rfl, -, -, -⟩ := own_form ho9
      have L5 := Lib.hid (ints_own ho9)
      have LG := Lib.hid (LG.out.kept k9)
      have K := Lib.hid (K.out.trans k9)
      clear k9 ho9 HT
      go_wp2_with fail
      refine (HT2.out _ LG.out).mono ?_
      rintro e e6 ⟨t6, rfl, ho9, k9⟩
      obtain ⟨At6, ct6, rfl, -, -, -⟩ := own_form ho9
      have L6 := Lib.hid (ints_own ho9)
      have LG := Lib.hid (LG.out.kept k9)
      have L5 := Lib.hid (L5.out.kept k9)
      have K := Lib.hid (K.out.trans k9)
      clear k9 ho9 HT2
      go_wp2_with fail
      refine (HST.out _ LG.out).mono ?_
      rintro e e7 ⟨t7, rfl, ho9, k9⟩
      obtain ⟨At7, ct7, rfl, -, -, -⟩ := own_form ho9
      have L7 := Lib.hid (ints_own ho9)
      have LG := Lib.hid (LG.out.kept k9)
      have L5 := Lib.hid (L5.out.kept k9)
      have L6 := Lib.hid (L6.out.kept k9)
      have K := Lib.hid (K.out.trans k9)
      clear k9 ho9 HST
      go_upto_region 29 with fail
      go_cut [216] (fun s216 wx => s216 = .bool false ∧ Kept e7 wx)
      case first =>
        have HQ1 := Lib.hid (fun (W : World) (h : Kept e7 W) => rInts_any _ _ _ W (L5.out.kept h) (L7.out.kept h))
        have HQ2 := Lib.hid (fun (W : World) (h : Kept e7 W) => rInts_any _ _ _ W (L6.out.kept h) (L5.out.kept h))
        by_cases hT : 0 < ts.length
        · have e1 : told = true := by rw [HTO.out]; exact decide_eq_true hT
          subst e1
          have x1 : (0 : Int) < (ts.length : Int) := by omega
          have x2 : decide ((0 : Int) < (ts.length : Int)) = true := decide_eq_true x1
          go_wp2_with fail
          refine (HQ1.out _ (Kept.refl _)).mono ?_
          rintro e e8 ⟨rfl, k8⟩
          have K8 := Lib.hid k8
          clear k8
          go_wp2_with fail
          refine (HQ2.out _ K8.out).mono ?_
          rintro e e9 ⟨rfl, k9⟩
          have K9 := Lib.hid (K8.out.trans k9)
          clear k9
          go_wp2_with fail
          go_meet
          exact ⟨rfl, K9.out⟩
        · have e1 : told = false := by rw [HTO.out]; exact decide_eq_false hT
          subst e1
          have x1 : ¬ ((0 : Int) < (ts.length : Int)) := by omega
          have x2 : decide ((0 : Int) < (ts.length : Int)) = false := decide_eq_false x1
          go_wp2_with fail
          refine (HQ1.out _ (Kept.refl _)).mono ?_
          rintro e e8 ⟨rfl, k8⟩
          have K8 := Lib.hid k8
          clear k8
          go_wp2_with fail
          refine (HQ2.out _ K8.out).mono ?_
          rintro e e9 ⟨rfl, k9⟩
          have K9 := Lib.hid (K8.out.trans k9)
          clear k9
          go_wp2_with fail
          go_meet
          exact ⟨rfl, K9.out⟩
      case rest =>
        obtain ⟨rfl, hk0⟩ := hcut
        have K := Lib.hid (K.out.trans hk0)
        clear hk0 L5 L6 L7 LG HTO hF hz
        go_wp2_with fail
        refine (drawAreGauges_any _ _ (HC.out.kept K.out)).mono ?_
        rintro e f1 ⟨uh, hs2, rfl, hhn, hF2, hL2, k1⟩
        obtain ⟨AH, ch, rfl, -, -, -⟩ := id hL2
        have LG := Lib.hid hL2
        have K := Lib.hid (K.out.trans k1)
        clear hL2 k1
        have hz2 := hF2.sized
        go_wp2_with fail
        refine (areGauges_any _ hs2 _ LG.out hz2).mono ?_
        rintro e f2 ⟨rfl, k2⟩
        have LG := Lib.hid (LG.out.kept k2)
        have K := Lib.hid (K.out.trans k2)
        clear k2
        generalize hgb : gaugesB hs2 = gb
        have HA := sAreGauges_any _ hs2 f2 LG.out hz2
        rw [hgb] at HA
        have HA2 := Lib.hid HA
        clear HA hgb
        go_wp2_with fail
        refine HA2.out.mono ?_
        rintro e f3 ⟨rfl, k3⟩
        have K := Lib.hid (K.out.trans k3)
        clear k3
        go_wp2_with fail
        go_ret
        exact ⟨rfl, K.out⟩
end Go.Proofs.Ytopdnhlolfehcaa
