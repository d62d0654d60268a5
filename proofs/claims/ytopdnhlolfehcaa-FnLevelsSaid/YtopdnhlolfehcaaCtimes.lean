/-
  CommonTimes' contract and the walk of its law.
  Conditions: none.
-/
import Derived.Test.YtopdnhlolfehcaaZero
import Derived.Test.YtopdnhlolfehcaaGMark
namespace Go.Proofs.Ytopdnhlolfehcaa
open Go.ChangeShapes Go.WideShapes Go.ChangeAt Go.RowKit
set_option linter.unusedVariables false
set_option linter.unusedSimpArgs false

theorem ct_len (gs : List Gz) (a b : Int) : (ctV gs a b).length ≤ 1048576 := by
  cases h : twoOk gs a b
  · simp [ctV, h]
  · rw [ctV, if_pos h]
    have := (lists_fact h).1.2.2
    omega
set_option maxRecDepth 100000 in
set_option maxHeartbeats 2000000 in
theorem iCommonTimes_any (v : Value) (gs : List Gz) (a b : Int) (w : World) (hL : GLies w v gs) (hz : GSized gs) : Calls Try.prog 54 #[v, .int .i64 a, .int .i64 b] w fun e w' => ∃ u, e = .returned (.tuple #[u, .bool (twoOk gs a b)]) ∧ w'.ownsRow w.heap.size 3 1 u (ctV gs a b).length ((ctV gs a b).flatMap intC) ∧ Kept w w' := by
  have HL := Lib.hid hL
  obtain ⟨A, c, rfl, hlc, hcm, hA⟩ := hL
  have HAA := Lib.hid hA
  have H1 := Lib.hid (twoGauges_any (.slice A gs.length c) gs a b w HL.out hz)
  have HY := Lib.hid (two_yes2 (gs := gs) (a := a) (b := b))
  have HV1 : Hid (twoOk gs a b = false → ctV gs a b = []) := Lib.hid (fun h => by simp [ctV, h])
  have HV2 : Hid (twoOk gs a b = true → ctV gs a b = tsV gs a b) := Lib.hid (fun h => by simp [ctV, h])
  clear hA
  go_enter Try.func54, Try.ntmps54
  go_wp2_with fail
  refine H1.out.mono ?_
  rintro e d1 ⟨rfl, k1⟩
  have K1 := Lib.hid k1
  clear k1 H1
  cases ht : twoOk gs a b
  · have HV := Lib.hid (HV1.out ht)
    go_wp2_with fail
    go_ret2
    exact ⟨.slice none 0 0, by first | rfl | (rw [ht]; rfl), by rw [HV.out]; exact World.ownsRow_nil _ _ _ _, K1.out⟩
  · obtain ⟨⟨ei, li, hBi⟩, ek, lk, hBk⟩ := HY.out ht
    have HV := Lib.hid (HV2.out ht)
    rw [ei, ek]
    clear ei ek
    obtain ⟨b0, off, rfl, hcl⟩ := HAA.out (by omega)
    obtain ⟨ui, hui⟩ := hcl _ li
    obtain ⟨uk, huk⟩ := hcl _ lk
    obtain ⟨a0, a1, a2, a3, al⟩ := hui.kept K1.out
    obtain ⟨e0, e1, e2, e3, el⟩ := huk.kept K1.out
    have AL := Lib.hid al
    have EL := Lib.hid el
    obtain ⟨Ai, ni, rfl, -, -, -⟩ := al
    obtain ⟨Ak, nk, rfl, -, -, -⟩ := el
    have HTS : Hid (tsV gs a b = cmT (XG gs a).xs (XG gs b).xs (XG gs a).xs.length) := Lib.hid rfl
    have HBI := Lib.hid hBi
    have HBK := Lib.hid hBk
    clear hBi hBk hcl hui huk
    change d1.cell? _ = some (.int .i64 (XG gs a).id) at a0
    change d1.cell? _ = some (.string (XG gs a).nm) at a1
    change d1.cell? _ = some (.int .i64 (XG gs a).z) at a2
    change d1.cell? _ = some (.slice Ai (XG gs a).xs.length ni) at a3
    change d1.cell? _ = some (.int .i64 (XG gs b).id) at e0
    change d1.cell? _ = some (.string (XG gs b).nm) at e1
    change d1.cell? _ = some (.int .i64 (XG gs b).z) at e2
    change d1.cell? _ = some (.slice Ak (XG gs b).xs.length nk) at e3
    have AL' : Hid (Lies d1 2 pairC (.slice Ai (XG gs a).xs.length ni) (XG gs a).xs) := AL
    have EL' : Hid (Lies d1 2 pairC (.slice Ak (XG gs b).xs.length nk) (XG gs b).xs) := EL
    clear AL EL
    generalize XG gs a = X at a0 a1 a2 a3 AL' HTS HBI
    generalize XG gs b = Y at e0 e1 e2 e3 EL' HTS HBK
    generalize ixA gs a = i at li a0 a1 a2 a3 ⊢
    generalize ixA gs b = k at lk e0 e1 e2 e3 ⊢
    have i0 : (0 : Int) ≤ (i : Int) := by omega
    have i1 : (i : Int) < (gs.length : Int) := by omega
    have k0 : (0 : Int) ≤ (k : Int) := by omega
    have k1 : (k : Int) < (gs.length : Int) := by omega
    go_wp2_with fail
    have kf1_0 : ∀ w' : World, Root (d1) w' → w'.cell? ⟨b0, off + i * 4, none⟩ = some (.int .i64 X.id) := fun w' h => h.keep (by first | assumption | exact (Kept.alloc (Kept.refl _) _).keep (by assumption) | (simp [go_sem]; done) | (simp [go_sem, *]; done))
    have kf1_1 : ∀ w' : World, Root (d1) w' → w'.cell? ⟨b0, off + i * 4 + 1, none⟩ = some (.string X.nm) := fun w' h => h.keep (by first | assumption | exact (Kept.alloc (Kept.refl _) _).keep (by assumption) | (simp [go_sem]; done) | (simp [go_sem, *]; done))
    have kf1_2 : ∀ w' : World, Root (d1) w' → w'.cell? ⟨b0, off + i * 4 + 2, none⟩ = some (.int .i64 X.z) := fun w' h => h.keep (by first | assumption | exact (Kept.alloc (Kept.refl _) _).keep (by assumption) | (simp [go_sem]; done) | (simp [go_sem, *]; done))
    have kf1_3 : ∀ w' : World, Root (d1) w' → w'.cell? ⟨b0, off + i * 4 + 3, none⟩ = some (.slice Ai X.xs.length ni) := fun w' h => h.keep (by first | assumption | exact (Kept.alloc (Kept.refl _) _).keep (by assumption) | (simp [go_sem]; done) | (simp [go_sem, *]; done))
    have kf1_4 : ∀ w' : World, Root (d1) w' → w'.cell? ⟨b0, off + k * 4, none⟩ = some (.int .i64 Y.id) := fun w' h => h.keep (by first | assumption | exact (Kept.alloc (Kept.refl _) _).keep (by assumption) | (simp [go_sem]; done) | (simp [go_sem, *]; done))
    have kf1_5 : ∀ w' : World, Root (d1) w' → w'.cell? ⟨b0, off + k * 4 + 1, none⟩ = some (.string Y.nm) := fun w' h => h.keep (by first | assumption | exact (Kept.alloc (Kept.refl _) _).keep (by assumption) | (simp [go_sem]; done) | (simp [go_sem, *]; done))
    have kf1_6 : ∀ w' : World, Root (d1) w' → w'.cell? ⟨b0, off + k * 4 + 2, none⟩ = some (.int .i64 Y.z) := fun w' h => h.keep (by first | assumption | exact (Kept.alloc (Kept.refl _) _).keep (by assumption) | (simp [go_sem]; done) | (simp [go_sem, *]; done))
    have kf1_7 : ∀ w' : World, Root (d1) w' → w'.cell? ⟨b0, off + k * 4 + 3, none⟩ = some (.slice Ak Y.xs.length nk) := fun w' h => h.keep (by first | assumption | exact (Kept.alloc (Kept.refl _) _).keep (by assumption) | (simp [go_sem]; done) | (simp [go_sem, *]; done))
    go_region_held3 (fun w' => Root (d1) w')
      (first | assumption | exact Root.trans (by assumption) hk | exact Root.drew (Root.refl _) | (repeat (first | exact Root.refl _ | assumption | refine Root.alloc ?_ _ | refine Root.drew ?_ | refine Root.setCell ?_ (by first | (simp; done) | (simp; omega) | omega | exact Root.size (by assumption)) _ | refine Root.trans ?_ (by assumption))))
      (first | (go_at_call 91; refine (commonTimes_any X.id X.nm X.z (.slice Ai X.xs.length ni) X.xs Y.id Y.nm Y.z (.slice Ak Y.xs.length nk) Y.xs _ (by exact AL'.out.kept (by (repeat (first | exact Kept.refl _ | assumption | refine Kept.alloc ?_ _ | refine Kept.drew ?_ | refine Kept.drewN ?_ _ | refine Kept.setCell ?_ (by first | (simp; done) | (simp; omega) | omega | exact Kept.size (by (repeat (first | exact Kept.refl _ | assumption | refine Kept.alloc ?_ _ | refine Kept.drew ?_ | refine Kept.drewN ?_ _ | refine Kept.trans ?_ (by assumption))))) _ | refine Kept.trans ?_ (by assumption))))) (by exact EL'.out.kept (by (repeat (first | exact Kept.refl _ | assumption | refine Kept.alloc ?_ _ | refine Kept.drew ?_ | refine Kept.drewN ?_ _ | refine Kept.setCell ?_ (by first | (simp; done) | (simp; omega) | omega | exact Kept.size (by (repeat (first | exact Kept.refl _ | assumption | refine Kept.alloc ?_ _ | refine Kept.drew ?_ | refine Kept.drewN ?_ _ | refine Kept.trans ?_ (by assumption))))) _ | refine Kept.trans ?_ (by assumption))))) HBI.out HBK.out).mono ?_; rintro e w1 ⟨u1, u2, u3, rfl, ho1, ho2, ho3, hk⟩; (have hkr := Root.trans (by assumption) hk)))
    have K4 := Lib.hid (K1.out.trans hkr.kept)
    rw [← HTS.out, ← HV.out] at ho1
    obtain ⟨A1, c1, rfl, -, -, -⟩ := own_form ho1
    have zk := K1.out.size
    have HO := Lib.hid (own_base (base' := w.heap.size) ho1 (by first | omega | (simp; omega)))
    clear hk hkr ho1 ho2 ho3 a0 a1 a2 a3 e0 e1 e2 e3
    go_wp2_with fail
    go_ret2
    exact ⟨.slice A1 _ c1, by first | rfl | (rw [ht]; rfl), HO.out, K4.out⟩
set_option maxHeartbeats 1000000 in
theorem lawCommonTimes (v : Value) (gs : List Gz) (a b : Int) (w : World) (hL : GLies w v gs) (hz : GSized gs) : Calls Try.prog 12 #[v, .int .i64 a, .int .i64 b] w fun e w' => e = .returned (.bool true) ∧ Kept w w' := by
  have HL := Lib.hid hL
  have HZ := Lib.hid hz
  obtain ⟨A, c, rfl, hlc, hcm, hA⟩ := hL
  clear hA hz
  have hgl := ct_len gs a b
  go_enter Try.func12, Try.ntmps12
  go_wp2_with fail
  refine (szGaugeS_any _ _ _ HL.out HZ.out).mono ?_
  rintro e W0 ⟨r, rfl, hr, k0⟩
  by_cases hneg : r < 0
  · go_wp2_with fail
    go_ret
    exact ⟨rfl, by (repeat (first | exact Kept.refl _ | assumption | refine Kept.alloc ?_ _ | refine Kept.drew ?_ | refine Kept.drewN ?_ _ | refine Kept.setCell ?_ (by first | (simp; done) | (simp; omega) | omega | exact Kept.size (by (repeat (first | exact Kept.refl _ | assumption | refine Kept.alloc ?_ _ | refine Kept.drew ?_ | refine Kept.drewN ?_ _ | refine Kept.trans ?_ (by assumption))))) _ | refine Kept.trans ?_ (by assumption)))⟩
  · obtain ⟨n1, n2⟩ := hr (by omega)
    have N2 := Lib.hid n2
    clear hr n2
    go_wp2_with fail
    refine (toGaugeS_any _ _ _ (HL.out.kept k0) n1 N2.out).mono ?_
    rintro e W1 ⟨u1, rfl, hu1, k1⟩
    go_wp2_with fail
    refine (sCommonTimes_any _ _ _ _ _ hu1.lies HZ.out).mono ?_
    rintro e W2 ⟨uw, rfl, how, k2⟩
    have K2 := k0.trans (k1.trans k2)
    have HOW := Lib.hid how
    clear how hu1
    go_wp2_with fail
    refine (toGaugeS_any _ _ _ (HL.out.kept K2) n1 N2.out).mono ?_
    rintro e W3 ⟨u3, rfl, hu3, k3⟩
    have HU3 := Lib.hid hu3
    clear hu3
    go_wp2_with fail
    refine (iCommonTimes_any _ _ _ _ _ HU3.out.lies HZ.out).mono ?_
    rintro e W4 ⟨ug, rfl, hog, k4⟩
    have HOG := Lib.hid hog
    clear hog
    go_wp2_with fail
    refine (eqIntS_any _ _ _ _ (ints_own HOG.out) (ints_own (own_kept HOW.out (k3.trans k4)))).mono ?_
    rintro e W5 ⟨rfl, k5⟩
    have K5 := K2.trans (k3.trans (k4.trans k5))
    go_wp2_with fail
    refine (toGaugeS_any _ _ _ (HL.out.kept K5) n1 N2.out).mono ?_
    rintro e W6 ⟨u6, rfl, hu6, k6⟩
    have HU6 := Lib.hid hu6
    clear hu6
    go_wp2_with fail
    refine (eqGaugeS_any _ _ _ _ (HU3.out.lies.kept (k4.trans (k5.trans k6))) HU6.out.lies).mono ?_
    rintro e W7 ⟨rfl, k7⟩
    have K37 := k4.trans (k5.trans (k6.trans k7))
    go_wp2_with fail
    refine (markGaugeS_any _ W3.heap.size _ _ _ _ _ _ K37 HU3.out (Nat.le_refl _) n1 N2.out).mono ?_
    rintro e W8 ⟨r8, rfl, r0, g8⟩
    have K8 : Kept w W8 := g8.kept (K2.trans (k3.trans K37)) K2.size
    have hog8 := Lib.hid (g8.own (own_kept HOG.out (k5.trans (k6.trans k7))) (fun g hg => .inr (HOG.out.lt g hg).1))
    have how8 := Lib.hid (g8.own (own_kept HOW.out (k3.trans K37)) (fun g hg => .inl (HOW.out.lt g hg).2))
    go_wp2_with fail
    refine (eqIntS_any _ _ _ _ (ints_own hog8.out) (ints_own how8.out)).mono ?_
    rintro e W9 ⟨rfl, k9⟩
    go_wp2_with fail
    refine (markIntS_any _ _ _ _ _ _ (own_kept hog8.out k9) hgl).mono ?_
    rintro e W10 ⟨rfl, hmg, g10⟩
    have K10 : Kept w W10 := Kept.marked (K8.trans k9) HOG.out (K2.trans k3).size g10
    have how10 := Lib.hid ((own_kept how8.out k9).kept g10 (own_ne HOW.out HOG.out k3.size).1)
    have HMG := Lib.hid hmg
    clear hmg
    go_wp2_with fail
    refine (heldIntS_any _ _ _ _ _ HMG.out hgl).mono ?_
    rintro e W11 ⟨rfl, rfl⟩
    go_wp2_with fail
    refine (toGaugeS_any _ _ _ (HL.out.kept K10) n1 N2.out).mono ?_
    rintro e W12 ⟨u12, rfl, hu12, k12⟩
    have HU12 := Lib.hid hu12
    clear hu12
    go_wp2_with fail
    refine (iCommonTimes_any _ _ _ _ _ HU12.out.lies HZ.out).mono ?_
    rintro e W13 ⟨uh, rfl, hoh, k13⟩
    have HOH := Lib.hid hoh
    clear hoh
    go_wp2_with fail
    refine (eqIntS_any _ _ _ _ (ints_own HOH.out) (ints_own (own_kept how10.out (k12.trans k13)))).mono ?_
    rintro e W14 ⟨rfl, k14⟩
    go_wp2_with fail
    refine (heldIntS_any _ _ _ _ _ (own_kept HMG.out (k12.trans (k13.trans k14))) hgl).mono ?_
    rintro e W15 ⟨rfl, rfl⟩
    go_wp2_with fail
    go_ret
    exact ⟨rfl, K10.trans (k12.trans (k13.trans k14))⟩
end Go.Proofs.Ytopdnhlolfehcaa
