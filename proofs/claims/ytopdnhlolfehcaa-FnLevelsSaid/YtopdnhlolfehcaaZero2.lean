/-
  Contracts of ZeroError, the program's and the reference's; its law.
  Conditions: none.
-/
import Derived.Test.YtopdnhlolfehcaaZero
import Derived.Test.YtopdnhlolfehcaaLevM
import Derived.Test.YtopdnhlolfehcaaFrac
namespace Go.Proofs.Ytopdnhlolfehcaa
open Go.ChangeShapes Go.WideShapes Go.ChangeAt Go.RowKit
set_option linter.unusedVariables false
set_option linter.unusedSimpArgs false

set_option maxRecDepth 100000 in
set_option maxHeartbeats 2000000 in
theorem zeroError_any (v : Value) (gs : List Gz) (a b : Int) (w : World) (hL : GLies w v gs) (hz : GSized gs) : Calls Try.prog 60 #[v, .int .i64 a, .int .i64 b] w fun e w' => e = .returned (.tuple #[.int .i64 (zeN gs a b), .int .i64 (zeD gs a b), .bool (zeOk gs a b)]) ∧ Kept w w' := by
  have HL := Lib.hid hL
  obtain ⟨A, c, rfl, hlc, hcm, hA⟩ := hL
  have HAA := Lib.hid hA
  have H1 := Lib.hid (twoGauges_any (.slice A gs.length c) gs a b w HL.out hz)
  have HY := Lib.hid (two_yes2 (gs := gs) (a := a) (b := b))
  have HLF := Lib.hid (lists_fact (gs := gs) (a := a) (b := b))
  have HNO := Lib.hid (ze_no (gs := gs) (a := a) (b := b))
  have HYES := Lib.hid (ze_yes (gs := gs) (a := a) (b := b))
  have HZO : Hid (zeOk gs a b = (twoOk gs a b && decide (0 < (tsV gs a b).length))) := Lib.hid rfl
  have HZS : Hid (zeS gs a b = sm (ssV gs a b) (ssV gs a b).length - sm (fsV gs a b) (fsV gs a b).length) := Lib.hid rfl
  clear hA
  go_enter Try.func60, Try.ntmps60
  go_wp2_with fail
  refine H1.out.mono ?_
  rintro e d1 ⟨rfl, k1⟩
  have K1 := Lib.hid k1
  clear k1 H1
  cases ht : twoOk gs a b
  · have hzf : zeOk gs a b = false := by rw [HZO.out, ht]; rfl
    have HX := Lib.hid (HNO.out hzf)
    have HXO := Lib.hid hzf
    clear hzf
    go_wp2_with fail
    go_ret3
    exact ⟨by rw [HX.out.1, HX.out.2, HXO.out]; rfl, K1.out⟩
  · obtain ⟨⟨ei, li, hBi⟩, ek, lk, hBk⟩ := HY.out ht
    have HLF2 := Lib.hid (HLF.out ht)
    rw [ei, ek]
    have HZO2 : Hid (zeOk gs a b = decide (0 < (tsV gs a b).length)) := Lib.hid (by rw [HZO.out, ht]; rfl)
    clear ei ek HZO HLF
    obtain ⟨b0, off, rfl, hcl⟩ := HAA.out (by omega)
    obtain ⟨ui, hui⟩ := hcl _ li
    obtain ⟨uk, huk⟩ := hcl _ lk
    obtain ⟨a0, a1, a2, a3, al⟩ := hui.kept K1.out
    obtain ⟨e0, e1, e2, e3, el⟩ := huk.kept K1.out
    have AL := Lib.hid al
    have EL := Lib.hid el
    obtain ⟨Ai, ni, rfl, -, -, -⟩ := al
    obtain ⟨Ak, nk, rfl, -, -, -⟩ := el
    have HTS : Hid (tsV gs a b = cmT (XG gs a).xs (XG gs b).xs (XG gs a).xs.length) := Lib.hid rfl
    have HFS : Hid (fsV gs a b = cmF (XG gs a).xs (XG gs b).xs (XG gs a).z (XG gs a).xs.length) := Lib.hid rfl
    have HSS : Hid (ssV gs a b = cmS (XG gs a).xs (XG gs b).xs (XG gs b).z (XG gs a).xs.length) := Lib.hid rfl
    have HBI := Lib.hid hBi
    have HBK := Lib.hid hBk
    clear hBi hBk hcl hui huk
    change d1.cell? _ = some (.int .i64 (XG gs a).id) at a0
    change d1.cell? _ = some (.string (XG gs a).nm) at a1
    change d1.cell? _ = some (.int .i64 (XG gs a).z) at a2
    change d1.cell? _ = some (.slice Ai (XG gs a).xs.length ni) at a3
    change d1.cell? _ = some (.int .i64 (XG gs b).id) at e0
    change d1.cell? _ = some (.string (XG gs b).nm) at e1
    change d1.cell? _ = some (.int .i64 (XG gs b).z) at e2
    change d1.cell? _ = some (.slice Ak (XG gs b).xs.length nk) at e3
    have AL' : Hid (Lies d1 2 pairC (.slice Ai (XG gs a).xs.length ni) (XG gs a).xs) := AL
    have EL' : Hid (Lies d1 2 pairC (.slice Ak (XG gs b).xs.length nk) (XG gs b).xs) := EL
    clear AL EL
    generalize XG gs a = X at a0 a1 a2 a3 AL' HTS HFS HSS HBI
    generalize XG gs b = Y at e0 e1 e2 e3 EL' HTS HFS HSS HBK
    generalize ixA gs a = i at li a0 a1 a2 a3 ⊢
    generalize ixA gs b = k at lk e0 e1 e2 e3 ⊢
    have i0 : (0 : Int) ≤ (i : Int) := by omega
    have i1 : (i : Int) < (gs.length : Int) := by omega
    have k0 : (0 : Int) ≤ (k : Int) := by omega
    have k1 : (k : Int) < (gs.length : Int) := by omega
    go_wp2_with fail
    have kf1_0 : ∀ w' : World, Root (d1) w' → w'.cell? ⟨b0, off + i * 4, none⟩ = some (.int .i64 X.id) := fun w' h => h.keep (by first | assumption | exact (Kept.alloc (Kept.refl _) _).keep (by assumption) | (simp [go_sem]; done) | (simp [go_sem, *]; done))
    have kf1_1 : ∀ w' : World, Root (d1) w' → w'.cell? ⟨b0, off + i * 4 + 1, none⟩ = some (.string X.nm) := fun w' h => h.keep (by first | assumption | exact (Kept.alloc (Kept.refl _) _).keep (by assumption) | (simp [go_sem]; done) | (simp [go_sem, *]; done))
    have kf1_2 : ∀ w' : World, Root (d1) w' → w'.cell? ⟨b0, off + i * 4 + 2, none⟩ = some (.int .i64 X.z) := fun w' h => h.keep (by first | assumption | exact (Kept.alloc (Kept.refl _) _).keep (by assumption) | (simp [go_sem]; done) | (simp [go_sem, *]; done))
    have kf1_3 : ∀ w' : World, Root (d1) w' → w'.cell? ⟨b0, off + i * 4 + 3, none⟩ = some (.slice Ai X.xs.length ni) := fun w' h => h.keep (by first | assumption | exact (Kept.alloc (Kept.refl _) _).keep (by assumption) | (simp [go_sem]; done) | (simp [go_sem, *]; done))
    have kf1_4 : ∀ w' : World, Root (d1) w' → w'.cell? ⟨b0, off + k * 4, none⟩ = some (.int .i64 Y.id) := fun w' h => h.keep (by first | assumption | exact (Kept.alloc (Kept.refl _) _).keep (by assumption) | (simp [go_sem]; done) | (simp [go_sem, *]; done))
    have kf1_5 : ∀ w' : World, Root (d1) w' → w'.cell? ⟨b0, off + k * 4 + 1, none⟩ = some (.string Y.nm) := fun w' h => h.keep (by first | assumption | exact (Kept.alloc (Kept.refl _) _).keep (by assumption) | (simp [go_sem]; done) | (simp [go_sem, *]; done))
    have kf1_6 : ∀ w' : World, Root (d1) w' → w'.cell? ⟨b0, off + k * 4 + 2, none⟩ = some (.int .i64 Y.z) := fun w' h => h.keep (by first | assumption | exact (Kept.alloc (Kept.refl _) _).keep (by assumption) | (simp [go_sem]; done) | (simp [go_sem, *]; done))
    have kf1_7 : ∀ w' : World, Root (d1) w' → w'.cell? ⟨b0, off + k * 4 + 3, none⟩ = some (.slice Ak Y.xs.length nk) := fun w' h => h.keep (by first | assumption | exact (Kept.alloc (Kept.refl _) _).keep (by assumption) | (simp [go_sem]; done) | (simp [go_sem, *]; done))
    go_region_held3 (fun w' => Root (d1) w')
      (first | assumption | exact Root.trans (by assumption) hk | exact Root.drew (Root.refl _) | (repeat (first | exact Root.refl _ | assumption | refine Root.alloc ?_ _ | refine Root.drew ?_ | refine Root.setCell ?_ (by first | (simp; done) | (simp; omega) | omega | exact Root.size (by assumption)) _ | refine Root.trans ?_ (by assumption))))
      (first | (go_at_call 91; refine (commonTimes_any X.id X.nm X.z (.slice Ai X.xs.length ni) X.xs Y.id Y.nm Y.z (.slice Ak Y.xs.length nk) Y.xs _ (by exact AL'.out.kept (by (repeat (first | exact Kept.refl _ | assumption | refine Kept.alloc ?_ _ | refine Kept.drew ?_ | refine Kept.drewN ?_ _ | refine Kept.setCell ?_ (by first | (simp; done) | (simp; omega) | omega | exact Kept.size (by (repeat (first | exact Kept.refl _ | assumption | refine Kept.alloc ?_ _ | refine Kept.drew ?_ | refine Kept.drewN ?_ _ | refine Kept.trans ?_ (by assumption))))) _ | refine Kept.trans ?_ (by assumption))))) (by exact EL'.out.kept (by (repeat (first | exact Kept.refl _ | assumption | refine Kept.alloc ?_ _ | refine Kept.drew ?_ | refine Kept.drewN ?_ _ | refine Kept.setCell ?_ (by first | (simp; done) | (simp; omega) | omega | exact Kept.size (by (repeat (first | exact Kept.refl _ | assumption | refine Kept.alloc ?_ _ | refine Kept.drew ?_ | refine Kept.drewN ?_ _ | refine Kept.trans ?_ (by assumption))))) _ | refine Kept.trans ?_ (by assumption))))) HBI.out HBK.out).mono ?_; rintro e w1 ⟨u1, u2, u3, rfl, ho1, ho2, ho3, hk⟩; (have hkr := Root.trans (by assumption) hk)))
    have K4 := Lib.hid (K1.out.trans hkr.kept)
    rw [← HTS.out] at ho1
    rw [← HFS.out] at ho2
    rw [← HSS.out] at ho3
    have L1 := ints_own ho1
    have L2 := Lib.hid (ints_own ho2)
    have L3 := Lib.hid (ints_own ho3)
    obtain ⟨A1, c1, rfl, -, -, -⟩ := lies_ints L1
    obtain ⟨A2, c2, rfl, -, -, -⟩ := lies_ints L2.out
    obtain ⟨A3, c3, rfl, -, -, -⟩ := lies_ints L3.out
    clear hk hkr ho1 ho2 ho3 L1 a0 a1 a2 a3 e0 e1 e2 e3 HTS HFS HSS AL' EL' HBI HBK
    generalize tsV gs a b = T at HLF2 HZO2 HYES ⊢
    generalize fsV gs a b = F at HLF2 HZS L2 ⊢
    generalize ssV gs a b = S at HLF2 HZS L3 ⊢
    obtain ⟨⟨hf1, hf2, f3⟩, hfb, hsb, -⟩ := HLF2.out
    have bf := sm_bd hfb _ (Nat.le_refl _)
    have bs := sm_bd hsb _ (Nat.le_refl _)
    have FB := Lib.hid hfb
    have SB := Lib.hid hsb
    have g1 : F.length ≤ 1000 := by omega
    have g2 : S.length ≤ 1000 := by omega
    have bf' : -75000 ≤ sm F F.length ∧ sm F F.length ≤ 75000 := by omega
    have bs' : -75000 ≤ sm S S.length ∧ sm S S.length ≤ 75000 := by omega
    have HSF := Lib.hid fun W (h : Lies W 1 intC (.slice A2 F.length c2) F) => sumInts_any _ F W h g1 FB.out
    have HSS := Lib.hid fun W (h : Lies W 1 intC (.slice A3 S.length c3) S) => sumInts_any _ S W h g2 SB.out
    clear hf1 hf2 hfb hsb HLF2 bf bs
    generalize sm F F.length = x at HZS HSF bf'
    generalize sm S S.length = y at HZS HSS bs'
    obtain ⟨bx, by'⟩ := bf'
    obtain ⟨cx, cy⟩ := bs'
    by_cases hT : 0 < T.length
    · have h0 : ¬ ((T.length : Int) = 0) := by omega
      have h0' : (0 : Int) < (T.length : Int) := by omega
      have m1 : -4611686018427387904 ≤ y - x := by omega
      have m2 : y - x ≤ 4611686018427387904 := by omega
      have m4 : (T.length : Int) ≤ 4611686018427387904 := by omega
      have hzt : zeOk gs a b = true := by rw [HZO2.out]; simp [hT]
      have HX := Lib.hid (HYES.out hzt)
      have HXO := Lib.hid hzt
      clear hzt hT HYES HNO
      go_wp2_with (first | (go_at_call 95; (with_reducible refine (HSS.out _ L3.out).mono ?_); rintro e w' ⟨rfl, rfl⟩) | (go_at_call 95; (with_reducible refine (HSF.out _ L2.out).mono ?_); rintro e w' ⟨rfl, rfl⟩) | (go_at_call 94; (with_reducible refine (lowestTerms_any _ _ m1 m2 h0' m4 _).mono ?_); rintro e w' ⟨rfl, hk⟩; (try have hkr := Root.trans (by assumption) hk); (first | (have hkf := From.step (by assumption) hk; obtain ⟨hc, hf⟩ := hkf.cells) | (have hkf := From.start hk; obtain ⟨hc, hf⟩ := hkf.cells))))
      go_ret3
      exact ⟨by rw [HX.out.1, HX.out.2, HXO.out, HZS.out]; rfl, K4.out.trans (by (repeat (first | exact Kept.refl _ | assumption | refine Kept.alloc ?_ _ | refine Kept.drew ?_ | refine Kept.drewN ?_ _ | refine Kept.setCell ?_ (by first | (simp; done) | (simp; omega) | omega | exact Kept.size (by (repeat (first | exact Kept.refl _ | assumption | refine Kept.alloc ?_ _ | refine Kept.drew ?_ | refine Kept.drewN ?_ _ | refine Kept.trans ?_ (by assumption))))) _ | refine Kept.trans ?_ (by assumption))))⟩
    · have h0 : (T.length : Int) = 0 := by omega
      have hzf : zeOk gs a b = false := by rw [HZO2.out]; simp [hT]
      have HX := Lib.hid (HNO.out hzf)
      have HXO := Lib.hid hzf
      clear hzf hT HYES HNO
      go_wp2_with fail
      go_ret3
      exact ⟨by rw [HX.out.1, HX.out.2, HXO.out]; rfl, K4.out⟩
end Go.Proofs.Ytopdnhlolfehcaa
