/-
  Contracts of the reference's CommonTimes and of ZeroError, the program's and the reference's; ZeroError's law.
  Conditions: none.
-/
import Derived.Test.YtopdnhlolfehcaaCommon3
namespace Go.Proofs.Ytopdnhlolfehcaa
open Go.ChangeShapes Go.WideShapes Go.ChangeAt Go.RowKit
set_option linter.unusedVariables false
set_option linter.unusedSimpArgs false

def ixA (gs : List Gz) (a : Int) : Nat := (gI gs a).getD 0
def XG (gs : List Gz) (a : Int) : Gz := GZ gs (ixA gs a)
theorem two_yes2 {gs : List Gz} {a b : Int} (h : twoOk gs a b = true) : (idxI (gI gs a) = (ixA gs a : Int) ∧ ixA gs a < gs.length ∧ gaugeB (XG gs a).id (XG gs a).nm (XG gs a).z (XG gs a).xs = true) ∧ (idxI (gI gs b) = (ixA gs b : Int) ∧ ixA gs b < gs.length ∧ gaugeB (XG gs b).id (XG gs b).nm (XG gs b).z (XG gs b).xs = true) := by
  simp only [twoOk, Bool.and_eq_true, decide_eq_true_eq] at h
  obtain ⟨⟨⟨hg, ha⟩, hb⟩, -⟩ := h
  obtain ⟨i, ei, hi⟩ := idx_some ha
  obtain ⟨k, ek, hk⟩ := idx_some hb
  have li := (find_is ei).1
  have lk := (find_is ek).1
  have e1 : ixA gs a = i := by rw [ixA, ei]; rfl
  have e2 : ixA gs b = k := by rw [ixA, ek]; rfl
  refine ⟨⟨by rw [e1]; exact hi, by omega, ?_⟩, by rw [e2]; exact hk, by omega, ?_⟩
  · rw [XG, e1]; exact gr_at hg li
  · rw [XG, e2]; exact gr_at hg lk
def tsV (gs : List Gz) (a b : Int) : List Int := cmT (XG gs a).xs (XG gs b).xs (XG gs a).xs.length
def fsV (gs : List Gz) (a b : Int) : List Int := cmF (XG gs a).xs (XG gs b).xs (XG gs a).z (XG gs a).xs.length
def ssV (gs : List Gz) (a b : Int) : List Int := cmS (XG gs a).xs (XG gs b).xs (XG gs b).z (XG gs a).xs.length
def ctV (gs : List Gz) (a b : Int) : List Int := if twoOk gs a b = true then tsV gs a b else []
def zeOk (gs : List Gz) (a b : Int) : Bool := twoOk gs a b && decide (0 < (tsV gs a b).length)
def zeS (gs : List Gz) (a b : Int) : Int := sm (ssV gs a b) (ssV gs a b).length - sm (fsV gs a b) (fsV gs a b).length
def zeN (gs : List Gz) (a b : Int) : Int := if zeOk gs a b = true then redN (zeS gs a b) (tsV gs a b).length else 0
def zeD (gs : List Gz) (a b : Int) : Int := if zeOk gs a b = true then redD (zeS gs a b) (tsV gs a b).length else 0
theorem ze_no {gs : List Gz} {a b : Int} (h : zeOk gs a b = false) : zeN gs a b = 0 ∧ zeD gs a b = 0 := by simp [zeN, zeD, h]
theorem ze_yes {gs : List Gz} {a b : Int} (h : zeOk gs a b = true) : zeN gs a b = redN (zeS gs a b) (tsV gs a b).length ∧ zeD gs a b = redD (zeS gs a b) (tsV gs a b).length := by simp [zeN, zeD, h]
/-- The three lists: lengths, elements, bounds. -/
theorem lists_fact {gs : List Gz} {a b : Int} (h : twoOk gs a b = true) : ((fsV gs a b).length = (tsV gs a b).length ∧ (ssV gs a b).length = (tsV gs a b).length ∧ (tsV gs a b).length ≤ 15) ∧
    (∀ n, n < (fsV gs a b).length → -5000 ≤ (fsV gs a b).getD n 0 ∧ (fsV gs a b).getD n 0 ≤ 5000) ∧ (∀ n, n < (ssV gs a b).length → -5000 ≤ (ssV gs a b).getD n 0 ∧ (ssV gs a b).getD n 0 ≤ 5000) ∧
    ∀ n, n < (tsV gs a b).length → htR (XG gs a).xs (XG gs a).z ((tsV gs a b).getD n 0) = (fsV gs a b).getD n 0 ∧ htR (XG gs b).xs (XG gs b).z ((tsV gs a b).getD n 0) = (ssV gs a b).getD n 0 := by
  obtain ⟨⟨-, -, hA⟩, -, -, hB⟩ := two_yes2 h
  have hl := cm_len (XG gs a).xs (XG gs b).xs (XG gs a).xs.length
  have hn := (gaugeB_1 hA).2.2.1
  refine ⟨⟨by simp [fsV, tsV, cmF, cmT], by simp [ssV, tsV, cmS, cmT], by simp only [tsV, cmT, List.length_map]; omega⟩, fun n hn => ?_, fun n hn => ?_, fun n hn => ?_⟩
  · have hn' : n < (cmI (XG gs a).xs (XG gs b).xs (XG gs a).xs.length).length := by simpa [fsV, cmF] using hn
    have hc := cm_mem hn'
    rw [fsV, cmF, map_at _ _ hn']
    obtain ⟨-, ⟨p0, p1⟩, -⟩ := gaugeB_at hA hc
    obtain ⟨-, ⟨z0, z1⟩, -, -⟩ := gaugeB_1 hA
    omega
  · have hn' : n < (cmI (XG gs a).xs (XG gs b).xs (XG gs a).xs.length).length := by simpa [ssV, cmS] using hn
    rw [ssV, cmS, map_at _ _ hn']
    exact htR_bd hB _
  · have hn' : n < (cmI (XG gs a).xs (XG gs b).xs (XG gs a).xs.length).length := by simpa [tsV, cmT] using hn
    have hc := cm_mem hn'
    rw [tsV, cmT, map_at _ _ hn', fsV, cmF, map_at _ _ hn', ssV, cmS, map_at _ _ hn']
    exact ⟨ht_self hA hc, rfl⟩
set_option maxRecDepth 100000 in
set_option maxHeartbeats 2000000 in
theorem sCommonTimes_any (v : Value) (gs : List Gz) (a b : Int) (w : World) (hL : GLies w v gs) (hz : GSized gs) : Calls Try.prog 53 #[v, .int .i64 a, .int .i64 b] w fun e w' => ∃ u, e = .returned (.tuple #[u, .bool (twoOk gs a b)]) ∧ w'.ownsRow w.heap.size 3 1 u (ctV gs a b).length ((ctV gs a b).flatMap intC) ∧ Kept w w' := by
  have HL := Lib.hid hL
  obtain ⟨A, c, rfl, hlc, hcm, hA⟩ := hL
  have H1 := Lib.hid fun W (h : GLies W (.slice A gs.length c) gs) => l3Find_any _ gs a W h
  have H2 := Lib.hid fun W (h : GLies W (.slice A gs.length c) gs) => l3Find_any _ gs b W h
  have H3 := Lib.hid fun W (h : GLies W (.slice A gs.length c) gs) => l3Good_any _ gs W h hz
  have hT : twoOk gs a b = (gaugesB gs && decide (0 ≤ idxI (gI gs a)) && decide (0 ≤ idxI (gI gs b)) && !(idxI (gI gs a) == idxI (gI gs b))) := rfl
  have HY := Lib.hid (two_yes2 (gs := gs) (a := a) (b := b))
  have HV1 : Hid (twoOk gs a b = false → ctV gs a b = []) := Lib.hid (fun h => by simp [ctV, h])
  have HV2 : Hid (twoOk gs a b = true → ctV gs a b = tsV gs a b) := Lib.hid (fun h => by simp [ctV, h])
  have HT := Lib.hid hT
  have HAA := Lib.hid hA
  clear hT hz hA
  go_enter Try.func53, Try.ntmps53
  go_wp2_with fail
  refine (H1.out _ HL.out).mono ?_
  rintro e d1 ⟨rfl, k1⟩
  have K1 := Lib.hid k1
  clear k1
  go_wp2_with fail
  refine (H2.out _ (HL.out.kept K1.out)).mono ?_
  rintro e d2 ⟨rfl, k2⟩
  have K2 := Lib.hid (K1.out.trans k2)
  clear k2
  go_wp2_with fail
  refine (H3.out _ (HL.out.kept K2.out)).mono ?_
  rintro e d3 ⟨rfl, k3⟩
  have K3 := Lib.hid (K2.out.trans k3)
  clear k3 H1 H2 H3
  have zz := K3.out.size
  cases ht : twoOk gs a b
  · have HV := Lib.hid (HV1.out ht)
    have hTf := HT.out
    rw [ht] at hTf
    generalize gaugesB gs = g at hTf
    generalize idxI (gI gs a) = x at hTf ⊢
    generalize idxI (gI gs b) = y at hTf ⊢
    have HO := Lib.hid (own_base (base' := w.heap.size) (World.ownsRow_lit (e := 3) (size := 1) d3 #[] 0 (Nat.le_refl _) (by simp [maxLen]) rfl) zz)
    have KE := Lib.hid (K3.out.trans (Kept.alloc (Kept.refl d3) (.cells #[] 3)))
    have HTF := Lib.hid hTf
    clear hTf
    cases g
    · go_wp2_with fail
      go_ret2
      exact ⟨.slice (some ⟨d3.heap.size, 0, none⟩) 0 0, by first | rfl | (rw [ht]; rfl), by rw [HV.out]; exact HO.out, KE.out⟩
    · by_cases hx : x < 0
      · go_wp2_with fail
        go_ret2
        exact ⟨.slice (some ⟨d3.heap.size, 0, none⟩) 0 0, by first | rfl | (rw [ht]; rfl), by rw [HV.out]; exact HO.out, KE.out⟩
      · by_cases hy : y < 0
        · go_wp2_with fail
          go_ret2
          exact ⟨.slice (some ⟨d3.heap.size, 0, none⟩) 0 0, by first | rfl | (rw [ht]; rfl), by rw [HV.out]; exact HO.out, KE.out⟩
        · have he : (x == y) = true := by
            have := HTF.out
            have dx : decide (0 ≤ x) = true := by simp; omega
            have dy : decide (0 ≤ y) = true := by simp; omega
            rw [dx, dy] at this
            simpa using this.symm
          go_wp2_with fail
          go_ret2
          exact ⟨.slice (some ⟨d3.heap.size, 0, none⟩) 0 0, by first | rfl | (rw [ht]; rfl), by rw [HV.out]; exact HO.out, KE.out⟩
  · have HV := Lib.hid (HV2.out ht)
    obtain ⟨⟨ei, li, hBi⟩, ek, lk, hBk⟩ := HY.out ht
    have hTt := HT.out
    rw [ht] at hTt
    have hg : gaugesB gs = true := by cases hq : gaugesB gs <;> simp [hq] at hTt ⊢
    have hne : (idxI (gI gs a) == idxI (gI gs b)) = false := by cases hq : (idxI (gI gs a) == idxI (gI gs b)) <;> simp [hq] at hTt ⊢
    rw [ei, ek] at hne
    rw [hg, ei, ek]
    clear hg hTt ei ek
    obtain ⟨b0, off, rfl, hcl⟩ := HAA.out (by omega)
    obtain ⟨ui, hui⟩ := hcl _ li
    obtain ⟨uk, huk⟩ := hcl _ lk
    obtain ⟨a0, a1, a2, a3, al⟩ := hui.kept K3.out
    obtain ⟨e0, e1, e2, e3, el⟩ := huk.kept K3.out
    have AL := Lib.hid al
    have EL := Lib.hid el
    obtain ⟨Ai, ni, rfl, -, -, -⟩ := al
    obtain ⟨Ak, nk, rfl, -, -, -⟩ := el
    have HTS : Hid (tsV gs a b = cmT (XG gs a).xs (XG gs b).xs (XG gs a).xs.length) := Lib.hid rfl
    have HBI := Lib.hid hBi
    have HBK := Lib.hid hBk
    clear hBi hBk hcl hui huk
    change d3.cell? _ = some (.int .i64 (XG gs a).id) at a0
    change d3.cell? _ = some (.string (XG gs a).nm) at a1
    change d3.cell? _ = some (.int .i64 (XG gs a).z) at a2
    change d3.cell? _ = some (.slice Ai (XG gs a).xs.length ni) at a3
    change d3.cell? _ = some (.int .i64 (XG gs b).id) at e0
    change d3.cell? _ = some (.string (XG gs b).nm) at e1
    change d3.cell? _ = some (.int .i64 (XG gs b).z) at e2
    change d3.cell? _ = some (.slice Ak (XG gs b).xs.length nk) at e3
    have AL' : Hid (Lies d3 2 pairC (.slice Ai (XG gs a).xs.length ni) (XG gs a).xs) := AL
    have EL' : Hid (Lies d3 2 pairC (.slice Ak (XG gs b).xs.length nk) (XG gs b).xs) := EL
    clear AL EL
    generalize XG gs a = X at a0 a1 a2 a3 AL' HTS HBI
    generalize XG gs b = Y at e0 e1 e2 e3 EL' HTS HBK
    generalize ixA gs a = i at li a0 a1 a2 a3 hne ⊢
    generalize ixA gs b = k at lk e0 e1 e2 e3 hne ⊢
    have i0 : (0 : Int) ≤ (i : Int) := by omega
    have i1 : (i : Int) < (gs.length : Int) := by omega
    have k0 : (0 : Int) ≤ (k : Int) := by omega
    have k1 : (k : Int) < (gs.length : Int) := by omega
    have i2 : ¬ ((i : Int) < 0) := by omega
    have k2 : ¬ ((k : Int) < 0) := by omega
    go_wp2_with fail
    have kf1_0 : ∀ w' : World, Root (d3) w' → w'.cell? ⟨b0, off + i * 4, none⟩ = some (.int .i64 X.id) := fun w' h => h.keep (by first | assumption | exact (Kept.alloc (Kept.refl _) _).keep (by assumption) | (simp [go_sem]; done) | (simp [go_sem, *]; done))
    have kf1_1 : ∀ w' : World, Root (d3) w' → w'.cell? ⟨b0, off + i * 4 + 1, none⟩ = some (.string X.nm) := fun w' h => h.keep (by first | assumption | exact (Kept.alloc (Kept.refl _) _).keep (by assumption) | (simp [go_sem]; done) | (simp [go_sem, *]; done))
    have kf1_2 : ∀ w' : World, Root (d3) w' → w'.cell? ⟨b0, off + i * 4 + 2, none⟩ = some (.int .i64 X.z) := fun w' h => h.keep (by first | assumption | exact (Kept.alloc (Kept.refl _) _).keep (by assumption) | (simp [go_sem]; done) | (simp [go_sem, *]; done))
    have kf1_3 : ∀ w' : World, Root (d3) w' → w'.cell? ⟨b0, off + i * 4 + 3, none⟩ = some (.slice Ai X.xs.length ni) := fun w' h => h.keep (by first | assumption | exact (Kept.alloc (Kept.refl _) _).keep (by assumption) | (simp [go_sem]; done) | (simp [go_sem, *]; done))
    have kf1_4 : ∀ w' : World, Root (d3) w' → w'.cell? ⟨b0, off + k * 4, none⟩ = some (.int .i64 Y.id) := fun w' h => h.keep (by first | assumption | exact (Kept.alloc (Kept.refl _) _).keep (by assumption) | (simp [go_sem]; done) | (simp [go_sem, *]; done))
    have kf1_5 : ∀ w' : World, Root (d3) w' → w'.cell? ⟨b0, off + k * 4 + 1, none⟩ = some (.string Y.nm) := fun w' h => h.keep (by first | assumption | exact (Kept.alloc (Kept.refl _) _).keep (by assumption) | (simp [go_sem]; done) | (simp [go_sem, *]; done))
    have kf1_6 : ∀ w' : World, Root (d3) w' → w'.cell? ⟨b0, off + k * 4 + 2, none⟩ = some (.int .i64 Y.z) := fun w' h => h.keep (by first | assumption | exact (Kept.alloc (Kept.refl _) _).keep (by assumption) | (simp [go_sem]; done) | (simp [go_sem, *]; done))
    have kf1_7 : ∀ w' : World, Root (d3) w' → w'.cell? ⟨b0, off + k * 4 + 3, none⟩ = some (.slice Ak Y.xs.length nk) := fun w' h => h.keep (by first | assumption | exact (Kept.alloc (Kept.refl _) _).keep (by assumption) | (simp [go_sem]; done) | (simp [go_sem, *]; done))
    go_region_held3 (fun w' => Root (d3) w')
      (first | assumption | exact Root.trans (by assumption) hk | exact Root.drew (Root.refl _) | (repeat (first | exact Root.refl _ | assumption | refine Root.alloc ?_ _ | refine Root.drew ?_ | refine Root.setCell ?_ (by first | (simp; done) | (simp; omega) | omega | exact Root.size (by assumption)) _ | refine Root.trans ?_ (by assumption))))
      (first | (go_at_call 89; refine (l3Common_any X.id X.nm X.z (.slice Ai X.xs.length ni) X.xs Y.id Y.nm Y.z (.slice Ak Y.xs.length nk) Y.xs _ (by exact AL'.out.kept (by (repeat (first | exact Kept.refl _ | assumption | refine Kept.alloc ?_ _ | refine Kept.drew ?_ | refine Kept.drewN ?_ _ | refine Kept.setCell ?_ (by first | (simp; done) | (simp; omega) | omega | exact Kept.size (by (repeat (first | exact Kept.refl _ | assumption | refine Kept.alloc ?_ _ | refine Kept.drew ?_ | refine Kept.drewN ?_ _ | refine Kept.trans ?_ (by assumption))))) _ | refine Kept.trans ?_ (by assumption))))) (by exact EL'.out.kept (by (repeat (first | exact Kept.refl _ | assumption | refine Kept.alloc ?_ _ | refine Kept.drew ?_ | refine Kept.drewN ?_ _ | refine Kept.setCell ?_ (by first | (simp; done) | (simp; omega) | omega | exact Kept.size (by (repeat (first | exact Kept.refl _ | assumption | refine Kept.alloc ?_ _ | refine Kept.drew ?_ | refine Kept.drewN ?_ _ | refine Kept.trans ?_ (by assumption))))) _ | refine Kept.trans ?_ (by assumption))))) HBI.out).mono ?_; rintro e w1 ⟨uh, rfl, hoh, hk⟩; (have hkr := Root.trans (by assumption) hk)))
    have K4 := Lib.hid (K3.out.trans hkr.kept)
    obtain ⟨Au, cu, rfl, -, -, -⟩ := own_form hoh
    have zk := K3.out.size
    have HO := Lib.hid (own_base (base' := w.heap.size) hoh (by first | omega | (simp; omega)))
    clear hk hkr hoh a0 a1 a2 a3 e0 e1 e2 e3
    go_wp2_with fail
    go_ret2
    exact ⟨.slice Au _ cu, by first | rfl | (rw [ht]; rfl), by rw [HV.out, HTS.out]; exact HO.out, K4.out⟩
end Go.Proofs.Ytopdnhlolfehcaa
