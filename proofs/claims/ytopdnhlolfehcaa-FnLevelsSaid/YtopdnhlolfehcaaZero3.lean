/-
  Contract of the reference's ZeroError; the law of ZeroError.
  Conditions: none.
-/
import Derived.Test.YtopdnhlolfehcaaZero2
namespace Go.Proofs.Ytopdnhlolfehcaa
open Go.ChangeShapes Go.WideShapes Go.ChangeAt Go.RowKit
set_option linter.unusedVariables false
set_option linter.unusedSimpArgs false

theorem heightGood_any {id z : Int} {nm : ByteArray} {v : Value} {xs : List (Int × Int)} {t r : Int} (h : gaugeB id nm z xs = true) (hs : nm.size ≤ maxLen) (hr : htR xs z t = r) : ∀ W, Lies W 2 pairC v xs → Calls Try.prog 30 #[.agg #[.int .i64 id, .string nm, .int .i64 z, v], .int .i64 t] W fun e w' => e = .returned (.tuple #[.int .i64 r, .bool (hoOk id nm z xs t)]) ∧ Kept W w' := by
  intro W hL
  have := sHeightOf_any id nm z v xs hs t W hL
  rw [(ho_yes h).1, hr] at this
  exact this
set_option maxRecDepth 100000 in
set_option maxHeartbeats 600000 in
theorem sZeroError_any (v : Value) (gs : List Gz) (a b : Int) (w : World) (hL : GLies w v gs) (hz : GSized gs) : Calls Try.prog 59 #[v, .int .i64 a, .int .i64 b] w fun e w' => e = .returned (.tuple #[.int .i64 (zeN gs a b), .int .i64 (zeD gs a b), .bool (zeOk gs a b)]) ∧ Kept w w' := by
  have HL := Lib.hid hL
  have HGZ := Lib.hid hz
  obtain ⟨A, c, rfl, hlc, hcm, hA⟩ := hL
  have HAA := Lib.hid hA
  have H1 := Lib.hid (sCommonTimes_any (.slice A gs.length c) gs a b w HL.out hz)
  have HI0 := Lib.hid fun W (h : GLies W (.slice A gs.length c) gs) => l3Find_any _ gs a W h
  have HK0 := Lib.hid fun W (h : GLies W (.slice A gs.length c) gs) => l3Find_any _ gs b W h
  have HY := Lib.hid (two_yes2 (gs := gs) (a := a) (b := b))
  have HLF := Lib.hid (lists_fact (gs := gs) (a := a) (b := b))
  have HNO := Lib.hid (ze_no (gs := gs) (a := a) (b := b))
  have HYES := Lib.hid (ze_yes (gs := gs) (a := a) (b := b))
  have HZO : Hid (zeOk gs a b = (twoOk gs a b && decide (0 < (tsV gs a b).length))) := Lib.hid rfl
  have HZS : Hid (zeS gs a b = sm (ssV gs a b) (ssV gs a b).length - sm (fsV gs a b) (fsV gs a b).length) := Lib.hid rfl
  have HV2 : Hid (twoOk gs a b = true → ctV gs a b = tsV gs a b) := Lib.hid (fun h => by simp [ctV, h])
  clear hA hz
  go_enter Try.func59, Try.ntmps59
  go_wp2_with fail
  refine H1.out.mono ?_
  rintro e d1 ⟨u, rfl, ho, k1⟩
  have K1 := Lib.hid k1
  clear k1 H1
  cases ht : twoOk gs a b
  · have hzf : zeOk gs a b = false := by rw [HZO.out, ht]; rfl
    have HX := Lib.hid (HNO.out hzf)
    have HXO := Lib.hid hzf
    clear hzf ho
    go_wp2_with fail
    go_ret3
    exact ⟨by rw [HX.out.1, HX.out.2, HXO.out]; rfl, K1.out⟩
  · obtain ⟨⟨ei, li, hBi⟩, ek, lk, hBk⟩ := HY.out ht
    have HLF2 := Lib.hid (HLF.out ht)
    have HZO2 : Hid (zeOk gs a b = decide (0 < (tsV gs a b).length)) := Lib.hid (by rw [HZO.out, ht]; rfl)
    rw [HV2.out ht] at ho
    have L1 := ints_own ho
    have HI : Hid (∀ W, GLies W (.slice A gs.length c) gs → Calls Try.prog 88 #[.slice A gs.length c, .int .i64 a] W fun e w' => e = .returned (.int .i64 (ixA gs a : Int)) ∧ Kept W w') := Lib.hid (by rw [← ei]; exact HI0.out)
    have HK : Hid (∀ W, GLies W (.slice A gs.length c) gs → Calls Try.prog 88 #[.slice A gs.length c, .int .i64 b] W fun e w' => e = .returned (.int .i64 (ixA gs b : Int)) ∧ Kept W w') := Lib.hid (by rw [← ek]; exact HK0.out)
    clear ei ek HZO HLF HV2 ho HI0 HK0
    have hsi : (XG gs a).nm.size ≤ maxLen := HGZ.out _ li
    have hsk : (XG gs b).nm.size ≤ maxLen := HGZ.out _ lk
    obtain ⟨b0, off, rfl, hcl⟩ := HAA.out (by omega)
    have HLD := Lib.hid (HL.out.kept K1.out)
    obtain ⟨ui, hui⟩ := hcl _ li
    obtain ⟨uk, huk⟩ := hcl _ lk
    obtain ⟨a0, a1, a2, a3, al⟩ := hui.kept K1.out
    obtain ⟨e0, e1, e2, e3, el⟩ := huk.kept K1.out
    have AL := Lib.hid al
    have EL := Lib.hid el
    obtain ⟨Ai, ni, rfl, -, -, -⟩ := al
    obtain ⟨Ak, nk, rfl, -, -, -⟩ := el
    clear hcl hui huk
    change d1.cell? _ = some (.int .i64 (XG gs a).id) at a0
    change d1.cell? _ = some (.string (XG gs a).nm) at a1
    change d1.cell? _ = some (.int .i64 (XG gs a).z) at a2
    change d1.cell? _ = some (.slice Ai (XG gs a).xs.length ni) at a3
    change d1.cell? _ = some (.int .i64 (XG gs b).id) at e0
    change d1.cell? _ = some (.string (XG gs b).nm) at e1
    change d1.cell? _ = some (.int .i64 (XG gs b).z) at e2
    change d1.cell? _ = some (.slice Ak (XG gs b).xs.length nk) at e3
    have AL' : Hid (Lies d1 2 pairC (.slice Ai (XG gs a).xs.length ni) (XG gs a).xs) := AL
    have EL' : Hid (Lies d1 2 pairC (.slice Ak (XG gs b).xs.length nk) (XG gs b).xs) := EL
    clear AL EL
    obtain ⟨⟨hf1, hf2, f3⟩, hfb, hsb, hv⟩ := HLF2.out
    have HBF := Lib.hid (sm_bd hfb)
    have HBS := Lib.hid (sm_bd hsb)
    have HFL := Lib.hid hf1
    have HSL := Lib.hid hf2
    have HV := Lib.hid hv
    have HFB := Lib.hid hfb
    have HSB := Lib.hid hsb
    have HBI := Lib.hid hBi
    have HBK := Lib.hid hBk
    clear hf1 hf2 hfb hsb hv HLF2 hBi hBk
    generalize tsV gs a b = T at HFL HSL HV HZO2 HYES L1 f3 ⊢
    generalize fsV gs a b = F at HFL HV HZS HBF HFB ⊢
    generalize ssV gs a b = S at HSL HV HZS HBS HSB ⊢
    generalize XG gs a = X at a0 a1 a2 a3 AL' HV HBI hsi
    generalize XG gs b = Y at e0 e1 e2 e3 EL' HV HBK hsk
    generalize ixA gs a = i at li a0 a1 a2 a3 HI ⊢
    generalize ixA gs b = j at lk e0 e1 e2 e3 HK ⊢
    have i0 : (0 : Int) ≤ (i : Int) := by omega
    have i1 : (i : Int) < (gs.length : Int) := by omega
    have j0 : (0 : Int) ≤ (j : Int) := by omega
    have j1 : (j : Int) < (gs.length : Int) := by omega
    obtain ⟨At, ct, rfl, -, -, hT⟩ := lies_ints L1
    clear L1
    by_cases hpos : 0 < T.length
    · obtain ⟨bt, offt, rfl, hct⟩ := hT hpos
      have HCT := Lib.hid hct
      have h0 : ((T.length : Int) == 0) = false := by rw [beq_eq_false_iff_ne]; omega
      have h0' : (0 : Int) < (T.length : Int) := by omega
      have m4 : (T.length : Int) ≤ 4611686018427387904 := by omega
      have hzt : zeOk gs a b = true := by rw [HZO2.out]; simp [hpos]
      have HX := Lib.hid (HYES.out hzt)
      have HXO := Lib.hid hzt
      clear hzt hpos HYES HNO hct hT
      go_wp2_with fail
      go_loopw [11, 12] (fun s n wr => ∃ k : Nat, k ≤ T.length ∧ n = .int .i64 (k : Int) ∧ s = .int .i64 (sm S k - sm F k) ∧ Kept d1 wr) (fun _ n _ => T.length - (intOf n).toNat)
      case atStart => exact ⟨0, by omega, rfl, rfl, Kept.refl _⟩
      case round =>
        obtain ⟨k, hk, rfl, rfl, kr⟩ := hrel
        have KR := Lib.hid kr
        by_cases hlt : k < T.length
        · have t0 := KR.out.keep (HCT.out k hlt)
          have x0 := KR.out.keep a0
          have x1 := KR.out.keep a1
          have x2 := KR.out.keep a2
          have x3 := KR.out.keep a3
          have y0 := KR.out.keep e0
          have y1 := KR.out.keep e1
          have y2 := KR.out.keep e2
          have y3 := KR.out.keep e3
          have AR := Lib.hid (AL'.out.kept KR.out)
          have ER := Lib.hid (EL'.out.kept KR.out)
          have HLR := Lib.hid (HLD.out.kept KR.out)
          have HHA := Lib.hid (heightGood_any (v := .slice Ai X.xs.length ni) HBI.out hsi (HV.out k hlt).1)
          have HHB := Lib.hid (heightGood_any (v := .slice Ak Y.xs.length nk) HBK.out hsk (HV.out k hlt).2)
          have k0 : (0 : Int) ≤ (k : Int) := by omega
          have k1 : (k : Int) < (T.length : Int) := by omega
          have bf1 := HBF.out k (by rw [HFL.out]; omega)
          have bs1 := HBS.out k (by rw [HSL.out]; omega)
          have bf2 := HFB.out k (by rw [HFL.out]; omega)
          have bs2 := HSB.out k (by rw [HSL.out]; omega)
          have HSU : Hid (sm S (k + 1) - sm F (k + 1) = sm S k - sm F k + S.getD k 0 - F.getD k 0) := Lib.hid (by simp only [sm]; omega)
          clear kr a0 a1 a2 a3 e0 e1 e2 e3 HCT HFB HSB HBF HBS
          generalize T.getD k 0 = tk at t0 HHA HHB
          generalize S.getD k 0 = sk at bs2 HSU HHB
          generalize F.getD k 0 = fk at bf2 HSU HHA
          go_wp2_with fail
          have kf1_0 : ∀ w' : World, Root (wr) w' → w'.cell? ⟨b0, off + i * 4, none⟩ = some (.int .i64 X.id) := fun w' h => h.keep (by first | assumption | exact (Kept.alloc (Kept.refl _) _).keep (by assumption) | (simp [go_sem]; done) | (simp [go_sem, *]; done))
          have kf1_1 : ∀ w' : World, Root (wr) w' → w'.cell? ⟨b0, off + i * 4 + 1, none⟩ = some (.string X.nm) := fun w' h => h.keep (by first | assumption | exact (Kept.alloc (Kept.refl _) _).keep (by assumption) | (simp [go_sem]; done) | (simp [go_sem, *]; done))
          have kf1_2 : ∀ w' : World, Root (wr) w' → w'.cell? ⟨b0, off + i * 4 + 2, none⟩ = some (.int .i64 X.z) := fun w' h => h.keep (by first | assumption | exact (Kept.alloc (Kept.refl _) _).keep (by assumption) | (simp [go_sem]; done) | (simp [go_sem, *]; done))
          have kf1_3 : ∀ w' : World, Root (wr) w' → w'.cell? ⟨b0, off + i * 4 + 3, none⟩ = some (.slice Ai X.xs.length ni) := fun w' h => h.keep (by first | assumption | exact (Kept.alloc (Kept.refl _) _).keep (by assumption) | (simp [go_sem]; done) | (simp [go_sem, *]; done))
          have kf1_4 : ∀ w' : World, Root (wr) w' → w'.cell? ⟨bt, offt + k, none⟩ = some (.int .i64 tk) := fun w' h => h.keep (by first | assumption | exact (Kept.alloc (Kept.refl _) _).keep (by assumption) | (simp [go_sem]; done) | (simp [go_sem, *]; done))
          refine wp_region_held_drew (S := fun w' => Root (wr) w') (by kernel_rfl) (by (try dsimp only); (first | assumption | exact Root.trans (by assumption) hk | exact Root.drew (Root.refl _) | (repeat (first | exact Root.refl _ | assumption | refine Root.alloc ?_ _ | refine Root.drew ?_ | refine Root.setCell ?_ (by first | (simp; done) | (simp; omega) | omega | exact Root.size (by assumption)) _ | refine Root.trans ?_ (by assumption))))) (fun hHeld => ?_)
          refine wpAnyH_take (i := 0) (v := ?_) rfl (by kernel_rfl) (by kernel_rfl) (by kernel_rfl) (fun _ _ _ h => h) (Or.inl ⟨by kernel_rfl, ?_⟩) (by assumption) ?_
          rotate_left
          focus (intro w hSw; (try dsimp only at hSw); go_simp; (try with_reducible rfl))
          (try simp only [Act.put, List.getElem_toArray, List.getElem_cons_zero, List.getElem_cons_succ, List.setIfInBounds_toArray, List.set_cons_zero, List.set_cons_succ])
          refine wpAnyH_take (i := 1) (v := ?_) rfl (by kernel_rfl) (by kernel_rfl) (by kernel_rfl) (fun _ _ _ h => h) (Or.inl ⟨by kernel_rfl, ?_⟩) (by assumption) ?_
          rotate_left
          focus (intro w hSw; (try dsimp only at hSw); go_simp; (try with_reducible rfl))
          (try simp only [Act.put, List.getElem_toArray, List.getElem_cons_zero, List.getElem_cons_succ, List.setIfInBounds_toArray, List.set_cons_zero, List.set_cons_succ])
          refine wpAnyH_take (i := 2) (v := ?_) rfl (by kernel_rfl) (by kernel_rfl) (by kernel_rfl) (fun _ _ _ h => h) (Or.inl ⟨by kernel_rfl, ?_⟩) (by assumption) ?_
          rotate_left
          focus (intro w hSw; (try dsimp only at hSw); go_simp; (try with_reducible rfl))
          (try simp only [Act.put, List.getElem_toArray, List.getElem_cons_zero, List.getElem_cons_succ, List.setIfInBounds_toArray, List.set_cons_zero, List.set_cons_succ])
          refine wpAnyH_take (i := 6) (v := ?_) rfl (by kernel_rfl) (by kernel_rfl) (by kernel_rfl) (fun _ _ _ h => h) (Or.inl ⟨by kernel_rfl, ?_⟩) (by assumption) ?_
          rotate_left
          focus (intro w hSw; (try dsimp only at hSw); go_simp; (try with_reducible rfl))
          (try simp only [Act.put, List.getElem_toArray, List.getElem_cons_zero, List.getElem_cons_succ, List.setIfInBounds_toArray, List.set_cons_zero, List.set_cons_succ])
          refine wpAnyH_take (i := 7) (v := ?_) rfl (by kernel_rfl) (by kernel_rfl) (by kernel_rfl) (fun _ _ _ h => h) (Or.inl ⟨by kernel_rfl, ?_⟩) (by assumption) ?_
          rotate_left
          focus (intro w hSw; (try dsimp only at hSw); go_simp; (try with_reducible rfl))
          (try simp only [Act.put, List.getElem_toArray, List.getElem_cons_zero, List.getElem_cons_succ, List.setIfInBounds_toArray, List.set_cons_zero, List.set_cons_succ])
          refine wpAnyH_take (i := 8) (v := ?_) rfl (by kernel_rfl) (by kernel_rfl) (by kernel_rfl) (fun _ _ _ h => h) (Or.inl ⟨by kernel_rfl, ?_⟩) (by assumption) ?_
          rotate_left
          focus (intro w hSw; (try dsimp only at hSw); go_simp; (try with_reducible rfl))
          (try simp only [Act.put, List.getElem_toArray, List.getElem_cons_zero, List.getElem_cons_succ, List.setIfInBounds_toArray, List.set_cons_zero, List.set_cons_succ])
          refine wpAnyH_take (i := 9) (v := ?_) rfl (by kernel_rfl) (by kernel_rfl) (by kernel_rfl) (fun _ _ _ h => h) (Or.inl ⟨by kernel_rfl, ?_⟩) (by assumption) ?_
          rotate_left
          focus (intro w hSw; (try dsimp only at hSw); go_simp; (try with_reducible rfl))
          (try simp only [Act.put, List.getElem_toArray, List.getElem_cons_zero, List.getElem_cons_succ, List.setIfInBounds_toArray, List.set_cons_zero, List.set_cons_succ])
          refine wpAnyH_ready (rs := [3]) (by kernel_rfl) (by simp) ?_
          refine AllReadyH.cons rfl (fun K hK => ?_) AllReadyH.nil
          go_simp
          (go_at_call 88; refine (HI.out _ (by exact HLR.out.kept (by (repeat (first | exact Kept.refl _ | assumption | refine Kept.alloc ?_ _ | refine Kept.drew ?_ | refine Kept.drewN ?_ _ | refine Kept.setCell ?_ (by first | (simp; done) | (simp; omega) | omega | exact Kept.size (by (repeat (first | exact Kept.refl _ | assumption | refine Kept.alloc ?_ _ | refine Kept.drew ?_ | refine Kept.drewN ?_ _ | refine Kept.trans ?_ (by assumption))))) _ | refine Kept.trans ?_ (by assumption)))))).mono ?_; rintro e d2 ⟨rfl, hk⟩; (have hkr := Root.trans (by assumption) hk))
          (try go_wp2_with fail)
          refine hK.out _ _ (by (try dsimp only); (first | assumption | exact Root.trans (by assumption) hk | exact Root.drew (Root.refl _) | (repeat (first | exact Root.refl _ | assumption | refine Root.alloc ?_ _ | refine Root.drew ?_ | refine Root.setCell ?_ (by first | (simp; done) | (simp; omega) | omega | exact Root.size (by assumption)) _ | refine Root.trans ?_ (by assumption))))) (fun hHeld => ?_)
          clear hK K
          (try simp only [Act.put, List.getElem_toArray, List.getElem_cons_zero, List.getElem_cons_succ, List.setIfInBounds_toArray, List.set_cons_zero, List.set_cons_succ])
          refine wpAnyH_take (i := 4) (v := ?_) rfl (by kernel_rfl) (by kernel_rfl) (by kernel_rfl) (fun _ _ _ h => h) (Or.inl ⟨by kernel_rfl, ?_⟩) (by assumption) ?_
          rotate_left
          focus (intro w hSw; (try dsimp only at hSw); go_simp; (try with_reducible rfl))
          (try simp only [Act.put, List.getElem_toArray, List.getElem_cons_zero, List.getElem_cons_succ, List.setIfInBounds_toArray, List.set_cons_zero, List.set_cons_succ])
          refine wpAnyH_take (i := 5) (v := ?_) rfl (by kernel_rfl) (by kernel_rfl) (by kernel_rfl) (fun _ _ _ h => h) (Or.inl ⟨by kernel_rfl, ?_⟩) (by assumption) ?_
          rotate_left
          focus (intro w hSw; (try dsimp only at hSw); go_simp; (try with_reducible rfl))
          (try simp only [Act.put, List.getElem_toArray, List.getElem_cons_zero, List.getElem_cons_succ, List.setIfInBounds_toArray, List.set_cons_zero, List.set_cons_succ])
          refine wpAnyH_ready (rs := [10]) (by kernel_rfl) (by simp) ?_
          refine AllReadyH.cons rfl (fun K hK => ?_) AllReadyH.nil
          go_simp
          (go_at_call 30; refine (HHA.out _ (by exact AR.out.kept (by (repeat (first | exact Kept.refl _ | assumption | refine Kept.alloc ?_ _ | refine Kept.drew ?_ | refine Kept.drewN ?_ _ | refine Kept.setCell ?_ (by first | (simp; done) | (simp; omega) | omega | exact Kept.size (by (repeat (first | exact Kept.refl _ | assumption | refine Kept.alloc ?_ _ | refine Kept.drew ?_ | refine Kept.drewN ?_ _ | refine Kept.trans ?_ (by assumption))))) _ | refine Kept.trans ?_ (by assumption)))))).mono ?_; rintro e d3 ⟨rfl, hk⟩; (have hkr2 := Root.trans (by assumption) hk))
          (try go_wp2_with fail)
          refine hK.out _ _ (by (try dsimp only); (first | assumption | exact Root.trans (by assumption) hk | exact Root.drew (Root.refl _) | (repeat (first | exact Root.refl _ | assumption | refine Root.alloc ?_ _ | refine Root.drew ?_ | refine Root.setCell ?_ (by first | (simp; done) | (simp; omega) | omega | exact Root.size (by assumption)) _ | refine Root.trans ?_ (by assumption))))) (fun hHeld => ?_)
          clear hK K
          (try simp only [Act.put, List.getElem_toArray, List.getElem_cons_zero, List.getElem_cons_succ, List.setIfInBounds_toArray, List.set_cons_zero, List.set_cons_succ])
          refine wpAnyH_take (i := 11) (v := ?_) rfl (by kernel_rfl) (by kernel_rfl) (by kernel_rfl) (fun _ _ _ h => h) (Or.inl ⟨by kernel_rfl, ?_⟩) (by assumption) ?_
          rotate_left
          focus (intro w hSw; (try dsimp only at hSw); go_simp; (try with_reducible rfl))
          (try simp only [Act.put, List.getElem_toArray, List.getElem_cons_zero, List.getElem_cons_succ, List.setIfInBounds_toArray, List.set_cons_zero, List.set_cons_succ])
          refine wpAnyH_take (i := 12) (v := ?_) rfl (by kernel_rfl) (by kernel_rfl) (by kernel_rfl) (fun _ _ _ h => h) (Or.inl ⟨by kernel_rfl, ?_⟩) (by assumption) ?_
          rotate_left
          focus (intro w hSw; (try dsimp only at hSw); go_simp; (try with_reducible rfl))
          (try simp only [Act.put, List.getElem_toArray, List.getElem_cons_zero, List.getElem_cons_succ, List.setIfInBounds_toArray, List.set_cons_zero, List.set_cons_succ])
          refine wpAnyH_take (i := 13) (v := ?_) rfl (by kernel_rfl) (by kernel_rfl) (by kernel_rfl) (fun _ _ _ h => h) (Or.inl ⟨by kernel_rfl, ?_⟩) (by assumption) ?_
          rotate_left
          focus (intro w hSw; (try dsimp only at hSw); go_simp; (try with_reducible rfl))
          (try simp only [Act.put, List.getElem_toArray, List.getElem_cons_zero, List.getElem_cons_succ, List.setIfInBounds_toArray, List.set_cons_zero, List.set_cons_succ])
          refine wpAnyH_take (i := 14) (v := ?_) rfl (by kernel_rfl) (by kernel_rfl) (by kernel_rfl) (fun _ _ _ h => h) (Or.inl ⟨by kernel_rfl, ?_⟩) (by assumption) ?_
          rotate_left
          focus (intro w hSw; (try dsimp only at hSw); go_simp; (try with_reducible rfl))
          (try simp only [Act.put, List.getElem_toArray, List.getElem_cons_zero, List.getElem_cons_succ, List.setIfInBounds_toArray, List.set_cons_zero, List.set_cons_succ])
          refine wpAnyH_take (i := 15) (v := ?_) rfl (by kernel_rfl) (by kernel_rfl) (by kernel_rfl) (fun _ _ _ h => h) (Or.inl ⟨by kernel_rfl, ?_⟩) (by assumption) ?_
          rotate_left
          focus (intro w hSw; (try dsimp only at hSw); go_simp; (try with_reducible rfl))
          (try simp only [Act.put, List.getElem_toArray, List.getElem_cons_zero, List.getElem_cons_succ, List.setIfInBounds_toArray, List.set_cons_zero, List.set_cons_succ])
          refine wpAnyH_done (by kernel_rfl) ?_ _
          clear x0 x1 x2 x3
          have y0 := hkr2.keep y0
          have y1 := hkr2.keep y1
          have y2 := hkr2.keep y2
          have y3 := hkr2.keep y3
          have t0 := hkr2.keep t0
          have ER := Lib.hid (ER.out.kept hkr2.kept)
          have HLR := Lib.hid (HLR.out.kept hkr2.kept)
          have KQ := Lib.hid (KR.out.trans hkr2.kept)
          clear hkr hkr2
          go_wp2_with fail
          have kf2_0 : ∀ w' : World, Root (d3) w' → w'.cell? ⟨b0, off + j * 4, none⟩ = some (.int .i64 Y.id) := fun w' h => h.keep (by first | assumption | exact (Kept.alloc (Kept.refl _) _).keep (by assumption) | (simp [go_sem]; done) | (simp [go_sem, *]; done))
          have kf2_1 : ∀ w' : World, Root (d3) w' → w'.cell? ⟨b0, off + j * 4 + 1, none⟩ = some (.string Y.nm) := fun w' h => h.keep (by first | assumption | exact (Kept.alloc (Kept.refl _) _).keep (by assumption) | (simp [go_sem]; done) | (simp [go_sem, *]; done))
          have kf2_2 : ∀ w' : World, Root (d3) w' → w'.cell? ⟨b0, off + j * 4 + 2, none⟩ = some (.int .i64 Y.z) := fun w' h => h.keep (by first | assumption | exact (Kept.alloc (Kept.refl _) _).keep (by assumption) | (simp [go_sem]; done) | (simp [go_sem, *]; done))
          have kf2_3 : ∀ w' : World, Root (d3) w' → w'.cell? ⟨b0, off + j * 4 + 3, none⟩ = some (.slice Ak Y.xs.length nk) := fun w' h => h.keep (by first | assumption | exact (Kept.alloc (Kept.refl _) _).keep (by assumption) | (simp [go_sem]; done) | (simp [go_sem, *]; done))
          have kf2_4 : ∀ w' : World, Root (d3) w' → w'.cell? ⟨bt, offt + k, none⟩ = some (.int .i64 tk) := fun w' h => h.keep (by first | assumption | exact (Kept.alloc (Kept.refl _) _).keep (by assumption) | (simp [go_sem]; done) | (simp [go_sem, *]; done))
          refine wp_region_held_drew (S := fun w' => Root (d3) w') (by kernel_rfl) (by (try dsimp only); (first | assumption | exact Root.trans (by assumption) hk | exact Root.drew (Root.refl _) | (repeat (first | exact Root.refl _ | assumption | refine Root.alloc ?_ _ | refine Root.drew ?_ | refine Root.setCell ?_ (by first | (simp; done) | (simp; omega) | omega | exact Root.size (by assumption)) _ | refine Root.trans ?_ (by assumption))))) (fun hHeld => ?_)
          refine wpAnyH_take (i := 0) (v := ?_) rfl (by kernel_rfl) (by kernel_rfl) (by kernel_rfl) (fun _ _ _ h => h) (Or.inl ⟨by kernel_rfl, ?_⟩) (by assumption) ?_
          rotate_left
          focus (intro w hSw; (try dsimp only at hSw); go_simp; (try with_reducible rfl))
          (try simp only [Act.put, List.getElem_toArray, List.getElem_cons_zero, List.getElem_cons_succ, List.setIfInBounds_toArray, List.set_cons_zero, List.set_cons_succ])
          refine wpAnyH_take (i := 1) (v := ?_) rfl (by kernel_rfl) (by kernel_rfl) (by kernel_rfl) (fun _ _ _ h => h) (Or.inl ⟨by kernel_rfl, ?_⟩) (by assumption) ?_
          rotate_left
          focus (intro w hSw; (try dsimp only at hSw); go_simp; (try with_reducible rfl))
          (try simp only [Act.put, List.getElem_toArray, List.getElem_cons_zero, List.getElem_cons_succ, List.setIfInBounds_toArray, List.set_cons_zero, List.set_cons_succ])
          refine wpAnyH_take (i := 2) (v := ?_) rfl (by kernel_rfl) (by kernel_rfl) (by kernel_rfl) (fun _ _ _ h => h) (Or.inl ⟨by kernel_rfl, ?_⟩) (by assumption) ?_
          rotate_left
          focus (intro w hSw; (try dsimp only at hSw); go_simp; (try with_reducible rfl))
          (try simp only [Act.put, List.getElem_toArray, List.getElem_cons_zero, List.getElem_cons_succ, List.setIfInBounds_toArray, List.set_cons_zero, List.set_cons_succ])
          refine wpAnyH_take (i := 6) (v := ?_) rfl (by kernel_rfl) (by kernel_rfl) (by kernel_rfl) (fun _ _ _ h => h) (Or.inl ⟨by kernel_rfl, ?_⟩) (by assumption) ?_
          rotate_left
          focus (intro w hSw; (try dsimp only at hSw); go_simp; (try with_reducible rfl))
          (try simp only [Act.put, List.getElem_toArray, List.getElem_cons_zero, List.getElem_cons_succ, List.setIfInBounds_toArray, List.set_cons_zero, List.set_cons_succ])
          refine wpAnyH_take (i := 7) (v := ?_) rfl (by kernel_rfl) (by kernel_rfl) (by kernel_rfl) (fun _ _ _ h => h) (Or.inl ⟨by kernel_rfl, ?_⟩) (by assumption) ?_
          rotate_left
          focus (intro w hSw; (try dsimp only at hSw); go_simp; (try with_reducible rfl))
          (try simp only [Act.put, List.getElem_toArray, List.getElem_cons_zero, List.getElem_cons_succ, List.setIfInBounds_toArray, List.set_cons_zero, List.set_cons_succ])
          refine wpAnyH_take (i := 8) (v := ?_) rfl (by kernel_rfl) (by kernel_rfl) (by kernel_rfl) (fun _ _ _ h => h) (Or.inl ⟨by kernel_rfl, ?_⟩) (by assumption) ?_
          rotate_left
          focus (intro w hSw; (try dsimp only at hSw); go_simp; (try with_reducible rfl))
          (try simp only [Act.put, List.getElem_toArray, List.getElem_cons_zero, List.getElem_cons_succ, List.setIfInBounds_toArray, List.set_cons_zero, List.set_cons_succ])
          refine wpAnyH_take (i := 9) (v := ?_) rfl (by kernel_rfl) (by kernel_rfl) (by kernel_rfl) (fun _ _ _ h => h) (Or.inl ⟨by kernel_rfl, ?_⟩) (by assumption) ?_
          rotate_left
          focus (intro w hSw; (try dsimp only at hSw); go_simp; (try with_reducible rfl))
          (try simp only [Act.put, List.getElem_toArray, List.getElem_cons_zero, List.getElem_cons_succ, List.setIfInBounds_toArray, List.set_cons_zero, List.set_cons_succ])
          refine wpAnyH_ready (rs := [3]) (by kernel_rfl) (by simp) ?_
          refine AllReadyH.cons rfl (fun K hK => ?_) AllReadyH.nil
          go_simp
          (go_at_call 88; refine (HK.out _ (by exact HLR.out.kept (by (repeat (first | exact Kept.refl _ | assumption | refine Kept.alloc ?_ _ | refine Kept.drew ?_ | refine Kept.drewN ?_ _ | refine Kept.setCell ?_ (by first | (simp; done) | (simp; omega) | omega | exact Kept.size (by (repeat (first | exact Kept.refl _ | assumption | refine Kept.alloc ?_ _ | refine Kept.drew ?_ | refine Kept.drewN ?_ _ | refine Kept.trans ?_ (by assumption))))) _ | refine Kept.trans ?_ (by assumption)))))).mono ?_; rintro e d4 ⟨rfl, hk⟩; (have hkr := Root.trans (by assumption) hk))
          (try go_wp2_with fail)
          refine hK.out _ _ (by (try dsimp only); (first | assumption | exact Root.trans (by assumption) hk | exact Root.drew (Root.refl _) | (repeat (first | exact Root.refl _ | assumption | refine Root.alloc ?_ _ | refine Root.drew ?_ | refine Root.setCell ?_ (by first | (simp; done) | (simp; omega) | omega | exact Root.size (by assumption)) _ | refine Root.trans ?_ (by assumption))))) (fun hHeld => ?_)
          clear hK K
          (try simp only [Act.put, List.getElem_toArray, List.getElem_cons_zero, List.getElem_cons_succ, List.setIfInBounds_toArray, List.set_cons_zero, List.set_cons_succ])
          refine wpAnyH_take (i := 4) (v := ?_) rfl (by kernel_rfl) (by kernel_rfl) (by kernel_rfl) (fun _ _ _ h => h) (Or.inl ⟨by kernel_rfl, ?_⟩) (by assumption) ?_
          rotate_left
          focus (intro w hSw; (try dsimp only at hSw); go_simp; (try with_reducible rfl))
          (try simp only [Act.put, List.getElem_toArray, List.getElem_cons_zero, List.getElem_cons_succ, List.setIfInBounds_toArray, List.set_cons_zero, List.set_cons_succ])
          refine wpAnyH_take (i := 5) (v := ?_) rfl (by kernel_rfl) (by kernel_rfl) (by kernel_rfl) (fun _ _ _ h => h) (Or.inl ⟨by kernel_rfl, ?_⟩) (by assumption) ?_
          rotate_left
          focus (intro w hSw; (try dsimp only at hSw); go_simp; (try with_reducible rfl))
          (try simp only [Act.put, List.getElem_toArray, List.getElem_cons_zero, List.getElem_cons_succ, List.setIfInBounds_toArray, List.set_cons_zero, List.set_cons_succ])
          refine wpAnyH_ready (rs := [10]) (by kernel_rfl) (by simp) ?_
          refine AllReadyH.cons rfl (fun K hK => ?_) AllReadyH.nil
          go_simp
          (go_at_call 30; refine (HHB.out _ (by exact ER.out.kept (by (repeat (first | exact Kept.refl _ | assumption | refine Kept.alloc ?_ _ | refine Kept.drew ?_ | refine Kept.drewN ?_ _ | refine Kept.setCell ?_ (by first | (simp; done) | (simp; omega) | omega | exact Kept.size (by (repeat (first | exact Kept.refl _ | assumption | refine Kept.alloc ?_ _ | refine Kept.drew ?_ | refine Kept.drewN ?_ _ | refine Kept.trans ?_ (by assumption))))) _ | refine Kept.trans ?_ (by assumption)))))).mono ?_; rintro e d5 ⟨rfl, hk⟩; (have hkr2 := Root.trans (by assumption) hk))
          (try go_wp2_with fail)
          refine hK.out _ _ (by (try dsimp only); (first | assumption | exact Root.trans (by assumption) hk | exact Root.drew (Root.refl _) | (repeat (first | exact Root.refl _ | assumption | refine Root.alloc ?_ _ | refine Root.drew ?_ | refine Root.setCell ?_ (by first | (simp; done) | (simp; omega) | omega | exact Root.size (by assumption)) _ | refine Root.trans ?_ (by assumption))))) (fun hHeld => ?_)
          clear hK K
          (try simp only [Act.put, List.getElem_toArray, List.getElem_cons_zero, List.getElem_cons_succ, List.setIfInBounds_toArray, List.set_cons_zero, List.set_cons_succ])
          refine wpAnyH_take (i := 11) (v := ?_) rfl (by kernel_rfl) (by kernel_rfl) (by kernel_rfl) (fun _ _ _ h => h) (Or.inl ⟨by kernel_rfl, ?_⟩) (by assumption) ?_
          rotate_left
          focus (intro w hSw; (try dsimp only at hSw); go_simp; (try with_reducible rfl))
          (try simp only [Act.put, List.getElem_toArray, List.getElem_cons_zero, List.getElem_cons_succ, List.setIfInBounds_toArray, List.set_cons_zero, List.set_cons_succ])
          refine wpAnyH_take (i := 12) (v := ?_) rfl (by kernel_rfl) (by kernel_rfl) (by kernel_rfl) (fun _ _ _ h => h) (Or.inl ⟨by kernel_rfl, ?_⟩) (by assumption) ?_
          rotate_left
          focus (intro w hSw; (try dsimp only at hSw); go_simp; (try with_reducible rfl))
          (try simp only [Act.put, List.getElem_toArray, List.getElem_cons_zero, List.getElem_cons_succ, List.setIfInBounds_toArray, List.set_cons_zero, List.set_cons_succ])
          refine wpAnyH_take (i := 13) (v := ?_) rfl (by kernel_rfl) (by kernel_rfl) (by kernel_rfl) (fun _ _ _ h => h) (Or.inl ⟨by kernel_rfl, ?_⟩) (by assumption) ?_
          rotate_left
          focus (intro w hSw; (try dsimp only at hSw); go_simp; (try with_reducible rfl))
          (try simp only [Act.put, List.getElem_toArray, List.getElem_cons_zero, List.getElem_cons_succ, List.setIfInBounds_toArray, List.set_cons_zero, List.set_cons_succ])
          refine wpAnyH_take (i := 14) (v := ?_) rfl (by kernel_rfl) (by kernel_rfl) (by kernel_rfl) (fun _ _ _ h => h) (Or.inl ⟨by kernel_rfl, ?_⟩) (by assumption) ?_
          rotate_left
          focus (intro w hSw; (try dsimp only at hSw); go_simp; (try with_reducible rfl))
          (try simp only [Act.put, List.getElem_toArray, List.getElem_cons_zero, List.getElem_cons_succ, List.setIfInBounds_toArray, List.set_cons_zero, List.set_cons_succ])
          refine wpAnyH_take (i := 15) (v := ?_) rfl (by kernel_rfl) (by kernel_rfl) (by kernel_rfl) (fun _ _ _ h => h) (Or.inl ⟨by kernel_rfl, ?_⟩) (by assumption) ?_
          rotate_left
          focus (intro w hSw; (try dsimp only at hSw); go_simp; (try with_reducible rfl))
          (try simp only [Act.put, List.getElem_toArray, List.getElem_cons_zero, List.getElem_cons_succ, List.setIfInBounds_toArray, List.set_cons_zero, List.set_cons_succ])
          refine wpAnyH_done (by kernel_rfl) ?_ _
          have KZ := Lib.hid (KQ.out.trans hkr2.kept)
          clear hkr hkr2 y0 y1 y2 y3 t0
          have q1 : -75000 ≤ sm S k ∧ sm S k ≤ 75000 := by omega
          have q2 : -75000 ≤ sm F k ∧ sm F k ≤ 75000 := by omega
          generalize sm S k = s at q1 HSU ⊢
          generalize sm F k = f at q2 HSU ⊢
          clear bf1 bs1
          go_wp2_with fail
          go_roundw
          case rel => exact ⟨k + 1, by omega, by go_num, by rw [HSU.out], KZ.out⟩
          case measure => simp [intOf]; omega
        · have hkl : k = T.length := by omega
          have bf1 := HBF.out k (by rw [HFL.out]; omega)
          have bs1 := HBS.out k (by rw [HSL.out]; omega)
          have HZS' : Hid (zeS gs a b = sm S k - sm F k) := Lib.hid (by rw [HZS.out, HFL.out, HSL.out, hkl])
          have m1 : -4611686018427387904 ≤ sm S k - sm F k := by omega
          have m2 : sm S k - sm F k ≤ 4611686018427387904 := by omega
          clear bf1 bs1 hkl
          generalize sm S k - sm F k = s at m1 m2 HZS' ⊢
          have K5 := Lib.hid (K1.out.trans KR.out)
          go_wp2_with (go_at_call 93; (with_reducible refine (l2Reduce_any _ _ m1 m2 h0' m4 _).mono ?_); rintro e w' ⟨rfl, hk⟩; (try have hkr := Root.trans (by assumption) hk); (first | (have hkf := From.step (by assumption) hk; obtain ⟨hc, hf⟩ := hkf.cells) | (have hkf := From.start hk; obtain ⟨hc, hf⟩ := hkf.cells)))
          go_ret3
          exact ⟨by rw [HX.out.1, HX.out.2, HXO.out, HZS'.out]; rfl, K5.out.trans (by (repeat (first | exact Kept.refl _ | assumption | refine Kept.alloc ?_ _ | refine Kept.drew ?_ | refine Kept.drewN ?_ _ | refine Kept.setCell ?_ (by first | (simp; done) | (simp; omega) | omega | exact Kept.size (by (repeat (first | exact Kept.refl _ | assumption | refine Kept.alloc ?_ _ | refine Kept.drew ?_ | refine Kept.drewN ?_ _ | refine Kept.trans ?_ (by assumption))))) _ | refine Kept.trans ?_ (by assumption))))⟩
    · have h0 : ((T.length : Int) == 0) = true := by rw [beq_iff_eq]; omega
      have hzf : zeOk gs a b = false := by rw [HZO2.out]; simp [hpos]
      have HX := Lib.hid (HNO.out hzf)
      have HXO := Lib.hid hzf
      clear hzf hpos HYES HNO hT
      go_wp2_with fail
      go_ret3
      exact ⟨by rw [HX.out.1, HX.out.2, HXO.out]; rfl, K1.out⟩
theorem lawZeroError (v : Value) (gs : List Gz) (a b : Int) (w : World) (hL : GLies w v gs) (hz : GSized gs) : Calls Try.prog 13 #[v, .int .i64 a, .int .i64 b] w fun e w' => e = .returned (.bool true) ∧ Kept w w' := by
  have HL := Lib.hid hL
  have HZ := Lib.hid hz
  obtain ⟨A, c, rfl, hlc, hcm, hA⟩ := hL
  clear hA hz
  go_enter Try.func13, Try.ntmps13
  go_wp2_with fail
  refine (szGaugeS_any _ _ _ HL.out HZ.out).mono ?_
  rintro e W0 ⟨r, rfl, hr, k0⟩
  by_cases hneg : r < 0
  · go_wp2_with fail
    go_ret
    exact ⟨rfl, by (repeat (first | exact Kept.refl _ | assumption | refine Kept.alloc ?_ _ | refine Kept.drew ?_ | refine Kept.drewN ?_ _ | refine Kept.setCell ?_ (by first | (simp; done) | (simp; omega) | omega | exact Kept.size (by (repeat (first | exact Kept.refl _ | assumption | refine Kept.alloc ?_ _ | refine Kept.drew ?_ | refine Kept.drewN ?_ _ | refine Kept.trans ?_ (by assumption))))) _ | refine Kept.trans ?_ (by assumption)))⟩
  · have hn := hr (by omega)
    clear hr
    go_wp2_with (first | (go_at_call 45; refine (toGaugeS_any _ _ _ (by exact HL.out.kept (by (repeat (first | exact Kept.refl _ | assumption | refine Kept.alloc ?_ _ | refine Kept.drew ?_ | refine Kept.drewN ?_ _ | refine Kept.setCell ?_ (by first | (simp; done) | (simp; omega) | omega | exact Kept.size (by (repeat (first | exact Kept.refl _ | assumption | refine Kept.alloc ?_ _ | refine Kept.drew ?_ | refine Kept.drewN ?_ _ | refine Kept.trans ?_ (by assumption))))) _ | refine Kept.trans ?_ (by assumption))))) hn.1 hn.2).mono ?_; rintro e w1 ⟨u1, rfl, hu1, hk⟩; (try have hkr := Root.trans (by assumption) hk); have hl1 := hu1.lies; clear hu1) | (go_at_call 59; (with_reducible refine (sZeroError_any _ _ _ _ _ (by first | assumption | exact GLies.kept (by assumption) (by (repeat (first | exact Kept.refl _ | assumption | refine Kept.alloc ?_ _ | refine Kept.drew ?_ | refine Kept.drewN ?_ _ | refine Kept.setCell ?_ (by first | (simp; done) | (simp; omega) | omega | exact Kept.size (by (repeat (first | exact Kept.refl _ | assumption | refine Kept.alloc ?_ _ | refine Kept.drew ?_ | refine Kept.drewN ?_ _ | refine Kept.trans ?_ (by assumption))))) _ | refine Kept.trans ?_ (by assumption))))) HZ.out).mono ?_); rintro e w' ⟨rfl, hk⟩; (try have hkr := Root.trans (by assumption) hk); (first | (have hkf := From.step (by assumption) hk; obtain ⟨hc, hf⟩ := hkf.cells) | (have hkf := From.start hk; obtain ⟨hc, hf⟩ := hkf.cells))) | (go_at_call 60; (with_reducible refine (zeroError_any _ _ _ _ _ (by first | assumption | exact GLies.kept (by assumption) (by (repeat (first | exact Kept.refl _ | assumption | refine Kept.alloc ?_ _ | refine Kept.drew ?_ | refine Kept.drewN ?_ _ | refine Kept.setCell ?_ (by first | (simp; done) | (simp; omega) | omega | exact Kept.size (by (repeat (first | exact Kept.refl _ | assumption | refine Kept.alloc ?_ _ | refine Kept.drew ?_ | refine Kept.drewN ?_ _ | refine Kept.trans ?_ (by assumption))))) _ | refine Kept.trans ?_ (by assumption))))) HZ.out).mono ?_); rintro e w' ⟨rfl, hk⟩; (try have hkr := Root.trans (by assumption) hk); (first | (have hkf := From.step (by assumption) hk; obtain ⟨hc, hf⟩ := hkf.cells) | (have hkf := From.start hk; obtain ⟨hc, hf⟩ := hkf.cells))) | (go_at_call 47; (with_reducible refine (eqGaugeS_any _ _ _ _ (by first | assumption | exact GLies.kept (by assumption) (by (repeat (first | exact Kept.refl _ | assumption | refine Kept.alloc ?_ _ | refine Kept.drew ?_ | refine Kept.drewN ?_ _ | refine Kept.setCell ?_ (by first | (simp; done) | (simp; omega) | omega | exact Kept.size (by (repeat (first | exact Kept.refl _ | assumption | refine Kept.alloc ?_ _ | refine Kept.drew ?_ | refine Kept.drewN ?_ _ | refine Kept.trans ?_ (by assumption))))) _ | refine Kept.trans ?_ (by assumption))))) (by first | assumption | exact GLies.kept (by assumption) (by (repeat (first | exact Kept.refl _ | assumption | refine Kept.alloc ?_ _ | refine Kept.drew ?_ | refine Kept.drewN ?_ _ | refine Kept.setCell ?_ (by first | (simp; done) | (simp; omega) | omega | exact Kept.size (by (repeat (first | exact Kept.refl _ | assumption | refine Kept.alloc ?_ _ | refine Kept.drew ?_ | refine Kept.drewN ?_ _ | refine Kept.trans ?_ (by assumption))))) _ | refine Kept.trans ?_ (by assumption)))))).mono ?_); rintro e w' ⟨rfl, hk⟩; (try have hkr := Root.trans (by assumption) hk); (first | (have hkf := From.step (by assumption) hk; obtain ⟨hc, hf⟩ := hkf.cells) | (have hkf := From.start hk; obtain ⟨hc, hf⟩ := hkf.cells))))
    go_ret
    exact ⟨rfl, by (repeat (first | exact Kept.refl _ | assumption | refine Kept.alloc ?_ _ | refine Kept.drew ?_ | refine Kept.drewN ?_ _ | refine Kept.setCell ?_ (by first | (simp; done) | (simp; omega) | omega | exact Kept.size (by (repeat (first | exact Kept.refl _ | assumption | refine Kept.alloc ?_ _ | refine Kept.drew ?_ | refine Kept.drewN ?_ _ | refine Kept.trans ?_ (by assumption))))) _ | refine Kept.trans ?_ (by assumption)))⟩
end Go.Proofs.Ytopdnhlolfehcaa
