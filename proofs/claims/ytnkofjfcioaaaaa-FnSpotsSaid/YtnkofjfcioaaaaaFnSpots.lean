/-
  FnSpots' walk: no spot is nearer than the nearest, all spots lie in their box, the program agrees with the reference.
  Conditions: none.
-/
import Derived.Test.YtnkofjfcioaaaaaDraw4
import Derived.Test.YtnkofjfcioaaaaaDrawB
import Derived.Test.YtnkofjfcioaaaaaBoxOf2
import Derived.Test.YtnkofjfcioaaaaaSpots4
namespace Go.Proofs.Ytnkofjfcioaaaaa
open Go.ChangeShapes Go.WideShapes Go.ChangeAt Go.RowKit
set_option linter.unusedVariables false
set_option linter.unusedSimpArgs false

theorem bestTo_lt (xs : List (Int × Int)) (x y : Int) : ∀ k, 0 < k → bestTo xs x y k < k
  | 0, h => absurd h (by omega)
  | k + 1, _ => by
    rw [bestTo]
    split
    · omega
    · by_cases h0 : 0 < k
      · have := bestTo_lt xs x y k h0
        omega
      · have e : k = 0 := by omega
        subst e
        simp [bestTo]
theorem bestTo_le (xs : List (Int × Int)) (x y : Int) : ∀ k i, i < k → farI xs x y (bestTo xs x y k) ≤ farI xs x y i
  | 0, i, h => absurd h (by omega)
  | k + 1, i, h => by
    rw [bestTo]
    by_cases h0 : i = k
    · subst h0
      split <;> omega
    · have hi := bestTo_le xs x y k i (by omega)
      split <;> omega
/-- The box of the first k spots holds each of them, and lies on the grid. -/
theorem box_holds (xs : List (Int × Int)) (hs : spotsB xs = true) (h0 : 0 < xs.length) : ∀ k, k ≤ xs.length →
    (0 ≤ bxA xs k ∧ bxA xs k ≤ bxC xs k ∧ bxC xs k ≤ 1000 ∧ 0 ≤ bxB xs k ∧ bxB xs k ≤ bxD xs k ∧ bxD xs k ≤ 1000) ∧
    ∀ i, i < k → bxA xs k ≤ P1 xs i ∧ P1 xs i ≤ bxC xs k ∧ bxB xs k ≤ P2 xs i ∧ P2 xs i ≤ bxD xs k
  | 0, _ => by
    have h := spotsB_at hs h0
    simp only [spotB, inB, Bool.and_eq_true, decide_eq_true_eq] at h
    refine ⟨?_, fun i hi => absurd hi (by omega)⟩
    simp only [bxA, bxB, bxC, bxD]
    omega
  | k + 1, hk => by
    obtain ⟨⟨a0, a1, a2, a3, a4, a5⟩, hi⟩ := box_holds xs hs h0 k (by omega)
    have h := spotsB_at hs (show k < xs.length by omega)
    simp only [spotB, inB, Bool.and_eq_true, decide_eq_true_eq] at h
    simp only [bxA, bxB, bxC, bxD, mnI_eq, mxI_eq]
    refine ⟨by omega, fun i hik => ?_⟩
    by_cases e : i = k
    · subst e
      omega
    · have := hi i (by omega)
      omega
theorem box_isB (xs : List (Int × Int)) (hs : spotsB xs = true) (h0 : 0 < xs.length) : boxB (bxA xs xs.length) (bxB xs xs.length) (bxC xs xs.length) (bxD xs xs.length) = true := by
  obtain ⟨⟨a0, a1, a2, a3, a4, a5⟩, -⟩ := box_holds xs hs h0 xs.length (Nat.le_refl _)
  simp only [boxB, spotB, inB, Bool.and_eq_true, decide_eq_true_eq]
  omega
theorem all_in (xs : List (Int × Int)) (hs : spotsB xs = true) (h0 : 0 < xs.length) : (inVal xs (bxA xs xs.length) (bxB xs xs.length) (bxC xs xs.length) (bxD xs xs.length)).length = xs.length := by
  have hb := box_isB xs hs h0
  obtain ⟨-, hi⟩ := box_holds xs hs h0 xs.length (Nat.le_refl _)
  rw [inVal_yes (by simp [inOk, hs, hb]), inTo, List.length_map, List.filter_eq_self.2, List.length_range]
  intro i him
  rw [List.mem_range] at him
  have := hi i him
  simp only [hasB4, inB, Bool.and_eq_true, decide_eq_true_eq]
  omega
theorem near_least (xs : List (Int × Int)) (x y : Int) (hs : spotsB xs = true) (hp : spotB x y = true) (i : Nat) (hi : i < xs.length) :
    sqOk (P1 xs i) (P2 xs i) x y = true ∧ sqOk x y (P1 xs i) (P2 xs i) = true ∧ sqVal x y (P1 xs i) (P2 xs i) = sqVal (P1 xs i) (P2 xs i) x y ∧
    sqVal (P1 xs (bestTo xs x y xs.length)) (P2 xs (bestTo xs x y xs.length)) x y ≤ sqVal (P1 xs i) (P2 xs i) x y := by
  have h1 : sqOk (P1 xs i) (P2 xs i) x y = true := by simp [sqOk, spotsB_at hs hi, hp]
  have h2 : sqOk x y (P1 xs i) (P2 xs i) = true := by simp [sqOk, spotsB_at hs hi, hp]
  have h3 : sqOk (P1 xs (bestTo xs x y xs.length)) (P2 xs (bestTo xs x y xs.length)) x y = true := by simp [sqOk, spotsB_at hs (bestTo_lt xs x y xs.length (by omega)), hp]
  refine ⟨h1, h2, ?_, ?_⟩
  · rw [sqVal, sqVal, if_pos h1, if_pos h2, sqr_symm]
  · rw [sqVal, sqVal, if_pos h1, if_pos h3, sqr_symm, sqr_symm (P1 xs i)]
    exact bestTo_le xs x y xs.length i hi
theorem near_here (xs : List (Int × Int)) (x y : Int) (hs : spotsB xs = true) (hp : spotB x y = true) (h0 : 0 < xs.length) : sqOk (P1 xs (bestTo xs x y xs.length)) (P2 xs (bestTo xs x y xs.length)) x y = true := by
  simp [sqOk, spotsB_at hs (bestTo_lt xs x y xs.length h0), hp]
set_option maxRecDepth 100000 in
set_option maxHeartbeats 4000000 in
theorem lawFnSpots (v : Value) (w : World) (hc : CodeW w v) : Calls Try.prog 11 #[v] w fun e w' => e = .returned (.bool true) ∧ Kept w w' := by
  have HC := Lib.hid hc
  obtain ⟨A, len, cap, rfl, -⟩ := hc
  by_cases hbig : (65536 : Int) < (len : Int)
  · have hd : decide ((65536 : Int) < (len : Int)) = true := by simp [hbig]
    go_enter Try.func11, Try.ntmps11
    go_wp2_with (go_at_call 36; (with_reducible refine (vBig_any _ _ _ _).mono ?_); rintro e w' ⟨rfl, rfl⟩)
    go_ret
    exact ⟨rfl, Kept.refl _⟩
  · have hd : decide ((65536 : Int) < (len : Int)) = false := by simp [hbig]
    go_enter Try.func11, Try.ntmps11
    go_wp2_with (go_at_call 36; (with_reducible refine (vBig_any _ _ _ _).mono ?_); rintro e w' ⟨rfl, rfl⟩)
    refine (drawNearestSpot_any _ _ HC.out).mono ?_
    rintro e d1 ⟨l, xs, x, y, rfl, hx, hl, k1⟩
    have AL : Hid (Kept d1 (d1.alloc (.cells #[.int .i64 x, .int .i64 y] 26))) := Lib.hid (Kept.alloc (Kept.refl _) _)
    have K1 := Lib.hid (k1.trans AL.out)
    have L1 := Lib.hid (hl.kept AL.out)
    have BP := Lib.hid (BoxN.new d1 [.int .i64 x, .int .i64 y] 26)
    have HL := Lib.hid (lies_pairs (hl.kept AL.out))
    obtain ⟨A1, c1, rfl, -, -, -⟩ := lies_pairs hl
    clear k1 hl AL
    go_wp2_with fail
    refine (nearestSpot_any _ xs x y _ L1.out).mono ?_
    rintro e w2 ⟨rfl, k2⟩
    have K2 := Lib.hid k2
    obtain ⟨p0, -, p1, -⟩ := (BP.out.kept k2).two
    clear k2
    go_wp2_with fail
    clear p0 p1
    refine (sNearestSpot_any _ xs x y _ (L1.out.kept K2.out)).mono ?_
    rintro e w3 ⟨rfl, k3⟩
    have K3 := Lib.hid (K2.out.trans k3)
    have L3 := Lib.hid (L1.out.kept K3.out)
    obtain ⟨p0, -, p1, -⟩ := (BP.out.kept K3.out).two
    clear k3 K2
    go_upto_region 6 with fail
    go_cut [77] (fun s77 wx => s77 = .bool false ∧ Root w3 wx)
    case first =>
      have kf1_0 : ∀ w' : World, Root (w3) w' → w'.cell? ⟨d1.heap.size, 0, none⟩ = some (.int .i64 x) := fun w' h => h.keep (by first | assumption | exact (Kept.alloc (Kept.refl _) _).keep (by assumption) | (simp [go_sem]; done) | (simp [go_sem, *]; done))
      have kf1_1 : ∀ w' : World, Root (w3) w' → w'.cell? ⟨d1.heap.size, 1, none⟩ = some (.int .i64 y) := fun w' h => h.keep (by first | assumption | exact (Kept.alloc (Kept.refl _) _).keep (by assumption) | (simp [go_sem]; done) | (simp [go_sem, *]; done))
      refine wp_region_held_drew (S := fun w' => Root (w3) w') (by kernel_rfl) (by (try dsimp only); (first | assumption | exact Root.trans (by assumption) hk | exact Root.drew (Root.refl _) | (repeat (first | exact Root.refl _ | assumption | refine Root.alloc ?_ _ | refine Root.drew ?_ | refine Root.setCell ?_ (by first | (simp; done) | (simp; omega) | omega | exact Root.size (by assumption)) _ | refine Root.trans ?_ (by assumption))))) (fun hHeld => ?_)
      refine wpAnyH_take (i := 0) (v := ?_) rfl (by kernel_rfl) (by kernel_rfl) (by kernel_rfl) (fun _ _ _ h => h) (Or.inl ⟨by kernel_rfl, ?_⟩) (by assumption) ?_
      rotate_left
      focus (intro w hSw; (try dsimp only at hSw); go_simp; (try with_reducible rfl))
      (try simp only [Act.put, List.getElem_toArray, List.getElem_cons_zero, List.getElem_cons_succ, List.setIfInBounds_toArray, List.set_cons_zero, List.set_cons_succ])
      refine wpAnyH_take (i := 1) (v := ?_) rfl (by kernel_rfl) (by kernel_rfl) (by kernel_rfl) (fun _ _ _ h => h) (Or.inl ⟨by kernel_rfl, ?_⟩) (by assumption) ?_
      rotate_left
      focus (intro w hSw; (try dsimp only at hSw); go_simp; (try with_reducible rfl))
      (try simp only [Act.put, List.getElem_toArray, List.getElem_cons_zero, List.getElem_cons_succ, List.setIfInBounds_toArray, List.set_cons_zero, List.set_cons_succ])
      refine wpAnyH_take (i := 2) (v := ?_) rfl (by kernel_rfl) (by kernel_rfl) (by kernel_rfl) (fun _ _ _ h => h) (Or.inl ⟨by kernel_rfl, ?_⟩) (by assumption) ?_
      rotate_left
      focus (intro w hSw; (try dsimp only at hSw); go_simp; (try with_reducible rfl))
      (try simp only [Act.put, List.getElem_toArray, List.getElem_cons_zero, List.getElem_cons_succ, List.setIfInBounds_toArray, List.set_cons_zero, List.set_cons_succ])
      refine wpAnyH_take (i := 3) (v := ?_) rfl (by kernel_rfl) (by kernel_rfl) (by kernel_rfl) (fun _ _ _ h => h) (Or.inl ⟨by kernel_rfl, ?_⟩) (by assumption) ?_
      rotate_left
      focus (intro w hSw; (try dsimp only at hSw); go_simp; (try with_reducible rfl))
      (try simp only [Act.put, List.getElem_toArray, List.getElem_cons_zero, List.getElem_cons_succ, List.setIfInBounds_toArray, List.set_cons_zero, List.set_cons_succ])
      refine wpAnyH_take (i := 4) (v := ?_) rfl (by kernel_rfl) (by kernel_rfl) (by kernel_rfl) (fun _ _ _ h => h) (Or.inl ⟨by kernel_rfl, ?_⟩) (by assumption) ?_
      rotate_left
      focus (intro w hSw; (try dsimp only at hSw); go_simp; (try with_reducible rfl))
      (try simp only [Act.put, List.getElem_toArray, List.getElem_cons_zero, List.getElem_cons_succ, List.setIfInBounds_toArray, List.set_cons_zero, List.set_cons_succ])
      refine wpAnyH_take (i := 5) (v := ?_) rfl (by kernel_rfl) (by kernel_rfl) (by kernel_rfl) (fun _ _ _ h => h) (Or.inl ⟨by kernel_rfl, ?_⟩) (by assumption) ?_
      rotate_left
      focus (intro w hSw; (try dsimp only at hSw); go_simp; (try with_reducible rfl))
      (try simp only [Act.put, List.getElem_toArray, List.getElem_cons_zero, List.getElem_cons_succ, List.setIfInBounds_toArray, List.set_cons_zero, List.set_cons_succ])
      refine wpAnyH_take (i := 6) (v := ?_) rfl (by kernel_rfl) (by kernel_rfl) (by kernel_rfl) (fun _ _ _ h => h) (Or.inl ⟨by kernel_rfl, ?_⟩) (by assumption) ?_
      rotate_left
      focus (intro w hSw; (try dsimp only at hSw); go_simp; (try with_reducible rfl))
      (try simp only [Act.put, List.getElem_toArray, List.getElem_cons_zero, List.getElem_cons_succ, List.setIfInBounds_toArray, List.set_cons_zero, List.set_cons_succ])
      refine wpAnyH_take (i := 7) (v := ?_) rfl (by kernel_rfl) (by kernel_rfl) (by kernel_rfl) (fun _ _ _ h => h) (Or.inl ⟨by kernel_rfl, ?_⟩) (by assumption) ?_
      rotate_left
      focus (intro w hSw; (try dsimp only at hSw); go_simp; (try with_reducible rfl))
      (try simp only [Act.put, List.getElem_toArray, List.getElem_cons_zero, List.getElem_cons_succ, List.setIfInBounds_toArray, List.set_cons_zero, List.set_cons_succ])
      refine wpAnyH_take (i := 8) (v := ?_) rfl (by kernel_rfl) (by kernel_rfl) (by kernel_rfl) (fun _ _ _ h => h) (Or.inl ⟨by kernel_rfl, ?_⟩) (by assumption) ?_
      rotate_left
      focus (intro w hSw; (try dsimp only at hSw); go_simp; (try with_reducible rfl))
      (try simp only [Act.put, List.getElem_toArray, List.getElem_cons_zero, List.getElem_cons_succ, List.setIfInBounds_toArray, List.set_cons_zero, List.set_cons_succ])
      refine wpAnyH_take (i := 9) (v := ?_) rfl (by kernel_rfl) (by kernel_rfl) (by kernel_rfl) (fun _ _ _ h => h) (Or.inl ⟨by kernel_rfl, ?_⟩) (by assumption) ?_
      rotate_left
      focus (intro w hSw; (try dsimp only at hSw); go_simp; (try with_reducible rfl))
      (try simp only [Act.put, List.getElem_toArray, List.getElem_cons_zero, List.getElem_cons_succ, List.setIfInBounds_toArray, List.set_cons_zero, List.set_cons_succ])
      refine wpAnyH_take (i := 11) (v := ?_) rfl (by kernel_rfl) (by kernel_rfl) (by kernel_rfl) (fun _ _ _ h => h) (Or.inl ⟨by kernel_rfl, ?_⟩) (by assumption) ?_
      rotate_left
      focus (intro w hSw; (try dsimp only at hSw); go_simp; (try with_reducible rfl))
      (try simp only [Act.put, List.getElem_toArray, List.getElem_cons_zero, List.getElem_cons_succ, List.setIfInBounds_toArray, List.set_cons_zero, List.set_cons_succ])
      refine wpAnyH_ready (rs := [10]) (by kernel_rfl) (by simp) ?_
      refine AllReadyH.cons rfl (fun K hK => ?_) AllReadyH.nil
      go_simp
      (first | (go_at_call 24; refine (areSpots_any _ _ _ (by exact L3.out.kept (by (repeat (first | exact Kept.refl _ | assumption | refine Kept.alloc ?_ _ | refine Kept.drew ?_ | refine Kept.drewN ?_ _ | refine Kept.setCell ?_ (by first | (simp; done) | (simp; omega) | omega | exact Kept.size (by (repeat (first | exact Kept.refl _ | assumption | refine Kept.alloc ?_ _ | refine Kept.drew ?_ | refine Kept.drewN ?_ _ | refine Kept.trans ?_ (by assumption))))) _ | refine Kept.trans ?_ (by assumption)))))).mono ?_; rintro e w1 ⟨rfl, hk⟩; (have hkr := Root.trans (by assumption) hk); (first | (have hkf := From.step (by assumption) hk; obtain ⟨hc, hf⟩ := hkf.cells) | (have hkf := From.start hk; obtain ⟨hc, hf⟩ := hkf.cells))) | (go_at_call 22; refine (sAreSpots_any _ _ _ (by exact L3.out.kept (by (repeat (first | exact Kept.refl _ | assumption | refine Kept.alloc ?_ _ | refine Kept.drew ?_ | refine Kept.drewN ?_ _ | refine Kept.setCell ?_ (by first | (simp; done) | (simp; omega) | omega | exact Kept.size (by (repeat (first | exact Kept.refl _ | assumption | refine Kept.alloc ?_ _ | refine Kept.drew ?_ | refine Kept.drewN ?_ _ | refine Kept.trans ?_ (by assumption))))) _ | refine Kept.trans ?_ (by assumption)))))).mono ?_; rintro e w1 ⟨rfl, hk⟩; (have hkr := Root.trans (by assumption) hk); (first | (have hkf := From.step (by assumption) hk; obtain ⟨hc, hf⟩ := hkf.cells) | (have hkf := From.start hk; obtain ⟨hc, hf⟩ := hkf.cells))) | (go_at_call 44; refine (isSpot_any _ _ _).mono ?_; rintro e w1 ⟨rfl, hk⟩; (have hkr := Root.trans (by assumption) hk); (first | (have hkf := From.step (by assumption) hk; obtain ⟨hc, hf⟩ := hkf.cells) | (have hkf := From.start hk; obtain ⟨hc, hf⟩ := hkf.cells))) | (go_at_call 45; refine (sIsSpot_any _ _ _).mono ?_; rintro e w1 ⟨rfl, hk⟩; (have hkr := Root.trans (by assumption) hk); (first | (have hkf := From.step (by assumption) hk; obtain ⟨hc, hf⟩ := hkf.cells) | (have hkf := From.start hk; obtain ⟨hc, hf⟩ := hkf.cells))))
      (try go_wp2_with fail)
      refine hK.out _ _ (by (try dsimp only); (first | assumption | exact Root.trans (by assumption) hk | exact Root.drew (Root.refl _) | (repeat (first | exact Root.refl _ | assumption | refine Root.alloc ?_ _ | refine Root.drew ?_ | refine Root.setCell ?_ (by first | (simp; done) | (simp; omega) | omega | exact Root.size (by assumption)) _ | refine Root.trans ?_ (by assumption))))) (fun hHeld => ?_)
      clear hK K
      (try simp only [Act.put, List.getElem_toArray, List.getElem_cons_zero, List.getElem_cons_succ, List.setIfInBounds_toArray, List.set_cons_zero, List.set_cons_succ])
      refine wpAnyH_ready (rs := [12]) (by kernel_rfl) (by simp) ?_
      refine AllReadyH.cons rfl (fun K hK => ?_) AllReadyH.nil
      go_simp
      (first | (go_at_call 24; refine (areSpots_any _ _ _ (by exact L3.out.kept (by (repeat (first | exact Kept.refl _ | assumption | refine Kept.alloc ?_ _ | refine Kept.drew ?_ | refine Kept.drewN ?_ _ | refine Kept.setCell ?_ (by first | (simp; done) | (simp; omega) | omega | exact Kept.size (by (repeat (first | exact Kept.refl _ | assumption | refine Kept.alloc ?_ _ | refine Kept.drew ?_ | refine Kept.drewN ?_ _ | refine Kept.trans ?_ (by assumption))))) _ | refine Kept.trans ?_ (by assumption)))))).mono ?_; rintro e w1 ⟨rfl, hk⟩; (have hkr := Root.trans (by assumption) hk); (first | (have hkf := From.step (by assumption) hk; obtain ⟨hc, hf⟩ := hkf.cells) | (have hkf := From.start hk; obtain ⟨hc, hf⟩ := hkf.cells))) | (go_at_call 22; refine (sAreSpots_any _ _ _ (by exact L3.out.kept (by (repeat (first | exact Kept.refl _ | assumption | refine Kept.alloc ?_ _ | refine Kept.drew ?_ | refine Kept.drewN ?_ _ | refine Kept.setCell ?_ (by first | (simp; done) | (simp; omega) | omega | exact Kept.size (by (repeat (first | exact Kept.refl _ | assumption | refine Kept.alloc ?_ _ | refine Kept.drew ?_ | refine Kept.drewN ?_ _ | refine Kept.trans ?_ (by assumption))))) _ | refine Kept.trans ?_ (by assumption)))))).mono ?_; rintro e w1 ⟨rfl, hk⟩; (have hkr := Root.trans (by assumption) hk); (first | (have hkf := From.step (by assumption) hk; obtain ⟨hc, hf⟩ := hkf.cells) | (have hkf := From.start hk; obtain ⟨hc, hf⟩ := hkf.cells))) | (go_at_call 44; refine (isSpot_any _ _ _).mono ?_; rintro e w1 ⟨rfl, hk⟩; (have hkr := Root.trans (by assumption) hk); (first | (have hkf := From.step (by assumption) hk; obtain ⟨hc, hf⟩ := hkf.cells) | (have hkf := From.start hk; obtain ⟨hc, hf⟩ := hkf.cells))) | (go_at_call 45; refine (sIsSpot_any _ _ _).mono ?_; rintro e w1 ⟨rfl, hk⟩; (have hkr := Root.trans (by assumption) hk); (first | (have hkf := From.step (by assumption) hk; obtain ⟨hc, hf⟩ := hkf.cells) | (have hkf := From.start hk; obtain ⟨hc, hf⟩ := hkf.cells))))
      (try go_wp2_with fail)
      refine hK.out _ _ (by (try dsimp only); (first | assumption | exact Root.trans (by assumption) hk | exact Root.drew (Root.refl _) | (repeat (first | exact Root.refl _ | assumption | refine Root.alloc ?_ _ | refine Root.drew ?_ | refine Root.setCell ?_ (by first | (simp; done) | (simp; omega) | omega | exact Root.size (by assumption)) _ | refine Root.trans ?_ (by assumption))))) (fun hHeld => ?_)
      clear hK K
      (try simp only [Act.put, List.getElem_toArray, List.getElem_cons_zero, List.getElem_cons_succ, List.setIfInBounds_toArray, List.set_cons_zero, List.set_cons_succ])
      refine wpAnyH_take (i := 13) (v := ?_) rfl (by kernel_rfl) (by kernel_rfl) (by kernel_rfl) (fun _ _ _ h => h) (Or.inl ⟨by kernel_rfl, ?_⟩) (by assumption) ?_
      rotate_left
      focus (intro w hSw; (try dsimp only at hSw); go_simp; (try with_reducible rfl))
      (try simp only [Act.put, List.getElem_toArray, List.getElem_cons_zero, List.getElem_cons_succ, List.setIfInBounds_toArray, List.set_cons_zero, List.set_cons_succ])
      refine wpAnyH_take (i := 14) (v := ?_) rfl (by kernel_rfl) (by kernel_rfl) (by kernel_rfl) (fun _ _ _ h => h) (Or.inl ⟨by kernel_rfl, ?_⟩) (by assumption) ?_
      rotate_left
      focus (intro w hSw; (try dsimp only at hSw); go_simp; (try with_reducible rfl))
      (try simp only [Act.put, List.getElem_toArray, List.getElem_cons_zero, List.getElem_cons_succ, List.setIfInBounds_toArray, List.set_cons_zero, List.set_cons_succ])
      refine wpAnyH_take (i := 15) (v := ?_) rfl (by kernel_rfl) (by kernel_rfl) (by kernel_rfl) (fun _ _ _ h => h) (Or.inl ⟨by kernel_rfl, ?_⟩) (by assumption) ?_
      rotate_left
      focus (intro w hSw; (try dsimp only at hSw); go_simp; (try with_reducible rfl))
      (try simp only [Act.put, List.getElem_toArray, List.getElem_cons_zero, List.getElem_cons_succ, List.setIfInBounds_toArray, List.set_cons_zero, List.set_cons_succ])
      refine wpAnyH_take (i := 16) (v := ?_) rfl (by kernel_rfl) (by kernel_rfl) (by kernel_rfl) (fun _ _ _ h => h) (Or.inl ⟨by kernel_rfl, ?_⟩) (by assumption) ?_
      rotate_left
      focus (intro w hSw; (try dsimp only at hSw); go_simp; (try with_reducible rfl))
      (try simp only [Act.put, List.getElem_toArray, List.getElem_cons_zero, List.getElem_cons_succ, List.setIfInBounds_toArray, List.set_cons_zero, List.set_cons_succ])
      refine wpAnyH_take (i := 18) (v := ?_) rfl (by kernel_rfl) (by kernel_rfl) (by kernel_rfl) (fun _ _ _ h => h) (Or.inl ⟨by kernel_rfl, ?_⟩) (by assumption) ?_
      rotate_left
      focus (intro w hSw; (try dsimp only at hSw); go_simp; (try with_reducible rfl))
      (try simp only [Act.put, List.getElem_toArray, List.getElem_cons_zero, List.getElem_cons_succ, List.setIfInBounds_toArray, List.set_cons_zero, List.set_cons_succ])
      refine wpAnyH_ready (rs := [17]) (by kernel_rfl) (by simp) ?_
      refine AllReadyH.cons rfl (fun K hK => ?_) AllReadyH.nil
      go_simp
      (first | (go_at_call 24; refine (areSpots_any _ _ _ (by exact L3.out.kept (by (repeat (first | exact Kept.refl _ | assumption | refine Kept.alloc ?_ _ | refine Kept.drew ?_ | refine Kept.drewN ?_ _ | refine Kept.setCell ?_ (by first | (simp; done) | (simp; omega) | omega | exact Kept.size (by (repeat (first | exact Kept.refl _ | assumption | refine Kept.alloc ?_ _ | refine Kept.drew ?_ | refine Kept.drewN ?_ _ | refine Kept.trans ?_ (by assumption))))) _ | refine Kept.trans ?_ (by assumption)))))).mono ?_; rintro e w1 ⟨rfl, hk⟩; (have hkr := Root.trans (by assumption) hk); (first | (have hkf := From.step (by assumption) hk; obtain ⟨hc, hf⟩ := hkf.cells) | (have hkf := From.start hk; obtain ⟨hc, hf⟩ := hkf.cells))) | (go_at_call 22; refine (sAreSpots_any _ _ _ (by exact L3.out.kept (by (repeat (first | exact Kept.refl _ | assumption | refine Kept.alloc ?_ _ | refine Kept.drew ?_ | refine Kept.drewN ?_ _ | refine Kept.setCell ?_ (by first | (simp; done) | (simp; omega) | omega | exact Kept.size (by (repeat (first | exact Kept.refl _ | assumption | refine Kept.alloc ?_ _ | refine Kept.drew ?_ | refine Kept.drewN ?_ _ | refine Kept.trans ?_ (by assumption))))) _ | refine Kept.trans ?_ (by assumption)))))).mono ?_; rintro e w1 ⟨rfl, hk⟩; (have hkr := Root.trans (by assumption) hk); (first | (have hkf := From.step (by assumption) hk; obtain ⟨hc, hf⟩ := hkf.cells) | (have hkf := From.start hk; obtain ⟨hc, hf⟩ := hkf.cells))) | (go_at_call 44; refine (isSpot_any _ _ _).mono ?_; rintro e w1 ⟨rfl, hk⟩; (have hkr := Root.trans (by assumption) hk); (first | (have hkf := From.step (by assumption) hk; obtain ⟨hc, hf⟩ := hkf.cells) | (have hkf := From.start hk; obtain ⟨hc, hf⟩ := hkf.cells))) | (go_at_call 45; refine (sIsSpot_any _ _ _).mono ?_; rintro e w1 ⟨rfl, hk⟩; (have hkr := Root.trans (by assumption) hk); (first | (have hkf := From.step (by assumption) hk; obtain ⟨hc, hf⟩ := hkf.cells) | (have hkf := From.start hk; obtain ⟨hc, hf⟩ := hkf.cells))))
      (try go_wp2_with fail)
      refine hK.out _ _ (by (try dsimp only); (first | assumption | exact Root.trans (by assumption) hk | exact Root.drew (Root.refl _) | (repeat (first | exact Root.refl _ | assumption | refine Root.alloc ?_ _ | refine Root.drew ?_ | refine Root.setCell ?_ (by first | (simp; done) | (simp; omega) | omega | exact Root.size (by assumption)) _ | refine Root.trans ?_ (by assumption))))) (fun hHeld => ?_)
      clear hK K
      (try simp only [Act.put, List.getElem_toArray, List.getElem_cons_zero, List.getElem_cons_succ, List.setIfInBounds_toArray, List.set_cons_zero, List.set_cons_succ])
      refine wpAnyH_ready (rs := [19]) (by kernel_rfl) (by simp) ?_
      refine AllReadyH.cons rfl (fun K hK => ?_) AllReadyH.nil
      go_simp
      (first | (go_at_call 24; refine (areSpots_any _ _ _ (by exact L3.out.kept (by (repeat (first | exact Kept.refl _ | assumption | refine Kept.alloc ?_ _ | refine Kept.drew ?_ | refine Kept.drewN ?_ _ | refine Kept.setCell ?_ (by first | (simp; done) | (simp; omega) | omega | exact Kept.size (by (repeat (first | exact Kept.refl _ | assumption | refine Kept.alloc ?_ _ | refine Kept.drew ?_ | refine Kept.drewN ?_ _ | refine Kept.trans ?_ (by assumption))))) _ | refine Kept.trans ?_ (by assumption)))))).mono ?_; rintro e w1 ⟨rfl, hk⟩; (have hkr := Root.trans (by assumption) hk); (first | (have hkf := From.step (by assumption) hk; obtain ⟨hc, hf⟩ := hkf.cells) | (have hkf := From.start hk; obtain ⟨hc, hf⟩ := hkf.cells))) | (go_at_call 22; refine (sAreSpots_any _ _ _ (by exact L3.out.kept (by (repeat (first | exact Kept.refl _ | assumption | refine Kept.alloc ?_ _ | refine Kept.drew ?_ | refine Kept.drewN ?_ _ | refine Kept.setCell ?_ (by first | (simp; done) | (simp; omega) | omega | exact Kept.size (by (repeat (first | exact Kept.refl _ | assumption | refine Kept.alloc ?_ _ | refine Kept.drew ?_ | refine Kept.drewN ?_ _ | refine Kept.trans ?_ (by assumption))))) _ | refine Kept.trans ?_ (by assumption)))))).mono ?_; rintro e w1 ⟨rfl, hk⟩; (have hkr := Root.trans (by assumption) hk); (first | (have hkf := From.step (by assumption) hk; obtain ⟨hc, hf⟩ := hkf.cells) | (have hkf := From.start hk; obtain ⟨hc, hf⟩ := hkf.cells))) | (go_at_call 44; refine (isSpot_any _ _ _).mono ?_; rintro e w1 ⟨rfl, hk⟩; (have hkr := Root.trans (by assumption) hk); (first | (have hkf := From.step (by assumption) hk; obtain ⟨hc, hf⟩ := hkf.cells) | (have hkf := From.start hk; obtain ⟨hc, hf⟩ := hkf.cells))) | (go_at_call 45; refine (sIsSpot_any _ _ _).mono ?_; rintro e w1 ⟨rfl, hk⟩; (have hkr := Root.trans (by assumption) hk); (first | (have hkf := From.step (by assumption) hk; obtain ⟨hc, hf⟩ := hkf.cells) | (have hkf := From.start hk; obtain ⟨hc, hf⟩ := hkf.cells))))
      (try go_wp2_with fail)
      refine hK.out _ _ (by (try dsimp only); (first | assumption | exact Root.trans (by assumption) hk | exact Root.drew (Root.refl _) | (repeat (first | exact Root.refl _ | assumption | refine Root.alloc ?_ _ | refine Root.drew ?_ | refine Root.setCell ?_ (by first | (simp; done) | (simp; omega) | omega | exact Root.size (by assumption)) _ | refine Root.trans ?_ (by assumption))))) (fun hHeld => ?_)
      clear hK K
      (try simp only [Act.put, List.getElem_toArray, List.getElem_cons_zero, List.getElem_cons_succ, List.setIfInBounds_toArray, List.set_cons_zero, List.set_cons_succ])
      refine wpAnyH_take (i := 20) (v := ?_) rfl (by kernel_rfl) (by kernel_rfl) (by kernel_rfl) (fun _ _ _ h => h) (Or.inl ⟨by kernel_rfl, ?_⟩) (by assumption) ?_
      rotate_left
      focus (intro w hSw; (try dsimp only at hSw); go_simp; (try with_reducible rfl))
      (try simp only [Act.put, List.getElem_toArray, List.getElem_cons_zero, List.getElem_cons_succ, List.setIfInBounds_toArray, List.set_cons_zero, List.set_cons_succ])
      refine wpAnyH_take (i := 21) (v := ?_) rfl (by kernel_rfl) (by kernel_rfl) (by kernel_rfl) (fun _ _ _ h => h) (Or.inl ⟨by kernel_rfl, ?_⟩) (by assumption) ?_
      rotate_left
      focus (intro w hSw; (try dsimp only at hSw); go_simp; (try with_reducible rfl))
      (try simp only [Act.put, List.getElem_toArray, List.getElem_cons_zero, List.getElem_cons_succ, List.setIfInBounds_toArray, List.set_cons_zero, List.set_cons_succ])
      refine wpAnyH_done (by kernel_rfl) ?_ _
      all_goals go_wp2_with fail
      all_goals (go_meet; exact ⟨rfl, by first | assumption | exact Root.trans (by assumption) hk | exact Root.drew (Root.refl _) | (repeat (first | exact Root.refl _ | assumption | refine Root.alloc ?_ _ | refine Root.drew ?_ | refine Root.setCell ?_ (by first | (simp; done) | (simp; omega) | omega | exact Root.size (by assumption)) _ | refine Root.trans ?_ (by assumption)))⟩)
    case rest =>
      obtain ⟨rfl, r3⟩ := hcut
      have KK := Lib.hid (K3.out.trans r3.kept)
      have LC := Lib.hid (L1.out.kept KK.out)
      have BC := Lib.hid (BP.out.kept KK.out)
      have KC := Lib.hid (K1.out.trans KK.out)
      clear p0 p1 r3 K3 L3
      go_upto_if 78 with fail
      go_cut [5, 6, 7, 8] (fun _ _ _ _ wx => Kept w wx)
      case first =>
        cases hok : nearOk xs x y
        · clear HL L1 BP KK LC BC K1
          go_wp2_with fail
          go_meet
          exact KC.out
        · obtain ⟨hs, hp, h0⟩ : spotsB xs = true ∧ spotB x y = true ∧ 0 < xs.length := by simpa [nearOk, and_assoc] using hok
          have e0 : nearVal xs x y = ((bestTo xs x y xs.length : Nat) : Int) := by rw [nearVal, if_pos hok]
          have hm := bestTo_lt xs x y xs.length h0
          have HNL := Lib.hid (near_least xs x y hs hp)
          have hS0 := Lib.hid (fun W => squareBetween_any (P1 xs (bestTo xs x y xs.length)) (P2 xs (bestTo xs x y xs.length)) x y W)
          rw [near_here xs x y hs hp h0] at hS0
          have hB0 := Lib.hid (fun W (hL : Lies W 2 pairC (.slice A1 xs.length c1) xs) => boxOf_any (.slice A1 xs.length c1) xs W hL)
          have hbo : boOk xs = true := by simp [boOk, hs, h0]
          have hbv : boV xs = .tuple #[.agg #[.int .i64 (bxA xs xs.length), .int .i64 (bxB xs xs.length), .int .i64 (bxC xs xs.length), .int .i64 (bxD xs xs.length)], .bool true] := by unfold boV; rw [hbo]; rfl
          rw [hbv] at hB0
          have hbb := box_isB xs hs h0
          have hin := all_in xs hs h0
          have hio : inOk xs (bxA xs xs.length) (bxB xs xs.length) (bxC xs xs.length) (bxD xs xs.length) = true := by simp [inOk, hs, hbb]
          generalize bxA xs xs.length = o0 at hB0 hbb hin hio
          generalize bxB xs xs.length = o1 at hB0 hbb hin hio
          generalize bxC xs xs.length = o2 at hB0 hbb hin hio
          generalize bxD xs xs.length = o3 at hB0 hbb hin hio
          rw [e0]
          generalize bestTo xs x y xs.length = m at hm HNL hS0 ⊢
          generalize sqVal (P1 xs m) (P2 xs m) x y = t at HNL hS0
          obtain ⟨A1', c1', hA1, hlc, hcm, hcell⟩ := HL.out
          obtain ⟨b, off, rfl, hcl⟩ := hcell h0
          injection hA1 with hA1 _ hA2
          subst hA1 hA2
          have HCL := Lib.hid hcl
          clear hcl hcell hbo hbv hs hp hok e0 HL
          obtain ⟨p0, -, p1, -⟩ := BC.out.two
          have q0 := KK.out.keep (HCL.out m hm).1
          have q1 := KK.out.keep (HCL.out m hm).2
          have m0 : (0 : Int) ≤ (m : Int) := by omega
          have m1 : (m : Int) < (xs.length : Int) := by omega
          go_wp2_with fail
          have kf2_0 : ∀ w' : World, Root (wc) w' → w'.cell? ⟨d1.heap.size, 0, none⟩ = some (.int .i64 x) := fun w' h => h.keep (by first | assumption | exact (Kept.alloc (Kept.refl _) _).keep (by assumption) | (simp [go_sem]; done) | (simp [go_sem, *]; done))
          have kf2_1 : ∀ w' : World, Root (wc) w' → w'.cell? ⟨d1.heap.size, 1, none⟩ = some (.int .i64 y) := fun w' h => h.keep (by first | assumption | exact (Kept.alloc (Kept.refl _) _).keep (by assumption) | (simp [go_sem]; done) | (simp [go_sem, *]; done))
          have kf2_2 : ∀ w' : World, Root (wc) w' → w'.cell? ⟨b, off + m * 2, none⟩ = some (.int .i64 (P1 xs m)) := fun w' h => h.keep (by first | assumption | exact (Kept.alloc (Kept.refl _) _).keep (by assumption) | (simp [go_sem]; done) | (simp [go_sem, *]; done))
          have kf2_3 : ∀ w' : World, Root (wc) w' → w'.cell? ⟨b, off + m * 2 + 1, none⟩ = some (.int .i64 (P2 xs m)) := fun w' h => h.keep (by first | assumption | exact (Kept.alloc (Kept.refl _) _).keep (by assumption) | (simp [go_sem]; done) | (simp [go_sem, *]; done))
          go_region_held3 (fun w' => Root (wc) w')
            (first | assumption | exact Root.trans (by assumption) hk | exact Root.drew (Root.refl _) | (repeat (first | exact Root.refl _ | assumption | refine Root.alloc ?_ _ | refine Root.drew ?_ | refine Root.setCell ?_ (by first | (simp; done) | (simp; omega) | omega | exact Root.size (by assumption)) _ | refine Root.trans ?_ (by assumption))))
            (first | (go_at_call 42; refine (hS0.out _).mono ?_; rintro e w1 ⟨rfl, hk⟩; (have hkr := Root.trans (by assumption) hk); (first | (have hkf := From.step (by assumption) hk; obtain ⟨hc, hf⟩ := hkf.cells) | (have hkf := From.start hk; obtain ⟨hc, hf⟩ := hkf.cells))))
          have K4 := Lib.hid hkr.kept
          clear hk hkr hc hf hkf p0 p1 q0 q1
          go_wp2_with fail
          refine (hB0.out _ (LC.out.kept K4.out)).mono ?_
          rintro e w5 ⟨rfl, k5⟩
          have K5 := Lib.hid (K4.out.trans (k5.trans (Kept.alloc (Kept.refl w5) (.cells #[.int .i64 o0, .int .i64 o1, .int .i64 o2, .int .i64 o3] 33))))
          have BO := Lib.hid (BoxN.new w5 [.int .i64 o0, .int .i64 o1, .int .i64 o2, .int .i64 o3] 33)
          obtain ⟨a0, -, a1, -, a2, -, a3, -⟩ := BO.out.four
          clear k5
          go_wp2_with fail
          clear a0 a1 a2 a3
          refine (spotsIn_any _ xs o0 o1 o2 o3 _ (LC.out.kept K5.out)).mono ?_
          rintro e w6 ⟨u, rfl, hou, k6⟩
          rw [hin] at hou
          rw [hio]
          obtain ⟨Au, cu, rfl, -, -, -⟩ := own_form hou
          have K6 := Lib.hid (K5.out.trans k6)
          obtain ⟨a0, -, a1, -, a2, -, a3, -⟩ := (BO.out.kept k6).four
          clear hou k6
          go_wp2_with fail
          refine (isBox_any o0 o1 o2 o3 _).mono ?_
          rintro e w7 ⟨rfl, k7⟩
          rw [hbb]
          have K7 := Lib.hid (K6.out.trans k7)
          clear k7
          go_wp2_with fail
          clear a0 a1 a2 a3
          go_loopw [15] (fun i wr => ∃ k : Nat, k ≤ xs.length ∧ i = .int .i64 (k : Int) ∧ Kept wc wr) (fun i _ => xs.length - (intOf i).toNat)
          case atStart => exact ⟨0, by omega, rfl, K7.out⟩
          case round =>
            obtain ⟨k, hk, rfl, hkw⟩ := hrel
            by_cases hlt : k < xs.length
            · obtain ⟨n1, n2, n3, n4⟩ := HNL.out k hlt
              have hI := Lib.hid (fun W => squareBetween_any (P1 xs k) (P2 xs k) x y W)
              have hJ := Lib.hid (fun W => squareBetween_any x y (P1 xs k) (P2 xs k) W)
              rw [n1] at hI
              rw [n2, n3] at hJ
              clear n1 n2 n3
              generalize sqVal (P1 xs k) (P2 xs k) x y = s at hI hJ n4
              have hds : decide (s < t) = false := by simp; omega
              obtain ⟨p0, -, p1, -⟩ := (BC.out.kept hkw).two
              have q0 := hkw.keep (KK.out.keep (HCL.out k hlt).1)
              have q1 := hkw.keep (KK.out.keep (HCL.out k hlt).2)
              have k0 : (0 : Int) ≤ (k : Int) := by omega
              have k1 : (k : Int) < (xs.length : Int) := by omega
              go_wp2_with fail
              have kf3_0 : ∀ w' : World, Root (wr) w' → w'.cell? ⟨d1.heap.size, 0, none⟩ = some (.int .i64 x) := fun w' h => h.keep (by first | assumption | exact (Kept.alloc (Kept.refl _) _).keep (by assumption) | (simp [go_sem]; done) | (simp [go_sem, *]; done))
              have kf3_1 : ∀ w' : World, Root (wr) w' → w'.cell? ⟨d1.heap.size, 1, none⟩ = some (.int .i64 y) := fun w' h => h.keep (by first | assumption | exact (Kept.alloc (Kept.refl _) _).keep (by assumption) | (simp [go_sem]; done) | (simp [go_sem, *]; done))
              have kf3_2 : ∀ w' : World, Root (wr) w' → w'.cell? ⟨b, off + k * 2, none⟩ = some (.int .i64 (P1 xs k)) := fun w' h => h.keep (by first | assumption | exact (Kept.alloc (Kept.refl _) _).keep (by assumption) | (simp [go_sem]; done) | (simp [go_sem, *]; done))
              have kf3_3 : ∀ w' : World, Root (wr) w' → w'.cell? ⟨b, off + k * 2 + 1, none⟩ = some (.int .i64 (P2 xs k)) := fun w' h => h.keep (by first | assumption | exact (Kept.alloc (Kept.refl _) _).keep (by assumption) | (simp [go_sem]; done) | (simp [go_sem, *]; done))
              go_region_held3 (fun w' => Root (wr) w')
                (first | assumption | exact Root.trans (by assumption) hk | exact Root.drew (Root.refl _) | (repeat (first | exact Root.refl _ | assumption | refine Root.alloc ?_ _ | refine Root.drew ?_ | refine Root.setCell ?_ (by first | (simp; done) | (simp; omega) | omega | exact Root.size (by assumption)) _ | refine Root.trans ?_ (by assumption))))
                (first | (go_at_call 42; refine (hI.out _).mono ?_; rintro e w1 ⟨rfl, hk⟩; (have hkr := Root.trans (by assumption) hk); (first | (have hkf := From.step (by assumption) hk; obtain ⟨hc, hf⟩ := hkf.cells) | (have hkf := From.start hk; obtain ⟨hc, hf⟩ := hkf.cells))))
              have K8 := Lib.hid hkr.kept
              clear hk hkr hc hf hkf p0 p1 q0 q1
              obtain ⟨p0, -, p1, -⟩ := (BC.out.kept (hkw.trans K8.out)).two
              have q0 := K8.out.keep (hkw.keep (KK.out.keep (HCL.out k hlt).1))
              have q1 := K8.out.keep (hkw.keep (KK.out.keep (HCL.out k hlt).2))
              go_wp2_with fail
              have kf4_0 : ∀ w' : World, Root (w1) w' → w'.cell? ⟨d1.heap.size, 0, none⟩ = some (.int .i64 x) := fun w' h => h.keep (by first | assumption | exact (Kept.alloc (Kept.refl _) _).keep (by assumption) | (simp [go_sem]; done) | (simp [go_sem, *]; done))
              have kf4_1 : ∀ w' : World, Root (w1) w' → w'.cell? ⟨d1.heap.size, 1, none⟩ = some (.int .i64 y) := fun w' h => h.keep (by first | assumption | exact (Kept.alloc (Kept.refl _) _).keep (by assumption) | (simp [go_sem]; done) | (simp [go_sem, *]; done))
              have kf4_2 : ∀ w' : World, Root (w1) w' → w'.cell? ⟨b, off + k * 2, none⟩ = some (.int .i64 (P1 xs k)) := fun w' h => h.keep (by first | assumption | exact (Kept.alloc (Kept.refl _) _).keep (by assumption) | (simp [go_sem]; done) | (simp [go_sem, *]; done))
              have kf4_3 : ∀ w' : World, Root (w1) w' → w'.cell? ⟨b, off + k * 2 + 1, none⟩ = some (.int .i64 (P2 xs k)) := fun w' h => h.keep (by first | assumption | exact (Kept.alloc (Kept.refl _) _).keep (by assumption) | (simp [go_sem]; done) | (simp [go_sem, *]; done))
              go_region_held3 (fun w' => Root (w1) w')
                (first | assumption | exact Root.trans (by assumption) hk | exact Root.drew (Root.refl _) | (repeat (first | exact Root.refl _ | assumption | refine Root.alloc ?_ _ | refine Root.drew ?_ | refine Root.setCell ?_ (by first | (simp; done) | (simp; omega) | omega | exact Root.size (by assumption)) _ | refine Root.trans ?_ (by assumption))))
                (first | (go_at_call 42; refine (hJ.out _).mono ?_; rintro e w1 ⟨rfl, hk⟩; (have hkr := Root.trans (by assumption) hk); (first | (have hkf := From.step (by assumption) hk; obtain ⟨hc, hf⟩ := hkf.cells) | (have hkf := From.start hk; obtain ⟨hc, hf⟩ := hkf.cells))))
              have K9 := Lib.hid (hkw.trans (K8.out.trans hkr.kept))
              clear hk hkr hc hf hkf p0 p1 q0 q1
              go_wp2_with fail
              go_roundw
              case rel => exact ⟨k + 1, by omega, by go_num, K9.out⟩
              case measure => simp [intOf]; omega
            · go_wp2_with fail
              go_meet
              exact KC.out.trans hkw
      case rest =>
        have KE := Lib.hid hcut
        clear hcut KC BC LC KK HL BP L1 K1
        go_wp2_with fail
        refine (drawBoxOf_any _ _ (HC.out.kept KE.out)).mono ?_
        rintro e d2 ⟨l, xs, rfl, hx, hl, k2⟩
        have K2 := Lib.hid (KE.out.trans k2)
        have L2 := Lib.hid hl
        obtain ⟨o0, o1, o2, o3, ok, he⟩ : ∃ o0 o1 o2 o3 ok, boV xs = .tuple #[.agg #[.int .i64 o0, .int .i64 o1, .int .i64 o2, .int .i64 o3], .bool ok] := ⟨_, _, _, _, _, rfl⟩
        have hI := Lib.hid fun W (hL : Lies W 2 pairC l xs) => boxOf_any l xs W hL
        have hS := Lib.hid fun W (hL : Lies W 2 pairC l xs) => sBoxOf_any l xs W hL
        rw [he] at hI hS
        clear he
        obtain ⟨A2, c2, rfl, -, -, -⟩ := lies_pairs hl
        clear hl k2 KE
        go_wp2_with fail
        refine (hI.out _ L2.out).mono ?_
        rintro e d3 ⟨rfl, k3⟩
        have K3 := Lib.hid (k3.trans (Kept.alloc (Kept.refl d3) (.cells #[.int .i64 o0, .int .i64 o1, .int .i64 o2, .int .i64 o3] 33)))
        have B3 := Lib.hid (BoxN.new d3 [.int .i64 o0, .int .i64 o1, .int .i64 o2, .int .i64 o3] 33)
        clear k3
        go_wp2_with fail
        refine (hS.out _ (L2.out.kept K3.out)).mono ?_
        rintro e d4 ⟨rfl, k4⟩
        have K4 := Lib.hid (k4.trans (Kept.alloc (Kept.refl d4) (.cells #[.int .i64 o0, .int .i64 o1, .int .i64 o2, .int .i64 o3] 33)))
        have B4 := Lib.hid (BoxN.new d4 [.int .i64 o0, .int .i64 o1, .int .i64 o2, .int .i64 o3] 33)
        obtain ⟨a0, -, a1, -, a2, -, a3, -⟩ := (B3.out.kept K4.out).four
        obtain ⟨b0, -, b1, -, b2, -, b3, -⟩ := B4.out.four
        have K5 := Lib.hid (K2.out.trans (K3.out.trans K4.out))
        clear k4
        go_wp2_with fail
        clear a0 a1 a2 a3 b0 b1 b2 b3 B3 B4 K3 K4 hI hS L2 K2 hx
        refine (drawSpotsIn_any _ _ (HC.out.kept K5.out)).mono ?_
        rintro e d6 ⟨l, ys, x, y, z, u, rfl, hx, hl, k6⟩
        have AL : Hid (Kept d6 (d6.alloc (.cells #[.int .i64 x, .int .i64 y, .int .i64 z, .int .i64 u] 33))) := Lib.hid (Kept.alloc (Kept.refl _) _)
        have K6 := Lib.hid (K5.out.trans (k6.trans AL.out))
        have L6 := Lib.hid (hl.kept AL.out)
        have B6 := Lib.hid (BoxN.new d6 [.int .i64 x, .int .i64 y, .int .i64 z, .int .i64 u] 33)
        obtain ⟨A2, c2, rfl, -, -, -⟩ := lies_pairs hl
        clear hl k6 AL K5
        go_wp2_with fail
        refine (spotsIn_any _ ys x y z u _ L6.out).mono ?_
        rintro e d7 ⟨s1, rfl, ho1, k7⟩
        obtain ⟨A3, c3, rfl, -, -, -⟩ := own_form ho1
        have K7 := Lib.hid k7
        have O1 := Lib.hid ho1
        clear ho1 k7
        obtain ⟨a0, -, a1, -, a2, -, a3, -⟩ := (B6.out.kept K7.out).four
        go_wp2_with fail
        clear a0 a1 a2 a3
        refine (sSpotsIn_any _ ys x y z u _ (L6.out.kept K7.out)).mono ?_
        rintro e d8 ⟨s2, rfl, ho2, k8⟩
        obtain ⟨A4, c4, rfl, -, -, -⟩ := own_form ho2
        have O2 := Lib.hid ho2
        have O3 := Lib.hid (own_kept O1.out k8)
        have K8 := Lib.hid (K6.out.trans (K7.out.trans k8))
        clear ho2 k8 K6 K7 O1 B6 L6
        go_wp2_with fail
        refine (vInts_any _ _ _ _ (ints_own O3.out) (ints_own O2.out)).mono ?_
        rintro e d9 ⟨rfl, k9⟩
        have K9 := Lib.hid (K8.out.trans k9)
        clear k9 K8 O2 O3
        go_wp2_with fail
        refine (drawSquareBetween_any _ _ (HC.out.kept K9.out)).mono ?_
        rintro e f1 ⟨a, b, c, d, rfl, k10⟩
        have K10 : Hid (Kept w ((f1.alloc (.cells #[.int .i64 a, .int .i64 b] 26)).alloc (.cells #[.int .i64 c, .int .i64 d] 26))) := Lib.hid (by have hq := K9.out.trans k10; (repeat (first | with_reducible assumption | with_reducible exact Kept.refl _ | with_reducible refine Kept.setCell ?_ (by first | (simp; done) | (simp; omega) | omega) _ | with_reducible refine Kept.alloc ?_ _ | with_reducible refine Kept.drew ?_ | with_reducible refine Kept.drewN ?_ _)))
        have B1 := Lib.hid ((BoxN.new f1 [.int .i64 a, .int .i64 b] 26).kept (show Kept _ ((f1.alloc (.cells #[.int .i64 a, .int .i64 b] 26)).alloc (.cells #[.int .i64 c, .int .i64 d] 26)) from by (repeat (first | exact Kept.refl _ | assumption | refine Kept.alloc ?_ _ | refine Kept.drew ?_ | refine Kept.drewN ?_ _ | refine Kept.setCell ?_ (by first | (simp; done) | (simp; omega) | omega | exact Kept.size (by (repeat (first | exact Kept.refl _ | assumption | refine Kept.alloc ?_ _ | refine Kept.drew ?_ | refine Kept.drewN ?_ _ | refine Kept.trans ?_ (by assumption))))) _ | refine Kept.trans ?_ (by assumption)))))
        have B2 : Hid (BoxN ((f1.alloc (.cells #[.int .i64 a, .int .i64 b] 26)).alloc (.cells #[.int .i64 c, .int .i64 d] 26)) (f1.heap.size + 1) [.int .i64 c, .int .i64 d]) := Lib.hid (by have hq := BoxN.new (f1.alloc (.cells #[.int .i64 a, .int .i64 b] 26)) [.int .i64 c, .int .i64 d] 26; simpa only [World.size_alloc] using hq)
        clear k10 K9
        have hI := Lib.hid fun W => squareBetween_any a b c d W
        have hS := Lib.hid fun W => sSquareBetween_any a b c d W
        generalize sqVal a b c d = sq at hI hS
        generalize sqOk a b c d = ok at hI hS
        go_wp2_with fail
        refine (hI.out _).mono ?_
        rintro e f2 ⟨rfl, k2⟩
        have K11 := Lib.hid k2
        clear k2
        obtain ⟨x0, -, x1, -⟩ := (B1.out.kept K11.out).two
        obtain ⟨u0, -, u1, -⟩ := (B2.out.kept K11.out).two
        go_wp2_with fail
        refine (hS.out _).mono ?_
        rintro e f3 ⟨rfl, k3⟩
        have K12 := Lib.hid (K10.out.trans (K11.out.trans k3))
        clear k3
        go_wp2_with fail
        go_ret
        exact ⟨rfl, K12.out⟩
end Go.Proofs.Ytnkofjfcioaaaaa
