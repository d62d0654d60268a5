/-
  FnBoxes' walk: the shared box of two drawn boxes lies within both, turns change their sign, lengths are roots.
  Conditions: none.
-/
import Derived.Test.YtnkofjfcioaaaaaDrawB
import Derived.Test.YtnkofjfcioaaaaaShared
import Derived.Test.YtnkofjfcioaaaaaPts2
namespace Go.Proofs.Ytnkofjfcioaaaaa
open Go.ChangeShapes Go.WideShapes Go.ChangeAt Go.RowKit
set_option linter.unusedVariables false
set_option linter.unusedSimpArgs false

theorem shared_comm (a b c d p q r s : Int) : sharedV p q r s a b c d = sharedV a b c d p q r s := by
  have h : sharedOk p q r s a b c d = sharedOk a b c d p q r s := by
    unfold sharedOk
    rw [mxI_eq p a, mxI_eq q b, mnI_eq r c, mnI_eq s d, mxI_eq a p, mxI_eq b q, mnI_eq c r, mnI_eq d s, Int.max_comm p a, Int.max_comm q b, Int.min_comm r c, Int.min_comm s d]
    cases boxB p q r s <;> cases boxB a b c d <;> rfl
  unfold sharedV
  rw [h, mxI_eq p a, mxI_eq q b, mnI_eq r c, mnI_eq s d, mxI_eq a p, mxI_eq b q, mnI_eq c r, mnI_eq d s, Int.max_comm p a, Int.max_comm q b, Int.min_comm r c, Int.min_comm s d]
theorem shared_again (a b c d p q r s : Int) (h : sharedOk a b c d p q r s = true) : sharedV (mxI a p) (mxI b q) (mnI c r) (mnI d s) a b c d = .tuple #[.agg #[.int .i64 (mxI a p), .int .i64 (mxI b q), .int .i64 (mnI c r), .int .i64 (mnI d s)], .bool true] := by
  have e0 : mxI (mxI a p) a = mxI a p := by simp only [mxI_eq]; omega
  have e1 : mxI (mxI b q) b = mxI b q := by simp only [mxI_eq]; omega
  have e2 : mnI (mnI c r) c = mnI c r := by simp only [mnI_eq]; omega
  have e3 : mnI (mnI d s) d = mnI d s := by simp only [mnI_eq]; omega
  have h' : sharedOk (mxI a p) (mxI b q) (mnI c r) (mnI d s) a b c d = true := by
    unfold sharedOk at h ⊢
    rw [e0, e1, e2, e3]
    simp only [Bool.and_eq_true] at h ⊢
    exact ⟨⟨h.2, h.1.1⟩, h.2⟩
  unfold sharedV
  rw [h', e0, e1, e2, e3]
  rfl
theorem shared_good (a b c d p q r s : Int) (h : sharedOk a b c d p q r s = true) : sharedV a b c d p q r s = .tuple #[.agg #[.int .i64 (mxI a p), .int .i64 (mxI b q), .int .i64 (mnI c r), .int .i64 (mnI d s)], .bool true] := by
  unfold sharedV
  rw [h]
  rfl
theorem shared_bad (a b c d p q r s : Int) (h : sharedOk a b c d p q r s = false) : sharedV a b c d p q r s = .tuple #[.agg #[.int .i64 0, .int .i64 0, .int .i64 0, .int .i64 0], .bool false] := by
  unfold sharedV
  rw [h]
  rfl
theorem sgn_neg (n : Int) : sgn (-n) = - sgn n := by
  unfold sgn
  split <;> split <;> (try split) <;> omega
theorem sgn_bd (n : Int) : -1 ≤ sgn n ∧ sgn n ≤ 1 := by
  unfold sgn
  split
  · omega
  · split <;> omega
theorem cross_back (x y u v p q : Int) : crossI p q u v x y = - crossI x y u v p q := by
  unfold crossI
  simp only [Int.sub_mul, Int.mul_sub, Int.mul_comm]
  omega
theorem cross_next (x y u v p q : Int) : crossI u v p q x y = crossI x y u v p q := by
  unfold crossI
  simp only [Int.sub_mul, Int.mul_sub, Int.mul_comm]
  omega
theorem turn_back (x y u v p q : Int) (h : turnOk x y u v p q = true) : turnOk p q u v x y = true ∧ turnVal p q u v x y = - turnVal x y u v p q := by
  have h' : turnOk p q u v x y = true := by
    unfold turnOk at h ⊢
    simp only [Bool.and_eq_true] at h ⊢
    exact ⟨⟨h.2, h.1.2⟩, h.1.1⟩
  refine ⟨h', ?_⟩
  unfold turnVal
  rw [if_pos h, if_pos h', cross_back, sgn_neg]
theorem turn_next (x y u v p q : Int) (h : turnOk x y u v p q = true) : turnOk u v p q x y = true ∧ turnVal u v p q x y = turnVal x y u v p q := by
  have h' : turnOk u v p q x y = true := by
    unfold turnOk at h ⊢
    simp only [Bool.and_eq_true] at h ⊢
    exact ⟨⟨h.1.2, h.2⟩, h.1.1⟩
  refine ⟨h', ?_⟩
  unfold turnVal
  rw [if_pos h, if_pos h', cross_next]
theorem turn_bd (x y u v p q : Int) : -1 ≤ turnVal x y u v p q ∧ turnVal x y u v p q ≤ 1 := by
  unfold turnVal
  split
  · exact sgn_bd _
  · omega
theorem root_ex (n : Nat) : ∃ r : Int, 0 ≤ r ∧ r * r ≤ n ∧ (n : Int) < (r + 1) * (r + 1) := by
  induction n with
  | zero => exact ⟨0, by omega, by omega, by omega⟩
  | succ n ih =>
    obtain ⟨r, h0, h1, h2⟩ := ih
    by_cases h : ((n : Int) + 1) < (r + 1) * (r + 1)
    · exact ⟨r, h0, by omega, by omega⟩
    · refine ⟨r + 1, by omega, by omega, ?_⟩
      have : (r + 1 + 1) * (r + 1 + 1) = (r + 1) * (r + 1) + 2 * (r + 1) + 1 := by
        simp only [Int.add_mul, Int.mul_add, Int.mul_one, Int.one_mul]
        omega
      omega
theorem root_spec (n : Int) (h0 : 0 ≤ n) (hn : n ≤ 2000000) : 0 ≤ rootI n ∧ rootI n ≤ 1415 ∧ rootI n * rootI n ≤ n ∧ n < (rootI n + 1) * (rootI n + 1) := by
  obtain ⟨m, rfl⟩ : ∃ m : Nat, n = (m : Int) := ⟨n.toNat, by omega⟩
  obtain ⟨r, r0, r1, r2⟩ := root_ex m
  rw [rootI_eq m r r0 r1 r2 hn]
  refine ⟨r0, ?_, r1, r2⟩
  by_cases h : r ≤ 1415
  · exact h
  · have := Int.mul_le_mul (show (1416 : Int) ≤ r by omega) (show (1416 : Int) ≤ r by omega) (by omega) r0
    omega
set_option maxRecDepth 100000 in
set_option maxHeartbeats 4000000 in
theorem lawFnBoxes (v : Value) (w : World) (hc : CodeW w v) : Calls Try.prog 10 #[v] w fun e w' => e = .returned (.bool true) ∧ Kept w w' := by
  have HC := Lib.hid hc
  obtain ⟨A, len, cap, rfl, -⟩ := hc
  by_cases hbig : (65536 : Int) < (len : Int)
  · have hd : decide ((65536 : Int) < (len : Int)) = true := by simp [hbig]
    go_enter Try.func10, Try.ntmps10
    go_wp2_with (go_at_call 36; (with_reducible refine (vBig_any _ _ _ _).mono ?_); rintro e w' ⟨rfl, rfl⟩)
    go_ret
    exact ⟨rfl, Kept.refl _⟩
  · have hd : decide ((65536 : Int) < (len : Int)) = false := by simp [hbig]
    go_enter Try.func10, Try.ntmps10
    go_wp2_with (go_at_call 36; (with_reducible refine (vBig_any _ _ _ _).mono ?_); rintro e w' ⟨rfl, rfl⟩)
    refine (drawSharedBox_any _ _ HC.out).mono ?_
    rintro e w1 ⟨a, b, c, d, p, q, r, s, rfl, k1⟩
    have K1 := Lib.hid k1
    clear k1
    obtain ⟨o0, o1, o2, o3, ok, he, hback, hsame⟩ : ∃ o0 o1 o2 o3 ok, sharedV a b c d p q r s = .tuple #[.agg #[.int .i64 o0, .int .i64 o1, .int .i64 o2, .int .i64 o3], .bool ok] ∧ (ok = true → sharedV p q r s a b c d = .tuple #[.agg #[.int .i64 o0, .int .i64 o1, .int .i64 o2, .int .i64 o3], .bool true]) ∧ (ok = true → sharedV o0 o1 o2 o3 a b c d = .tuple #[.agg #[.int .i64 o0, .int .i64 o1, .int .i64 o2, .int .i64 o3], .bool true]) := by
      cases h : sharedOk a b c d p q r s
      · exact ⟨0, 0, 0, 0, false, shared_bad _ _ _ _ _ _ _ _ h, fun h => Bool.noConfusion h, fun h => Bool.noConfusion h⟩
      · exact ⟨_, _, _, _, true, shared_good _ _ _ _ _ _ _ _ h, fun _ => (shared_comm _ _ _ _ _ _ _ _).trans (shared_good _ _ _ _ _ _ _ _ h), fun _ => shared_again _ _ _ _ _ _ _ _ h⟩
    have hS := Lib.hid fun W => sSharedBox_any a b c d p q r s W
    have hI := Lib.hid fun W => sharedBox_any a b c d p q r s W
    rw [he] at hS hI
    have hB := Lib.hid fun (t : ok = true) W => hback t ▸ sharedBox_any p q r s a b c d W
    have hM := Lib.hid fun (t : ok = true) W => hsame t ▸ sharedBox_any o0 o1 o2 o3 a b c d W
    clear he hback hsame
    have BA1 := Lib.hid ((BoxN.new w1 [.int .i64 a, .int .i64 b, .int .i64 c, .int .i64 d] 33).kept (show Kept _ ((w1.alloc (.cells #[.int .i64 a, .int .i64 b, .int .i64 c, .int .i64 d] 33)).alloc (.cells #[.int .i64 p, .int .i64 q, .int .i64 r, .int .i64 s] 33)) from by (repeat (first | exact Kept.refl _ | assumption | refine Kept.alloc ?_ _ | refine Kept.drew ?_ | refine Kept.drewN ?_ _ | refine Kept.setCell ?_ (by first | (simp; done) | (simp; omega) | omega | exact Kept.size (by (repeat (first | exact Kept.refl _ | assumption | refine Kept.alloc ?_ _ | refine Kept.drew ?_ | refine Kept.drewN ?_ _ | refine Kept.trans ?_ (by assumption))))) _ | refine Kept.trans ?_ (by assumption)))))
    have BP1 : Hid (BoxN ((w1.alloc (.cells #[.int .i64 a, .int .i64 b, .int .i64 c, .int .i64 d] 33)).alloc (.cells #[.int .i64 p, .int .i64 q, .int .i64 r, .int .i64 s] 33)) (w1.heap.size + 1) [.int .i64 p, .int .i64 q, .int .i64 r, .int .i64 s]) := Lib.hid (by have hq := BoxN.new (w1.alloc (.cells #[.int .i64 a, .int .i64 b, .int .i64 c, .int .i64 d] 33)) [.int .i64 p, .int .i64 q, .int .i64 r, .int .i64 s] 33; simpa only [World.size_alloc] using hq)
    go_wp2_with fail
    refine (hI.out _).mono ?_
    rintro e w2 ⟨rfl, k2⟩
    have K2 := Lib.hid k2
    have z2 := k2.size
    simp only [World.size_alloc] at z2
    clear k2
    have BO2 := Lib.hid (BoxN.new w2 [.int .i64 o0, .int .i64 o1, .int .i64 o2, .int .i64 o3] 33)
    have AL : Hid (Kept w2 (w2.alloc (.cells #[.int .i64 o0, .int .i64 o1, .int .i64 o2, .int .i64 o3] 33))) := Lib.hid (Kept.alloc (Kept.refl _) _)
    obtain ⟨a0, -, a1, -, a2, -, a3, -⟩ := (BA1.out.kept (K2.out.trans AL.out)).four
    obtain ⟨p0, -, p1, -, p2, -, p3, -⟩ := (BP1.out.kept (K2.out.trans AL.out)).four
    go_wp2_with fail
    clear a0 a1 a2 a3 p0 p1 p2 p3
    refine (hS.out _).mono ?_
    rintro e w3 ⟨rfl, k3⟩
    have K3 := Lib.hid k3
    have z3 := k3.size
    simp only [World.size_alloc] at z3
    clear k3
    have AW : Hid (Kept w3 (w3.alloc (.cells #[.int .i64 o0, .int .i64 o1, .int .i64 o2, .int .i64 o3] 33))) := Lib.hid (Kept.alloc (Kept.refl _) _)
    have K2W := Lib.hid (K2.out.trans (AL.out.trans (K3.out.trans AW.out)))
    have BW3 := Lib.hid (BoxN.new w3 [.int .i64 o0, .int .i64 o1, .int .i64 o2, .int .i64 o3] 33)
    obtain ⟨a0, -, a1, -, a2, -, a3, -⟩ := (BA1.out.kept K2W.out).four
    obtain ⟨p0, -, p1, -, p2, -, p3, -⟩ := (BP1.out.kept K2W.out).four
    obtain ⟨m0, -, m1, -, m2, -, m3, -⟩ := (BO2.out.kept (K3.out.trans AW.out)).four
    obtain ⟨n0, -, n1, -, n2, -, n3, -⟩ := BW3.out.four
    go_upto_region 6 with fail
    go_cut [65] (fun s65 wx => s65 = .bool false ∧ Root (w3.alloc (.cells #[.int .i64 o0, .int .i64 o1, .int .i64 o2, .int .i64 o3] 33)) wx)
    case first =>
      have kf1_0 : ∀ w' : World, Root (w3.alloc (.cells #[.int .i64 o0, .int .i64 o1, .int .i64 o2, .int .i64 o3] 33)) w' → w'.cell? ⟨w1.heap.size, 0, none⟩ = some (.int .i64 a) := fun w' h => h.keep (by first | assumption | exact (Kept.alloc (Kept.refl _) _).keep (by assumption) | (simp [go_sem]; done) | (simp [go_sem, *]; done))
      have kf1_1 : ∀ w' : World, Root (w3.alloc (.cells #[.int .i64 o0, .int .i64 o1, .int .i64 o2, .int .i64 o3] 33)) w' → w'.cell? ⟨w1.heap.size, 1, none⟩ = some (.int .i64 b) := fun w' h => h.keep (by first | assumption | exact (Kept.alloc (Kept.refl _) _).keep (by assumption) | (simp [go_sem]; done) | (simp [go_sem, *]; done))
      have kf1_2 : ∀ w' : World, Root (w3.alloc (.cells #[.int .i64 o0, .int .i64 o1, .int .i64 o2, .int .i64 o3] 33)) w' → w'.cell? ⟨w1.heap.size, 2, none⟩ = some (.int .i64 c) := fun w' h => h.keep (by first | assumption | exact (Kept.alloc (Kept.refl _) _).keep (by assumption) | (simp [go_sem]; done) | (simp [go_sem, *]; done))
      have kf1_3 : ∀ w' : World, Root (w3.alloc (.cells #[.int .i64 o0, .int .i64 o1, .int .i64 o2, .int .i64 o3] 33)) w' → w'.cell? ⟨w1.heap.size, 3, none⟩ = some (.int .i64 d) := fun w' h => h.keep (by first | assumption | exact (Kept.alloc (Kept.refl _) _).keep (by assumption) | (simp [go_sem]; done) | (simp [go_sem, *]; done))
      have kf1_4 : ∀ w' : World, Root (w3.alloc (.cells #[.int .i64 o0, .int .i64 o1, .int .i64 o2, .int .i64 o3] 33)) w' → w'.cell? ⟨w2.heap.size, 0, none⟩ = some (.int .i64 o0) := fun w' h => h.keep (by first | assumption | exact (Kept.alloc (Kept.refl _) _).keep (by assumption) | (simp [go_sem]; done) | (simp [go_sem, *]; done))
      have kf1_5 : ∀ w' : World, Root (w3.alloc (.cells #[.int .i64 o0, .int .i64 o1, .int .i64 o2, .int .i64 o3] 33)) w' → w'.cell? ⟨w2.heap.size, 1, none⟩ = some (.int .i64 o1) := fun w' h => h.keep (by first | assumption | exact (Kept.alloc (Kept.refl _) _).keep (by assumption) | (simp [go_sem]; done) | (simp [go_sem, *]; done))
      have kf1_6 : ∀ w' : World, Root (w3.alloc (.cells #[.int .i64 o0, .int .i64 o1, .int .i64 o2, .int .i64 o3] 33)) w' → w'.cell? ⟨w2.heap.size, 2, none⟩ = some (.int .i64 o2) := fun w' h => h.keep (by first | assumption | exact (Kept.alloc (Kept.refl _) _).keep (by assumption) | (simp [go_sem]; done) | (simp [go_sem, *]; done))
      have kf1_7 : ∀ w' : World, Root (w3.alloc (.cells #[.int .i64 o0, .int .i64 o1, .int .i64 o2, .int .i64 o3] 33)) w' → w'.cell? ⟨w2.heap.size, 3, none⟩ = some (.int .i64 o3) := fun w' h => h.keep (by first | assumption | exact (Kept.alloc (Kept.refl _) _).keep (by assumption) | (simp [go_sem]; done) | (simp [go_sem, *]; done))
      have kf1_8 : ∀ w' : World, Root (w3.alloc (.cells #[.int .i64 o0, .int .i64 o1, .int .i64 o2, .int .i64 o3] 33)) w' → w'.cell? ⟨w3.heap.size, 0, none⟩ = some (.int .i64 o0) := fun w' h => h.keep (by first | assumption | exact (Kept.alloc (Kept.refl _) _).keep (by assumption) | (simp [go_sem]; done) | (simp [go_sem, *]; done))
      have kf1_9 : ∀ w' : World, Root (w3.alloc (.cells #[.int .i64 o0, .int .i64 o1, .int .i64 o2, .int .i64 o3] 33)) w' → w'.cell? ⟨w3.heap.size, 1, none⟩ = some (.int .i64 o1) := fun w' h => h.keep (by first | assumption | exact (Kept.alloc (Kept.refl _) _).keep (by assumption) | (simp [go_sem]; done) | (simp [go_sem, *]; done))
      have kf1_10 : ∀ w' : World, Root (w3.alloc (.cells #[.int .i64 o0, .int .i64 o1, .int .i64 o2, .int .i64 o3] 33)) w' → w'.cell? ⟨w3.heap.size, 2, none⟩ = some (.int .i64 o2) := fun w' h => h.keep (by first | assumption | exact (Kept.alloc (Kept.refl _) _).keep (by assumption) | (simp [go_sem]; done) | (simp [go_sem, *]; done))
      have kf1_11 : ∀ w' : World, Root (w3.alloc (.cells #[.int .i64 o0, .int .i64 o1, .int .i64 o2, .int .i64 o3] 33)) w' → w'.cell? ⟨w3.heap.size, 3, none⟩ = some (.int .i64 o3) := fun w' h => h.keep (by first | assumption | exact (Kept.alloc (Kept.refl _) _).keep (by assumption) | (simp [go_sem]; done) | (simp [go_sem, *]; done))
      refine wp_region_held_drew (S := fun w' => Root (w3.alloc (.cells #[.int .i64 o0, .int .i64 o1, .int .i64 o2, .int .i64 o3] 33)) w') (by kernel_rfl) (by (try dsimp only); (first | assumption | exact Root.trans (by assumption) hk | exact Root.drew (Root.refl _) | (repeat (first | exact Root.refl _ | assumption | refine Root.alloc ?_ _ | refine Root.drew ?_ | refine Root.setCell ?_ (by first | (simp; done) | (simp; omega) | omega | exact Root.size (by assumption)) _ | refine Root.trans ?_ (by assumption))))) (fun hHeld => ?_)
      refine wpAnyH_take (i := 0) (v := ?_) rfl (by kernel_rfl) (by kernel_rfl) (by kernel_rfl) (fun _ _ _ h => h) (Or.inl ⟨by kernel_rfl, ?_⟩) (by assumption) ?_
      rotate_left
      focus (intro w hSw; (try dsimp only at hSw); go_simp; (try with_reducible rfl))
      (try simp only [Act.put, List.getElem_toArray, List.getElem_cons_zero, List.getElem_cons_succ, List.setIfInBounds_toArray, List.set_cons_zero, List.set_cons_succ])
      refine wpAnyH_take (i := 1) (v := ?_) rfl (by kernel_rfl) (by kernel_rfl) (by kernel_rfl) (fun _ _ _ h => h) (Or.inl ⟨by kernel_rfl, ?_⟩) (by assumption) ?_
      rotate_left
      focus (intro w hSw; (try dsimp only at hSw); go_simp; (try with_reducible rfl))
      (try simp only [Act.put, List.getElem_toArray, List.getElem_cons_zero, List.getElem_cons_succ, List.setIfInBounds_toArray, List.set_cons_zero, List.set_cons_succ])
      refine wpAnyH_take (i := 2) (v := ?_) rfl (by kernel_rfl) (by kernel_rfl) (by kernel_rfl) (fun _ _ _ h => h) (Or.inl ⟨by kernel_rfl, ?_⟩) (by assumption) ?_
      rotate_left
      focus (intro w hSw; (try dsimp only at hSw); go_simp; (try with_reducible rfl))
      (try simp only [Act.put, List.getElem_toArray, List.getElem_cons_zero, List.getElem_cons_succ, List.setIfInBounds_toArray, List.set_cons_zero, List.set_cons_succ])
      refine wpAnyH_take (i := 3) (v := ?_) rfl (by kernel_rfl) (by kernel_rfl) (by kernel_rfl) (fun _ _ _ h => h) (Or.inl ⟨by kernel_rfl, ?_⟩) (by assumption) ?_
      rotate_left
      focus (intro w hSw; (try dsimp only at hSw); go_simp; (try with_reducible rfl))
      (try simp only [Act.put, List.getElem_toArray, List.getElem_cons_zero, List.getElem_cons_succ, List.setIfInBounds_toArray, List.set_cons_zero, List.set_cons_succ])
      refine wpAnyH_take (i := 4) (v := ?_) rfl (by kernel_rfl) (by kernel_rfl) (by kernel_rfl) (fun _ _ _ h => h) (Or.inl ⟨by kernel_rfl, ?_⟩) (by assumption) ?_
      rotate_left
      focus (intro w hSw; (try dsimp only at hSw); go_simp; (try with_reducible rfl))
      (try simp only [Act.put, List.getElem_toArray, List.getElem_cons_zero, List.getElem_cons_succ, List.setIfInBounds_toArray, List.set_cons_zero, List.set_cons_succ])
      refine wpAnyH_take (i := 5) (v := ?_) rfl (by kernel_rfl) (by kernel_rfl) (by kernel_rfl) (fun _ _ _ h => h) (Or.inl ⟨by kernel_rfl, ?_⟩) (by assumption) ?_
      rotate_left
      focus (intro w hSw; (try dsimp only at hSw); go_simp; (try with_reducible rfl))
      (try simp only [Act.put, List.getElem_toArray, List.getElem_cons_zero, List.getElem_cons_succ, List.setIfInBounds_toArray, List.set_cons_zero, List.set_cons_succ])
      refine wpAnyH_take (i := 6) (v := ?_) rfl (by kernel_rfl) (by kernel_rfl) (by kernel_rfl) (fun _ _ _ h => h) (Or.inl ⟨by kernel_rfl, ?_⟩) (by assumption) ?_
      rotate_left
      focus (intro w hSw; (try dsimp only at hSw); go_simp; (try with_reducible rfl))
      (try simp only [Act.put, List.getElem_toArray, List.getElem_cons_zero, List.getElem_cons_succ, List.setIfInBounds_toArray, List.set_cons_zero, List.set_cons_succ])
      refine wpAnyH_take (i := 7) (v := ?_) rfl (by kernel_rfl) (by kernel_rfl) (by kernel_rfl) (fun _ _ _ h => h) (Or.inl ⟨by kernel_rfl, ?_⟩) (by assumption) ?_
      rotate_left
      focus (intro w hSw; (try dsimp only at hSw); go_simp; (try with_reducible rfl))
      (try simp only [Act.put, List.getElem_toArray, List.getElem_cons_zero, List.getElem_cons_succ, List.setIfInBounds_toArray, List.set_cons_zero, List.set_cons_succ])
      refine wpAnyH_take (i := 8) (v := ?_) rfl (by kernel_rfl) (by kernel_rfl) (by kernel_rfl) (fun _ _ _ h => h) (Or.inl ⟨by kernel_rfl, ?_⟩) (by assumption) ?_
      rotate_left
      focus (intro w hSw; (try dsimp only at hSw); go_simp; (try with_reducible rfl))
      (try simp only [Act.put, List.getElem_toArray, List.getElem_cons_zero, List.getElem_cons_succ, List.setIfInBounds_toArray, List.set_cons_zero, List.set_cons_succ])
      refine wpAnyH_take (i := 9) (v := ?_) rfl (by kernel_rfl) (by kernel_rfl) (by kernel_rfl) (fun _ _ _ h => h) (Or.inl ⟨by kernel_rfl, ?_⟩) (by assumption) ?_
      rotate_left
      focus (intro w hSw; (try dsimp only at hSw); go_simp; (try with_reducible rfl))
      (try simp only [Act.put, List.getElem_toArray, List.getElem_cons_zero, List.getElem_cons_succ, List.setIfInBounds_toArray, List.set_cons_zero, List.set_cons_succ])
      refine wpAnyH_take (i := 11) (v := ?_) rfl (by kernel_rfl) (by kernel_rfl) (by kernel_rfl) (fun _ _ _ h => h) (Or.inl ⟨by kernel_rfl, ?_⟩) (by assumption) ?_
      rotate_left
      focus (intro w hSw; (try dsimp only at hSw); go_simp; (try with_reducible rfl))
      (try simp only [Act.put, List.getElem_toArray, List.getElem_cons_zero, List.getElem_cons_succ, List.setIfInBounds_toArray, List.set_cons_zero, List.set_cons_succ])
      refine wpAnyH_ready (rs := [10]) (by kernel_rfl) (by simp) ?_
      refine AllReadyH.cons rfl (fun K hK => ?_) AllReadyH.nil
      go_simp
      (first | (go_at_call 38; refine (isBox_any _ _ _ _ _).mono ?_; rintro e w1 ⟨rfl, hk⟩; (have hkr := Root.trans (by assumption) hk); (first | (have hkf := From.step (by assumption) hk; obtain ⟨hc, hf⟩ := hkf.cells) | (have hkf := From.start hk; obtain ⟨hc, hf⟩ := hkf.cells))) | (go_at_call 39; refine (sIsBox_any _ _ _ _ _).mono ?_; rintro e w1 ⟨rfl, hk⟩; (have hkr := Root.trans (by assumption) hk); (first | (have hkf := From.step (by assumption) hk; obtain ⟨hc, hf⟩ := hkf.cells) | (have hkf := From.start hk; obtain ⟨hc, hf⟩ := hkf.cells))))
      (try go_wp2_with fail)
      refine hK.out _ _ (by (try dsimp only); (first | assumption | exact Root.trans (by assumption) hk | exact Root.drew (Root.refl _) | (repeat (first | exact Root.refl _ | assumption | refine Root.alloc ?_ _ | refine Root.drew ?_ | refine Root.setCell ?_ (by first | (simp; done) | (simp; omega) | omega | exact Root.size (by assumption)) _ | refine Root.trans ?_ (by assumption))))) (fun hHeld => ?_)
      clear hK K
      (try simp only [Act.put, List.getElem_toArray, List.getElem_cons_zero, List.getElem_cons_succ, List.setIfInBounds_toArray, List.set_cons_zero, List.set_cons_succ])
      refine wpAnyH_ready (rs := [12]) (by kernel_rfl) (by simp) ?_
      refine AllReadyH.cons rfl (fun K hK => ?_) AllReadyH.nil
      go_simp
      (first | (go_at_call 38; refine (isBox_any _ _ _ _ _).mono ?_; rintro e w1 ⟨rfl, hk⟩; (have hkr := Root.trans (by assumption) hk); (first | (have hkf := From.step (by assumption) hk; obtain ⟨hc, hf⟩ := hkf.cells) | (have hkf := From.start hk; obtain ⟨hc, hf⟩ := hkf.cells))) | (go_at_call 39; refine (sIsBox_any _ _ _ _ _).mono ?_; rintro e w1 ⟨rfl, hk⟩; (have hkr := Root.trans (by assumption) hk); (first | (have hkf := From.step (by assumption) hk; obtain ⟨hc, hf⟩ := hkf.cells) | (have hkf := From.start hk; obtain ⟨hc, hf⟩ := hkf.cells))))
      (try go_wp2_with fail)
      refine hK.out _ _ (by (try dsimp only); (first | assumption | exact Root.trans (by assumption) hk | exact Root.drew (Root.refl _) | (repeat (first | exact Root.refl _ | assumption | refine Root.alloc ?_ _ | refine Root.drew ?_ | refine Root.setCell ?_ (by first | (simp; done) | (simp; omega) | omega | exact Root.size (by assumption)) _ | refine Root.trans ?_ (by assumption))))) (fun hHeld => ?_)
      clear hK K
      (try simp only [Act.put, List.getElem_toArray, List.getElem_cons_zero, List.getElem_cons_succ, List.setIfInBounds_toArray, List.set_cons_zero, List.set_cons_succ])
      refine wpAnyH_take (i := 13) (v := ?_) rfl (by kernel_rfl) (by kernel_rfl) (by kernel_rfl) (fun _ _ _ h => h) (Or.inl ⟨by kernel_rfl, ?_⟩) (by assumption) ?_
      rotate_left
      focus (intro w hSw; (try dsimp only at hSw); go_simp; (try with_reducible rfl))
      (try simp only [Act.put, List.getElem_toArray, List.getElem_cons_zero, List.getElem_cons_succ, List.setIfInBounds_toArray, List.set_cons_zero, List.set_cons_succ])
      refine wpAnyH_take (i := 14) (v := ?_) rfl (by kernel_rfl) (by kernel_rfl) (by kernel_rfl) (fun _ _ _ h => h) (Or.inl ⟨by kernel_rfl, ?_⟩) (by assumption) ?_
      rotate_left
      focus (intro w hSw; (try dsimp only at hSw); go_simp; (try with_reducible rfl))
      (try simp only [Act.put, List.getElem_toArray, List.getElem_cons_zero, List.getElem_cons_succ, List.setIfInBounds_toArray, List.set_cons_zero, List.set_cons_succ])
      refine wpAnyH_done (by kernel_rfl) ?_ _
      all_goals go_wp2_with fail
      all_goals (go_meet; exact ⟨rfl, by first | assumption | exact Root.trans (by assumption) hk | exact Root.drew (Root.refl _) | (repeat (first | exact Root.refl _ | assumption | refine Root.alloc ?_ _ | refine Root.drew ?_ | refine Root.setCell ?_ (by first | (simp; done) | (simp; omega) | omega | exact Root.size (by assumption)) _ | refine Root.trans ?_ (by assumption)))⟩)
    case rest =>
      obtain ⟨rfl, r3⟩ := hcut
      clear a0 a1 a2 a3 p0 p1 p2 p3 m0 m1 m2 m3 n0 n1 n2 n3
      have K2D := Lib.hid (K2W.out.trans r3.kept)
      have KD : Hid (Kept w wc) := Lib.hid (K1.out.trans (((Kept.alloc (Kept.alloc (Kept.refl w1) _) _)).trans K2D.out))
      have BAD := Lib.hid (BA1.out.kept K2D.out)
      have BPD := Lib.hid (BP1.out.kept K2D.out)
      have BOD := Lib.hid (BO2.out.kept (K3.out.trans (AW.out.trans r3.kept)))
      have zd := r3.kept.size
      simp only [World.size_alloc] at zd
      clear r3 hS hI BA1 BP1 BO2 BW3 K2D K2W AW AL K3 K2 K1
      go_upto_if 66 with fail
      go_cut [] (fun wx => Kept w wx)
      case first =>
        cases ok
        · go_wp2_with fail
          go_meet
          exact KD.out
        · obtain ⟨a0, -, a1, -, a2, -, a3, -⟩ := BAD.out.four
          obtain ⟨p0, -, p1, -, p2, -, p3, -⟩ := BPD.out.four
          go_wp2_with fail
          clear a0 a1 a2 a3 p0 p1 p2 p3
          refine (hB.out trivial _).mono ?_
          rintro e w4 ⟨rfl, k4⟩
          have z4 := k4.size
          have A4 : Kept w4 (w4.alloc (.cells #[.int .i64 o0, .int .i64 o1, .int .i64 o2, .int .i64 o3] 33)) := Kept.alloc (Kept.refl _) _
          have B4 := Lib.hid (BoxN.new w4 [.int .i64 o0, .int .i64 o1, .int .i64 o2, .int .i64 o3] 33)
          have K4 := Lib.hid (k4.trans A4)
          clear k4 A4
          obtain ⟨a0, -, a1, -, a2, -, a3, -⟩ := (BAD.out.kept K4.out).four
          obtain ⟨m0, -, m1, -, m2, -, m3, -⟩ := (BOD.out.kept K4.out).four
          go_wp2_with fail
          clear a0 a1 a2 a3 m0 m1 m2 m3
          refine (hM.out trivial _).mono ?_
          rintro e w5 ⟨rfl, k5⟩
          have z5 := k5.size
          simp only [World.size_alloc] at z5
          have A5 : Kept w5 (w5.alloc (.cells #[.int .i64 o0, .int .i64 o1, .int .i64 o2, .int .i64 o3] 33)) := Kept.alloc (Kept.refl _) _
          have B5 := Lib.hid (BoxN.new w5 [.int .i64 o0, .int .i64 o1, .int .i64 o2, .int .i64 o3] 33)
          have K5 := Lib.hid (k5.trans A5)
          clear k5 A5
          have K6 := Lib.hid (KD.out.trans (K4.out.trans K5.out))
          obtain ⟨m0, -, m1, -, m2, -, m3, -⟩ := (BOD.out.kept (K4.out.trans K5.out)).four
          obtain ⟨i0, -, i1, -, i2, -, i3, -⟩ := (B4.out.kept K5.out).four
          obtain ⟨j0, -, j1, -, j2, -, j3, -⟩ := B5.out.four
          go_wp2_with fail
          go_meet
          exact K6.out
      case rest =>
        have KE := Lib.hid hcut
        clear hcut hB hM BAD BPD BOD KD zd z2 z3
        go_wp2_with fail
        refine (drawTurnOf_any _ _ (HC.out.kept KE.out)).mono ?_
        rintro e w6 ⟨x, y, u, v, p, q, rfl, k6⟩
        have K6 := Lib.hid (KE.out.trans k6)
        clear k6 KE
        have hI := Lib.hid fun W => turnOf_any x y u v p q W
        have hS := Lib.hid fun W => sTurnOf_any x y u v p q W
        have hB := Lib.hid fun W => turnOf_any p q u v x y W
        have hN := Lib.hid fun W => turnOf_any u v p q x y W
        have tb := turn_bd x y u v p q
        have hr1 := turn_back x y u v p q
        have hr2 := turn_next x y u v p q
        generalize turnVal x y u v p q = t at hI hS hr1 hr2 tb
        generalize turnOk x y u v p q = tok at hI hS hr1 hr2
        generalize turnVal p q u v x y = t1 at hB hr1
        generalize turnOk p q u v x y = tok1 at hB hr1
        generalize turnVal u v p q x y = t2 at hN hr2
        generalize turnOk u v p q x y = tok2 at hN hr2
        have HR1 := Lib.hid hr1
        have HR2 := Lib.hid hr2
        clear hr1 hr2
        have B1 := Lib.hid ((BoxN.new w6 [.int .i64 x, .int .i64 y] 26).kept (show Kept _ (((w6.alloc (.cells #[.int .i64 x, .int .i64 y] 26)).alloc (.cells #[.int .i64 u, .int .i64 v] 26)).alloc (.cells #[.int .i64 p, .int .i64 q] 26)) from by (repeat (first | exact Kept.refl _ | assumption | refine Kept.alloc ?_ _ | refine Kept.drew ?_ | refine Kept.drewN ?_ _ | refine Kept.setCell ?_ (by first | (simp; done) | (simp; omega) | omega | exact Kept.size (by (repeat (first | exact Kept.refl _ | assumption | refine Kept.alloc ?_ _ | refine Kept.drew ?_ | refine Kept.drewN ?_ _ | refine Kept.trans ?_ (by assumption))))) _ | refine Kept.trans ?_ (by assumption)))))
        have B2 : Hid (BoxN (((w6.alloc (.cells #[.int .i64 x, .int .i64 y] 26)).alloc (.cells #[.int .i64 u, .int .i64 v] 26)).alloc (.cells #[.int .i64 p, .int .i64 q] 26)) (w6.heap.size + 1) [.int .i64 u, .int .i64 v]) := Lib.hid (by have hq := (BoxN.new (w6.alloc (.cells #[.int .i64 x, .int .i64 y] 26)) [.int .i64 u, .int .i64 v] 26).kept (show Kept _ (((w6.alloc (.cells #[.int .i64 x, .int .i64 y] 26)).alloc (.cells #[.int .i64 u, .int .i64 v] 26)).alloc (.cells #[.int .i64 p, .int .i64 q] 26)) from by (repeat (first | exact Kept.refl _ | assumption | refine Kept.alloc ?_ _ | refine Kept.drew ?_ | refine Kept.drewN ?_ _ | refine Kept.setCell ?_ (by first | (simp; done) | (simp; omega) | omega | exact Kept.size (by (repeat (first | exact Kept.refl _ | assumption | refine Kept.alloc ?_ _ | refine Kept.drew ?_ | refine Kept.drewN ?_ _ | refine Kept.trans ?_ (by assumption))))) _ | refine Kept.trans ?_ (by assumption)))); simpa only [World.size_alloc] using hq)
        have B3 : Hid (BoxN (((w6.alloc (.cells #[.int .i64 x, .int .i64 y] 26)).alloc (.cells #[.int .i64 u, .int .i64 v] 26)).alloc (.cells #[.int .i64 p, .int .i64 q] 26)) (w6.heap.size + 1 + 1) [.int .i64 p, .int .i64 q]) := Lib.hid (by have hq := BoxN.new ((w6.alloc (.cells #[.int .i64 x, .int .i64 y] 26)).alloc (.cells #[.int .i64 u, .int .i64 v] 26)) [.int .i64 p, .int .i64 q] 26; simpa only [World.size_alloc] using hq)
        have KW : Hid (Kept w (((w6.alloc (.cells #[.int .i64 x, .int .i64 y] 26)).alloc (.cells #[.int .i64 u, .int .i64 v] 26)).alloc (.cells #[.int .i64 p, .int .i64 q] 26))) := Lib.hid (by have hq := K6.out; (repeat (first | with_reducible assumption | with_reducible exact Kept.refl _ | with_reducible refine Kept.setCell ?_ (by first | (simp; done) | (simp; omega) | omega) _ | with_reducible refine Kept.alloc ?_ _ | with_reducible refine Kept.drew ?_ | with_reducible refine Kept.drewN ?_ _)))
        go_wp2_with fail
        refine (hI.out _).mono ?_
        rintro e w7 ⟨rfl, k7⟩
        have K7 := Lib.hid k7
        clear k7
        obtain ⟨x0, -, x1, -⟩ := (B1.out.kept K7.out).two
        obtain ⟨u0, -, u1, -⟩ := (B2.out.kept K7.out).two
        obtain ⟨p0, -, p1, -⟩ := (B3.out.kept K7.out).two
        go_wp2_with fail
        clear x0 x1 u0 u1 p0 p1
        refine (hS.out _).mono ?_
        rintro e w8 ⟨rfl, k8⟩
        have K8 := Lib.hid (K7.out.trans k8)
        clear k8 K7
        obtain ⟨x0, -, x1, -⟩ := (B1.out.kept K8.out).two
        obtain ⟨u0, -, u1, -⟩ := (B2.out.kept K8.out).two
        obtain ⟨p0, -, p1, -⟩ := (B3.out.kept K8.out).two
        go_upto_if 123 with fail
        go_cut [] (fun wx => Kept w wx)
        case first =>
          cases tok
          · go_wp2_with fail
            go_meet
            exact KW.out.trans K8.out
          · obtain ⟨rfl, rfl⟩ := HR1.out (by trivial)
            obtain ⟨rfl, rfl⟩ := HR2.out (by trivial)
            clear HR1 HR2
            go_wp2_with fail
            clear x0 x1 u0 u1 p0 p1
            refine (hB.out _).mono ?_
            rintro e w9 ⟨rfl, k9⟩
            have K9 := Lib.hid (K8.out.trans k9)
            clear k9 K8
            obtain ⟨x0, -, x1, -⟩ := (B1.out.kept K9.out).two
            obtain ⟨u0, -, u1, -⟩ := (B2.out.kept K9.out).two
            obtain ⟨p0, -, p1, -⟩ := (B3.out.kept K9.out).two
            go_wp2_with fail
            clear x0 x1 u0 u1 p0 p1
            refine (hN.out _).mono ?_
            rintro e w10 ⟨rfl, k10⟩
            have K10 := Lib.hid (K9.out.trans k10)
            clear k10 K9
            obtain ⟨tb0, tb1⟩ := tb
            go_wp2_with fail
            go_meet
            exact KW.out.trans K10.out
        case rest =>
          have KF := Lib.hid hcut
          clear hcut hI hS hB hN HR1 HR2 tb x0 x1 u0 u1 p0 p1 K8 B1 B2 B3 KW K6
          go_wp2_with fail
          refine (drawLengthBetween_any _ _ (HC.out.kept KF.out)).mono ?_
          rintro e v1 ⟨a, b, c, d, rfl, k6⟩
          have K6 := Lib.hid (KF.out.trans k6)
          clear k6 KF
          have hI := Lib.hid fun W => lengthBetween_any a b c d W
          have hS := Lib.hid fun W => sLengthBetween_any a b c d W
          have hQ := Lib.hid fun W => squareBetween_any a b c d W
          have hr : sqOk a b c d = true → 0 ≤ lenVal a b c d ∧ lenVal a b c d ≤ 1415 ∧ lenVal a b c d * lenVal a b c d ≤ sqVal a b c d ∧ sqVal a b c d < (lenVal a b c d + 1) * (lenVal a b c d + 1) := by
            intro h
            have h2 := h
            simp only [sqOk, Bool.and_eq_true] at h2
            have hb := sqr_bd a b c d h2.1 h2.2
            unfold lenVal sqVal
            rw [if_pos h, if_pos h]
            exact root_spec _ hb.1 hb.2
          generalize lenVal a b c d = n at hI hS hr
          generalize sqVal a b c d = sq at hQ hr
          generalize sqOk a b c d = fine at hI hS hQ hr
          have HR := Lib.hid hr
          clear hr
          have B1 := Lib.hid ((BoxN.new v1 [.int .i64 a, .int .i64 b] 26).kept (show Kept _ ((v1.alloc (.cells #[.int .i64 a, .int .i64 b] 26)).alloc (.cells #[.int .i64 c, .int .i64 d] 26)) from by (repeat (first | exact Kept.refl _ | assumption | refine Kept.alloc ?_ _ | refine Kept.drew ?_ | refine Kept.drewN ?_ _ | refine Kept.setCell ?_ (by first | (simp; done) | (simp; omega) | omega | exact Kept.size (by (repeat (first | exact Kept.refl _ | assumption | refine Kept.alloc ?_ _ | refine Kept.drew ?_ | refine Kept.drewN ?_ _ | refine Kept.trans ?_ (by assumption))))) _ | refine Kept.trans ?_ (by assumption)))))
          have B2 : Hid (BoxN ((v1.alloc (.cells #[.int .i64 a, .int .i64 b] 26)).alloc (.cells #[.int .i64 c, .int .i64 d] 26)) (v1.heap.size + 1) [.int .i64 c, .int .i64 d]) := Lib.hid (by have hq := BoxN.new (v1.alloc (.cells #[.int .i64 a, .int .i64 b] 26)) [.int .i64 c, .int .i64 d] 26; simpa only [World.size_alloc] using hq)
          have KW : Hid (Kept w ((v1.alloc (.cells #[.int .i64 a, .int .i64 b] 26)).alloc (.cells #[.int .i64 c, .int .i64 d] 26))) := Lib.hid (by have hq := K6.out; (repeat (first | with_reducible assumption | with_reducible exact Kept.refl _ | with_reducible refine Kept.setCell ?_ (by first | (simp; done) | (simp; omega) | omega) _ | with_reducible refine Kept.alloc ?_ _ | with_reducible refine Kept.drew ?_ | with_reducible refine Kept.drewN ?_ _)))
          go_wp2_with fail
          refine (hI.out _).mono ?_
          rintro e w7 ⟨rfl, k7⟩
          have K7 := Lib.hid k7
          clear k7
          obtain ⟨x0, -, x1, -⟩ := (B1.out.kept K7.out).two
          obtain ⟨u0, -, u1, -⟩ := (B2.out.kept K7.out).two
          go_wp2_with fail
          clear x0 x1 u0 u1
          refine (hS.out _).mono ?_
          rintro e w8 ⟨rfl, k8⟩
          have K8 := Lib.hid (K7.out.trans k8)
          clear k8 K7
          obtain ⟨x0, -, x1, -⟩ := (B1.out.kept K8.out).two
          obtain ⟨u0, -, u1, -⟩ := (B2.out.kept K8.out).two
          cases fine
          · go_wp2_with fail
            go_ret
            exact ⟨rfl, KW.out.trans K8.out⟩
          · obtain ⟨n0, n1, n2, n3⟩ := HR.out (by trivial)
            clear HR
            go_wp2_with fail
            clear x0 x1 u0 u1
            refine (hQ.out _).mono ?_
            rintro e w9 ⟨rfl, k9⟩
            have K9 := Lib.hid (K8.out.trans k9)
            clear k9 K8
            have m0 := mul_self_bd n 1415 n0 n1
            have m1 := mul_self_bd (n + 1) 1416 (by omega) (by omega)
            obtain ⟨m00, m01⟩ := m0
            obtain ⟨m10, m11⟩ := m1
            have d0 : decide (n * n ≤ sq) = true := by simp [n2]
            have d1 : decide (sq < (n + 1) * (n + 1)) = true := by simp [n3]
            go_wp2_with fail
            go_ret
            exact ⟨rfl, KW.out.trans K9.out⟩
end Go.Proofs.Ytnkofjfcioaaaaa
