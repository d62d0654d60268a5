/-
  Contracts of AreGauges, the program's and the reference's, and the law.
  Conditions: none.
-/
import Derived.Test.YtopdnhlolfehcaaGauges
namespace Go.Proofs.Ytopdnhlolfehcaa
open Go.ChangeShapes Go.WideShapes Go.ChangeAt Go.RowKit
set_option linter.unusedVariables false
set_option linter.unusedSimpArgs false

/-- Does the j-th craft bear a name. -/
def nmAt (gs : List Gz) (s : ByteArray) (j : Nat) : Bool := (GZ gs j).nm.toList == s.toList
theorem closure_any (x : Gz) (u : Value) (B : Nat) (c : Gz) (w : World) (h1 : w.cell? ⟨B, 1, none⟩ = some (.string c.nm)) : Calls Try.prog 87 #[.agg #[.int .i64 x.id, .string x.nm, .int .i64 x.z, u], .pointer (some ⟨B, 0, none⟩)] w fun e w' => e = .returned (.bool (x.nm.toList == c.nm.toList)) ∧ Kept w w' := by
  have hB := World.block_lt_of_cell? w _ h1
  simp only [] at hB
  have z1 : ¬ B = w.heap.size := by omega
  have z2 : ¬ w.heap.size = B := by omega
  go_enter Try.func87, Try.ntmps87
  go_wp2
  go_ret
  exact ⟨rfl, by (repeat (first | exact Kept.refl _ | assumption | refine Kept.alloc ?_ _ | refine Kept.drew ?_ | refine Kept.drewN ?_ _ | refine Kept.setCell ?_ (by first | (simp; done) | (simp; omega) | omega | exact Kept.size (by (repeat (first | exact Kept.refl _ | assumption | refine Kept.alloc ?_ _ | refine Kept.drew ?_ | refine Kept.drewN ?_ _ | refine Kept.trans ?_ (by assumption))))) _ | refine Kept.trans ?_ (by assumption)))⟩
theorem indexFunc_any (gs : List Gz) (n cap : Nat) (A : Option Addr) (B : Nat) (c : Gz) (w : World) (hn : n ≤ gs.length) (hm : gs.length ≤ 9223372036854775807) (hA : 0 < gs.length → ∃ b off, A = some ⟨b, off, none⟩ ∧ ∀ i, i < gs.length → ∃ u, AtG w b (off + i * 4) (GZ gs i) u) (h1 : w.cell? ⟨B, 1, none⟩ = some (.string c.nm)) : Calls Try.prog 105 #[.slice A n cap, .func (.func 87) #[] #[.pointer (some ⟨B, 0, none⟩)]] w fun e w' => e = .returned (.int .i64 (idxI (findTo (nmAt gs c.nm) n))) ∧ Kept w w' := by
  go_enter Try.func105, Try.ntmps105
  go_wp2
  go_loopw [5, 8] (fun _ s8 wr => ∃ k : Nat, k ≤ n ∧ s8 = .int .i64 k ∧ Kept w wr ∧ ∀ j, j < k → nmAt gs c.nm j = false) (fun _ s8 _ => n - (intOf s8).toNat)
  case atStart => exact ⟨0, Nat.zero_le _, rfl, Kept.refl _, fun j h => absurd h (by omega)⟩
  case round =>
    obtain ⟨k, hk, rfl, hkw, hall⟩ := hrel
    have HN := Lib.hid hall
    clear hall
    by_cases hlt : k < n
    · obtain ⟨b, off, rfl, hc⟩ := hA (by omega)
      obtain ⟨u, hu⟩ := hc k (by omega)
      obtain ⟨c0, c1, c2, c3, cl⟩ := hu.kept hkw
      have CL := Lib.hid cl
      obtain ⟨A2, n2, rfl, -, -, -⟩ := cl
      have hq := hkw.keep h1
      have hcall := fun W => closure_any (GZ gs k) (.slice A2 (GZ gs k).xs.length n2) B c W
      clear hc hA hu
      cases hh : nmAt gs c.nm k
      · have HB := Lib.hid (upto_succ (p := fun j => nmAt gs c.nm j = false) HN.out hh)
        have hh' : ((GZ gs k).nm.toList == c.nm.toList) = false := hh
        rw [hh'] at hcall
        have HC := Lib.hid hcall
        clear hcall hh'
        go_wp2_with (go_at_call 87; refine (HC.out _ (by assumption)).mono ?_; rintro e w' ⟨rfl, hk'⟩)
        go_roundw
        case rel => exact ⟨k + 1, by omega, by go_num, by (repeat (first | exact Kept.refl _ | assumption | refine Kept.alloc ?_ _ | refine Kept.drew ?_ | refine Kept.drewN ?_ _ | refine Kept.setCell ?_ (by first | (simp; done) | (simp; omega) | omega | exact Kept.size (by (repeat (first | exact Kept.refl _ | assumption | refine Kept.alloc ?_ _ | refine Kept.drew ?_ | refine Kept.drewN ?_ _ | refine Kept.trans ?_ (by assumption))))) _ | refine Kept.trans ?_ (by assumption))), HB.out⟩
        case measure => simp [intOf]; omega
      · have HF := Lib.hid (show (k : Int) = idxI (findTo (nmAt gs c.nm) n) by rw [find_some hlt HN.out hh]; rfl)
        have hh' : ((GZ gs k).nm.toList == c.nm.toList) = true := hh
        rw [hh'] at hcall
        have HC := Lib.hid hcall
        clear hcall hh'
        go_wp2_with (go_at_call 87; refine (HC.out _ (by assumption)).mono ?_; rintro e w' ⟨rfl, hk'⟩)
        go_ret
        exact ⟨ret_int HF.out, by (repeat (first | exact Kept.refl _ | assumption | refine Kept.alloc ?_ _ | refine Kept.drew ?_ | refine Kept.drewN ?_ _ | refine Kept.setCell ?_ (by first | (simp; done) | (simp; omega) | omega | exact Kept.size (by (repeat (first | exact Kept.refl _ | assumption | refine Kept.alloc ?_ _ | refine Kept.drew ?_ | refine Kept.drewN ?_ _ | refine Kept.trans ?_ (by assumption))))) _ | refine Kept.trans ?_ (by assumption)))⟩
    · have HF := Lib.hid (show (-1 : Int) = idxI (findTo (nmAt gs c.nm) n) by rw [find_none (fun j hj => HN.out j (by omega))]; rfl)
      clear hA
      go_wp2
      go_ret
      exact ⟨ret_int HF.out, by (repeat (first | exact Kept.refl _ | assumption | refine Kept.alloc ?_ _ | refine Kept.drew ?_ | refine Kept.drewN ?_ _ | refine Kept.setCell ?_ (by first | (simp; done) | (simp; omega) | omega | exact Kept.size (by (repeat (first | exact Kept.refl _ | assumption | refine Kept.alloc ?_ _ | refine Kept.drew ?_ | refine Kept.drewN ?_ _ | refine Kept.trans ?_ (by assumption))))) _ | refine Kept.trans ?_ (by assumption)))⟩
theorem idxI_ge (o : Option Nat) : decide (0 ≤ idxI o) = o.isSome := by cases o <;> simp [idxI]
theorem containsFunc_any (gs : List Gz) (n cap : Nat) (A : Option Addr) (B : Nat) (c : Gz) (w : World) (hn : n ≤ gs.length) (hm : gs.length ≤ 9223372036854775807) (hA : 0 < gs.length → ∃ b off, A = some ⟨b, off, none⟩ ∧ ∀ i, i < gs.length → ∃ u, AtG w b (off + i * 4) (GZ gs i) u) (h1 : w.cell? ⟨B, 1, none⟩ = some (.string c.nm)) : Calls Try.prog 86 #[.slice A n cap, .func (.func 87) #[] #[.pointer (some ⟨B, 0, none⟩)]] w fun e w' => e = .returned (.bool (findTo (nmAt gs c.nm) n).isSome) ∧ Kept w w' := by
  have HX := Lib.hid (idxI_ge (findTo (nmAt gs c.nm) n))
  have HC := Lib.hid (indexFunc_any gs n cap A B c w hn hm hA h1)
  clear hA
  go_enter Try.func86, Try.ntmps86
  go_wp2_with (go_at_call 105; refine HC.out.mono ?_; rintro e w' ⟨rfl, hk⟩)
  go_ret
  exact ⟨ret_bool HX.out, by (repeat (first | exact Kept.refl _ | assumption | refine Kept.alloc ?_ _ | refine Kept.drew ?_ | refine Kept.drewN ?_ _ | refine Kept.setCell ?_ (by first | (simp; done) | (simp; omega) | omega | exact Kept.size (by (repeat (first | exact Kept.refl _ | assumption | refine Kept.alloc ?_ _ | refine Kept.drew ?_ | refine Kept.drewN ?_ _ | refine Kept.trans ?_ (by assumption))))) _ | refine Kept.trans ?_ (by assumption)))⟩
def grB (c : Gz) : Bool := gaugeB c.id c.nm c.z c.xs
def gaugeAt (gs : List Gz) (i : Nat) : Bool := grB (GZ gs i) && decide (i = 0 ∨ (GZ gs (i - 1)).id < (GZ gs i).id) && !(findTo (nmAt gs (GZ gs i).nm) i).isSome
def gaugesB (gs : List Gz) : Bool := allB gs.length (gaugeAt gs) && decide ((gs.length : Int) ≤ 6)
theorem gaugesB_all {gs : List Gz} (h : ∀ i, i < gs.length → gaugeAt gs i = true) : gaugesB gs = decide ((gs.length : Int) ≤ 6) := by simp [gaugesB, allB_true h]
theorem gaugesB_no {gs : List Gz} {k : Nat} (hk : k < gs.length) (h : gaugeAt gs k = false) : gaugesB gs = false := by simp [gaugesB, allB_false hk h]
set_option maxHeartbeats 2000000 in
theorem areGauges_any (v : Value) (gs : List Gz) (w : World) (hL : GLies w v gs) (hz : GSized gs) : Calls Try.prog 46 #[v] w fun e w' => e = .returned (.bool (gaugesB gs)) ∧ Kept w w' := by
  have hm := hL.len
  unfold maxLen at hm
  obtain ⟨A, c, rfl, hlc, hcm, hA⟩ := hL
  go_enter Try.func46, Try.ntmps46
  go_wp2
  go_loopw [7] (fun i wr => ∃ k : Nat, k ≤ gs.length ∧ i = .int .i64 k ∧ Kept w wr ∧ ∀ i, i < k → gaugeAt gs i = true) (fun i _ => gs.length - (intOf i).toNat)
  case atStart => exact ⟨0, Nat.zero_le _, rfl, Kept.refl _, fun i h => absurd h (by omega)⟩
  case round =>
    obtain ⟨k, hk, rfl, hkw, hall⟩ := hrel
    have HA := Lib.hid hall
    clear hall
    by_cases hlt : k < gs.length
    · obtain ⟨b, off, rfl, hc⟩ := hA (by omega)
      obtain ⟨u, hu⟩ := hc k hlt
      obtain ⟨c0, c1, c2, c3, cl⟩ := hu.kept hkw
      have CL := Lib.hid cl
      obtain ⟨A2, n2, rfl, -, -, -⟩ := cl
      have hs := hz k hlt
      have HC := Lib.hid hc
      have HW := Lib.hid hkw
      clear hc hA hu hz
      have hI := fun W hl => isGauge_any (GZ gs k).id (GZ gs k).nm (GZ gs k).z (.slice A2 (GZ gs k).xs.length n2) (GZ gs k).xs hs W hl
      cases h1 : gaugeB (GZ gs k).id (GZ gs k).nm (GZ gs k).z (GZ gs k).xs
      · have HN := Lib.hid (gaugesB_no hlt (show gaugeAt gs k = false by simp [gaugeAt, grB, h1]))
        rw [h1] at hI
        have HI := Lib.hid hI
        clear hI
        go_wp2_with fail
        have kf1_0 : ∀ w' : World, Root (wr.alloc (.cells #[.int .i64 (GZ gs k).id, .string (GZ gs k).nm, .int .i64 (GZ gs k).z, .slice A2 (GZ gs k).xs.length n2] 26)) w' → w'.cell? ⟨wr.heap.size, 0, none⟩ = some (.int .i64 (GZ gs k).id) := fun w' h => h.keep (by first | assumption | exact (Kept.alloc (Kept.refl _) _).keep (by assumption) | (simp [go_sem]; done) | (simp [go_sem, *]; done))
        have kf1_1 : ∀ w' : World, Root (wr.alloc (.cells #[.int .i64 (GZ gs k).id, .string (GZ gs k).nm, .int .i64 (GZ gs k).z, .slice A2 (GZ gs k).xs.length n2] 26)) w' → w'.cell? ⟨wr.heap.size, 1, none⟩ = some (.string (GZ gs k).nm) := fun w' h => h.keep (by first | assumption | exact (Kept.alloc (Kept.refl _) _).keep (by assumption) | (simp [go_sem]; done) | (simp [go_sem, *]; done))
        have kf1_2 : ∀ w' : World, Root (wr.alloc (.cells #[.int .i64 (GZ gs k).id, .string (GZ gs k).nm, .int .i64 (GZ gs k).z, .slice A2 (GZ gs k).xs.length n2] 26)) w' → w'.cell? ⟨wr.heap.size, 2, none⟩ = some (.int .i64 (GZ gs k).z) := fun w' h => h.keep (by first | assumption | exact (Kept.alloc (Kept.refl _) _).keep (by assumption) | (simp [go_sem]; done) | (simp [go_sem, *]; done))
        have kf1_3 : ∀ w' : World, Root (wr.alloc (.cells #[.int .i64 (GZ gs k).id, .string (GZ gs k).nm, .int .i64 (GZ gs k).z, .slice A2 (GZ gs k).xs.length n2] 26)) w' → w'.cell? ⟨wr.heap.size, 3, none⟩ = some (.slice A2 (GZ gs k).xs.length n2) := fun w' h => h.keep (by first | assumption | exact (Kept.alloc (Kept.refl _) _).keep (by assumption) | (simp [go_sem]; done) | (simp [go_sem, *]; done))
        refine wp_region_held_drew (S := fun w' => Root (wr.alloc (.cells #[.int .i64 (GZ gs k).id, .string (GZ gs k).nm, .int .i64 (GZ gs k).z, .slice A2 (GZ gs k).xs.length n2] 26)) w') (by kernel_rfl) (by (try dsimp only); (first | assumption | exact Root.trans (by assumption) hk | exact Root.drew (Root.refl _) | (repeat (first | exact Root.refl _ | assumption | refine Root.alloc ?_ _ | refine Root.drew ?_ | refine Root.setCell ?_ (by first | (simp; done) | (simp; omega) | omega | exact Root.size (by assumption)) _ | refine Root.trans ?_ (by assumption))))) (fun hHeld => ?_)
        refine wpAnyH_take (i := 0) (v := ?_) rfl (by kernel_rfl) (by kernel_rfl) (by kernel_rfl) (fun _ _ _ h => h) (Or.inl ⟨by kernel_rfl, ?_⟩) (by assumption) ?_
        rotate_left
        focus (intro w hSw; (try dsimp only at hSw); go_simp; (try with_reducible rfl))
        (try simp only [Act.put, List.getElem_toArray, List.getElem_cons_zero, List.getElem_cons_succ, List.setIfInBounds_toArray, List.set_cons_zero, List.set_cons_succ])
        refine wpAnyH_ready (rs := [1]) (by kernel_rfl) (by simp) ?_
        refine AllReadyH.cons rfl (fun K hK => ?_) AllReadyH.nil
        go_simp
        (go_at_call 21; refine (HI.out _ (by exact CL.out.kept (by (repeat (first | exact Kept.refl _ | assumption | refine Kept.alloc ?_ _ | refine Kept.drew ?_ | refine Kept.drewN ?_ _ | refine Kept.setCell ?_ (by first | (simp; done) | (simp; omega) | omega | exact Kept.size (by (repeat (first | exact Kept.refl _ | assumption | refine Kept.alloc ?_ _ | refine Kept.drew ?_ | refine Kept.drewN ?_ _ | refine Kept.trans ?_ (by assumption))))) _ | refine Kept.trans ?_ (by assumption)))))).mono ?_; rintro e w1 ⟨rfl, hk⟩; (have hkr := Root.trans (by assumption) hk); (first | (have hkf := From.step (by assumption) hk; obtain ⟨hc, hf⟩ := hkf.cells) | (have hkf := From.start hk; obtain ⟨hc, hf⟩ := hkf.cells)))
        (try go_wp2_with fail)
        refine hK.out _ _ (by (try dsimp only); (first | assumption | exact Root.trans (by assumption) hk | exact Root.drew (Root.refl _) | (repeat (first | exact Root.refl _ | assumption | refine Root.alloc ?_ _ | refine Root.drew ?_ | refine Root.setCell ?_ (by first | (simp; done) | (simp; omega) | omega | exact Root.size (by assumption)) _ | refine Root.trans ?_ (by assumption))))) (fun hHeld => ?_)
        clear hK K
        (try simp only [Act.put, List.getElem_toArray, List.getElem_cons_zero, List.getElem_cons_succ, List.setIfInBounds_toArray, List.set_cons_zero, List.set_cons_succ])
        refine wpAnyH_take (i := 2) (v := ?_) rfl (by kernel_rfl) (by kernel_rfl) (by kernel_rfl) (fun _ _ _ h => h) (Or.inl ⟨by kernel_rfl, ?_⟩) (by assumption) ?_
        rotate_left
        focus (intro w hSw; (try dsimp only at hSw); go_simp; (try with_reducible rfl))
        (try simp only [Act.put, List.getElem_toArray, List.getElem_cons_zero, List.getElem_cons_succ, List.setIfInBounds_toArray, List.set_cons_zero, List.set_cons_succ])
        refine wpAnyH_take (i := 3) (v := ?_) rfl (by kernel_rfl) (by kernel_rfl) (by kernel_rfl) (fun _ _ _ h => h) (Or.inl ⟨by kernel_rfl, ?_⟩) (by assumption) ?_
        rotate_left
        focus (intro w hSw; (try dsimp only at hSw); go_simp; (try with_reducible rfl))
        (try simp only [Act.put, List.getElem_toArray, List.getElem_cons_zero, List.getElem_cons_succ, List.setIfInBounds_toArray, List.set_cons_zero, List.set_cons_succ])
        refine wpAnyH_take (i := 4) rfl (by kernel_rfl) (by kernel_rfl) (by kernel_rfl) (fun _ _ _ h => h) (Or.inr ⟨by kernel_rfl, rfl⟩) (by assumption) ?_
        (try simp only [Act.put, List.getElem_toArray, List.getElem_cons_zero, List.getElem_cons_succ, List.setIfInBounds_toArray, List.set_cons_zero, List.set_cons_succ])
        refine wpAnyH_take (i := 5) rfl (by kernel_rfl) (by kernel_rfl) (by kernel_rfl) (fun _ _ _ h => h) (Or.inr ⟨by kernel_rfl, rfl⟩) (by assumption) ?_
        (try simp only [Act.put, List.getElem_toArray, List.getElem_cons_zero, List.getElem_cons_succ, List.setIfInBounds_toArray, List.set_cons_zero, List.set_cons_succ])
        refine wpAnyH_take (i := 6) rfl (by kernel_rfl) (by kernel_rfl) (by kernel_rfl) (fun _ _ _ h => h) (Or.inr ⟨by kernel_rfl, rfl⟩) (by assumption) ?_
        (try simp only [Act.put, List.getElem_toArray, List.getElem_cons_zero, List.getElem_cons_succ, List.setIfInBounds_toArray, List.set_cons_zero, List.set_cons_succ])
        refine wpAnyH_take (i := 7) rfl (by kernel_rfl) (by kernel_rfl) (by kernel_rfl) (fun _ _ _ h => h) (Or.inr ⟨by kernel_rfl, rfl⟩) (by assumption) ?_
        (try simp only [Act.put, List.getElem_toArray, List.getElem_cons_zero, List.getElem_cons_succ, List.setIfInBounds_toArray, List.set_cons_zero, List.set_cons_succ])
        refine wpAnyH_take (i := 8) rfl (by kernel_rfl) (by kernel_rfl) (by kernel_rfl) (fun _ _ _ h => h) (Or.inr ⟨by kernel_rfl, rfl⟩) (by assumption) ?_
        (try simp only [Act.put, List.getElem_toArray, List.getElem_cons_zero, List.getElem_cons_succ, List.setIfInBounds_toArray, List.set_cons_zero, List.set_cons_succ])
        refine wpAnyH_take (i := 9) rfl (by kernel_rfl) (by kernel_rfl) (by kernel_rfl) (fun _ _ _ h => h) (Or.inr ⟨by kernel_rfl, rfl⟩) (by assumption) ?_
        (try simp only [Act.put, List.getElem_toArray, List.getElem_cons_zero, List.getElem_cons_succ, List.setIfInBounds_toArray, List.set_cons_zero, List.set_cons_succ])
        refine wpAnyH_take (i := 10) rfl (by kernel_rfl) (by kernel_rfl) (by kernel_rfl) (fun _ _ _ h => h) (Or.inr ⟨by kernel_rfl, rfl⟩) (by assumption) ?_
        (try simp only [Act.put, List.getElem_toArray, List.getElem_cons_zero, List.getElem_cons_succ, List.setIfInBounds_toArray, List.set_cons_zero, List.set_cons_succ])
        refine wpAnyH_take (i := 11) rfl (by kernel_rfl) (by kernel_rfl) (by kernel_rfl) (fun _ _ _ h => h) (Or.inr ⟨by kernel_rfl, rfl⟩) (by assumption) ?_
        (try simp only [Act.put, List.getElem_toArray, List.getElem_cons_zero, List.getElem_cons_succ, List.setIfInBounds_toArray, List.set_cons_zero, List.set_cons_succ])
        refine wpAnyH_take (i := 12) rfl (by kernel_rfl) (by kernel_rfl) (by kernel_rfl) (fun _ _ _ h => h) (Or.inr ⟨by kernel_rfl, rfl⟩) (by assumption) ?_
        (try simp only [Act.put, List.getElem_toArray, List.getElem_cons_zero, List.getElem_cons_succ, List.setIfInBounds_toArray, List.set_cons_zero, List.set_cons_succ])
        refine wpAnyH_take (i := 13) rfl (by kernel_rfl) (by kernel_rfl) (by kernel_rfl) (fun _ _ _ h => h) (Or.inr ⟨by kernel_rfl, rfl⟩) (by assumption) ?_
        (try simp only [Act.put, List.getElem_toArray, List.getElem_cons_zero, List.getElem_cons_succ, List.setIfInBounds_toArray, List.set_cons_zero, List.set_cons_succ])
        refine wpAnyH_take (i := 14) rfl (by kernel_rfl) (by kernel_rfl) (by kernel_rfl) (fun _ _ _ h => h) (Or.inr ⟨by kernel_rfl, rfl⟩) (by assumption) ?_
        (try simp only [Act.put, List.getElem_toArray, List.getElem_cons_zero, List.getElem_cons_succ, List.setIfInBounds_toArray, List.set_cons_zero, List.set_cons_succ])
        refine wpAnyH_take (i := 15) rfl (by kernel_rfl) (by kernel_rfl) (by kernel_rfl) (fun _ _ _ h => h) (Or.inr ⟨by kernel_rfl, rfl⟩) (by assumption) ?_
        (try simp only [Act.put, List.getElem_toArray, List.getElem_cons_zero, List.getElem_cons_succ, List.setIfInBounds_toArray, List.set_cons_zero, List.set_cons_succ])
        refine wpAnyH_take (i := 16) rfl (by kernel_rfl) (by kernel_rfl) (by kernel_rfl) (fun _ _ _ h => h) (Or.inr ⟨by kernel_rfl, rfl⟩) (by assumption) ?_
        (try simp only [Act.put, List.getElem_toArray, List.getElem_cons_zero, List.getElem_cons_succ, List.setIfInBounds_toArray, List.set_cons_zero, List.set_cons_succ])
        refine wpAnyH_take (i := 17) (v := ?_) rfl (by kernel_rfl) (by kernel_rfl) (by kernel_rfl) (fun _ _ _ h => h) (Or.inl ⟨by kernel_rfl, ?_⟩) (by assumption) ?_
        rotate_left
        focus (intro w hSw; (try dsimp only at hSw); go_simp; (try with_reducible rfl))
        (try simp only [Act.put, List.getElem_toArray, List.getElem_cons_zero, List.getElem_cons_succ, List.setIfInBounds_toArray, List.set_cons_zero, List.set_cons_succ])
        refine wpAnyH_done (by kernel_rfl) ?_ _
        go_wp2
        go_ret
        exact ⟨ret_bool HN.out.symm, by (repeat (first | exact Kept.refl _ | assumption | refine Kept.alloc ?_ _ | refine Kept.drew ?_ | refine Kept.drewN ?_ _ | refine Kept.setCell ?_ (by first | (simp; done) | (simp; omega) | omega | exact Kept.size (by (repeat (first | exact Kept.refl _ | assumption | refine Kept.alloc ?_ _ | refine Kept.drew ?_ | refine Kept.drewN ?_ _ | refine Kept.trans ?_ (by assumption))))) _ | refine Kept.trans ?_ (by assumption)))⟩
      · by_cases h3 : k = 0
        · subst h3
          simp only [Nat.zero_mul, Nat.add_zero] at c0 c1 c2 c3
          rw [h1] at hI
          have HI := Lib.hid hI
          clear hI
          have HB := Lib.hid (upto_succ (p := fun i => gaugeAt gs i = true) HA.out (show gaugeAt gs 0 = true by simp [gaugeAt, grB, h1, findTo]))
          go_wp2_with fail
          have kf2_0 : ∀ w' : World, Root (wr.alloc (.cells #[.int .i64 (GZ gs 0).id, .string (GZ gs 0).nm, .int .i64 (GZ gs 0).z, .slice A2 (GZ gs 0).xs.length n2] 26)) w' → w'.cell? ⟨wr.heap.size, 0, none⟩ = some (.int .i64 (GZ gs 0).id) := fun w' h => h.keep (by first | assumption | exact (Kept.alloc (Kept.refl _) _).keep (by assumption) | (simp [go_sem]; done) | (simp [go_sem, *]; done))
          have kf2_1 : ∀ w' : World, Root (wr.alloc (.cells #[.int .i64 (GZ gs 0).id, .string (GZ gs 0).nm, .int .i64 (GZ gs 0).z, .slice A2 (GZ gs 0).xs.length n2] 26)) w' → w'.cell? ⟨wr.heap.size, 1, none⟩ = some (.string (GZ gs 0).nm) := fun w' h => h.keep (by first | assumption | exact (Kept.alloc (Kept.refl _) _).keep (by assumption) | (simp [go_sem]; done) | (simp [go_sem, *]; done))
          have kf2_2 : ∀ w' : World, Root (wr.alloc (.cells #[.int .i64 (GZ gs 0).id, .string (GZ gs 0).nm, .int .i64 (GZ gs 0).z, .slice A2 (GZ gs 0).xs.length n2] 26)) w' → w'.cell? ⟨wr.heap.size, 2, none⟩ = some (.int .i64 (GZ gs 0).z) := fun w' h => h.keep (by first | assumption | exact (Kept.alloc (Kept.refl _) _).keep (by assumption) | (simp [go_sem]; done) | (simp [go_sem, *]; done))
          have kf2_3 : ∀ w' : World, Root (wr.alloc (.cells #[.int .i64 (GZ gs 0).id, .string (GZ gs 0).nm, .int .i64 (GZ gs 0).z, .slice A2 (GZ gs 0).xs.length n2] 26)) w' → w'.cell? ⟨wr.heap.size, 3, none⟩ = some (.slice A2 (GZ gs 0).xs.length n2) := fun w' h => h.keep (by first | assumption | exact (Kept.alloc (Kept.refl _) _).keep (by assumption) | (simp [go_sem]; done) | (simp [go_sem, *]; done))
          refine wp_region_held_drew (S := fun w' => Root (wr.alloc (.cells #[.int .i64 (GZ gs 0).id, .string (GZ gs 0).nm, .int .i64 (GZ gs 0).z, .slice A2 (GZ gs 0).xs.length n2] 26)) w') (by kernel_rfl) (by (try dsimp only); (first | assumption | exact Root.trans (by assumption) hk | exact Root.drew (Root.refl _) | (repeat (first | exact Root.refl _ | assumption | refine Root.alloc ?_ _ | refine Root.drew ?_ | refine Root.setCell ?_ (by first | (simp; done) | (simp; omega) | omega | exact Root.size (by assumption)) _ | refine Root.trans ?_ (by assumption))))) (fun hHeld => ?_)
          refine wpAnyH_take (i := 0) (v := ?_) rfl (by kernel_rfl) (by kernel_rfl) (by kernel_rfl) (fun _ _ _ h => h) (Or.inl ⟨by kernel_rfl, ?_⟩) (by assumption) ?_
          rotate_left
          focus (intro w hSw; (try dsimp only at hSw); go_simp; (try with_reducible rfl))
          (try simp only [Act.put, List.getElem_toArray, List.getElem_cons_zero, List.getElem_cons_succ, List.setIfInBounds_toArray, List.set_cons_zero, List.set_cons_succ])
          refine wpAnyH_ready (rs := [1]) (by kernel_rfl) (by simp) ?_
          refine AllReadyH.cons rfl (fun K hK => ?_) AllReadyH.nil
          go_simp
          (go_at_call 21; refine (HI.out _ (by exact CL.out.kept (by (repeat (first | exact Kept.refl _ | assumption | refine Kept.alloc ?_ _ | refine Kept.drew ?_ | refine Kept.drewN ?_ _ | refine Kept.setCell ?_ (by first | (simp; done) | (simp; omega) | omega | exact Kept.size (by (repeat (first | exact Kept.refl _ | assumption | refine Kept.alloc ?_ _ | refine Kept.drew ?_ | refine Kept.drewN ?_ _ | refine Kept.trans ?_ (by assumption))))) _ | refine Kept.trans ?_ (by assumption)))))).mono ?_; rintro e w1 ⟨rfl, hk⟩; (have hkr := Root.trans (by assumption) hk); (first | (have hkf := From.step (by assumption) hk; obtain ⟨hc, hf⟩ := hkf.cells) | (have hkf := From.start hk; obtain ⟨hc, hf⟩ := hkf.cells)))
          (try go_wp2_with fail)
          refine hK.out _ _ (by (try dsimp only); (first | assumption | exact Root.trans (by assumption) hk | exact Root.drew (Root.refl _) | (repeat (first | exact Root.refl _ | assumption | refine Root.alloc ?_ _ | refine Root.drew ?_ | refine Root.setCell ?_ (by first | (simp; done) | (simp; omega) | omega | exact Root.size (by assumption)) _ | refine Root.trans ?_ (by assumption))))) (fun hHeld => ?_)
          clear hK K
          (try simp only [Act.put, List.getElem_toArray, List.getElem_cons_zero, List.getElem_cons_succ, List.setIfInBounds_toArray, List.set_cons_zero, List.set_cons_succ])
          refine wpAnyH_take (i := 2) (v := ?_) rfl (by kernel_rfl) (by kernel_rfl) (by kernel_rfl) (fun _ _ _ h => h) (Or.inl ⟨by kernel_rfl, ?_⟩) (by assumption) ?_
          rotate_left
          focus (intro w hSw; (try dsimp only at hSw); go_simp; (try with_reducible rfl))
          (try simp only [Act.put, List.getElem_toArray, List.getElem_cons_zero, List.getElem_cons_succ, List.setIfInBounds_toArray, List.set_cons_zero, List.set_cons_succ])
          refine wpAnyH_take (i := 3) (v := ?_) rfl (by kernel_rfl) (by kernel_rfl) (by kernel_rfl) (fun _ _ _ h => h) (Or.inl ⟨by kernel_rfl, ?_⟩) (by assumption) ?_
          rotate_left
          focus (intro w hSw; (try dsimp only at hSw); go_simp; (try with_reducible rfl))
          (try simp only [Act.put, List.getElem_toArray, List.getElem_cons_zero, List.getElem_cons_succ, List.setIfInBounds_toArray, List.set_cons_zero, List.set_cons_succ])
          refine wpAnyH_take (i := 4) (v := ?_) rfl (by kernel_rfl) (by kernel_rfl) (by kernel_rfl) (fun _ _ _ h => h) (Or.inl ⟨by kernel_rfl, ?_⟩) (by assumption) ?_
          rotate_left
          focus (intro w hSw; (try dsimp only at hSw); go_simp; (try with_reducible rfl))
          (try simp only [Act.put, List.getElem_toArray, List.getElem_cons_zero, List.getElem_cons_succ, List.setIfInBounds_toArray, List.set_cons_zero, List.set_cons_succ])
          refine wpAnyH_take (i := 5) (v := ?_) rfl (by kernel_rfl) (by kernel_rfl) (by kernel_rfl) (fun _ _ _ h => h) (Or.inl ⟨by kernel_rfl, ?_⟩) (by assumption) ?_
          rotate_left
          focus (intro w hSw; (try dsimp only at hSw); go_simp; (try with_reducible rfl))
          (try simp only [Act.put, List.getElem_toArray, List.getElem_cons_zero, List.getElem_cons_succ, List.setIfInBounds_toArray, List.set_cons_zero, List.set_cons_succ])
          refine wpAnyH_take (i := 6) (v := ?_) rfl (by kernel_rfl) (by kernel_rfl) (by kernel_rfl) (fun _ _ _ h => h) (Or.inl ⟨by kernel_rfl, ?_⟩) (by assumption) ?_
          rotate_left
          focus (intro w hSw; (try dsimp only at hSw); go_simp; (try with_reducible rfl))
          (try simp only [Act.put, List.getElem_toArray, List.getElem_cons_zero, List.getElem_cons_succ, List.setIfInBounds_toArray, List.set_cons_zero, List.set_cons_succ])
          refine wpAnyH_take (i := 7) rfl (by kernel_rfl) (by kernel_rfl) (by kernel_rfl) (fun _ _ _ h => h) (Or.inr ⟨by kernel_rfl, rfl⟩) (by assumption) ?_
          (try simp only [Act.put, List.getElem_toArray, List.getElem_cons_zero, List.getElem_cons_succ, List.setIfInBounds_toArray, List.set_cons_zero, List.set_cons_succ])
          refine wpAnyH_take (i := 8) rfl (by kernel_rfl) (by kernel_rfl) (by kernel_rfl) (fun _ _ _ h => h) (Or.inr ⟨by kernel_rfl, rfl⟩) (by assumption) ?_
          (try simp only [Act.put, List.getElem_toArray, List.getElem_cons_zero, List.getElem_cons_succ, List.setIfInBounds_toArray, List.set_cons_zero, List.set_cons_succ])
          refine wpAnyH_take (i := 9) rfl (by kernel_rfl) (by kernel_rfl) (by kernel_rfl) (fun _ _ _ h => h) (Or.inr ⟨by kernel_rfl, rfl⟩) (by assumption) ?_
          (try simp only [Act.put, List.getElem_toArray, List.getElem_cons_zero, List.getElem_cons_succ, List.setIfInBounds_toArray, List.set_cons_zero, List.set_cons_succ])
          refine wpAnyH_take (i := 10) rfl (by kernel_rfl) (by kernel_rfl) (by kernel_rfl) (fun _ _ _ h => h) (Or.inr ⟨by kernel_rfl, rfl⟩) (by assumption) ?_
          (try simp only [Act.put, List.getElem_toArray, List.getElem_cons_zero, List.getElem_cons_succ, List.setIfInBounds_toArray, List.set_cons_zero, List.set_cons_succ])
          refine wpAnyH_take (i := 11) rfl (by kernel_rfl) (by kernel_rfl) (by kernel_rfl) (fun _ _ _ h => h) (Or.inr ⟨by kernel_rfl, rfl⟩) (by assumption) ?_
          (try simp only [Act.put, List.getElem_toArray, List.getElem_cons_zero, List.getElem_cons_succ, List.setIfInBounds_toArray, List.set_cons_zero, List.set_cons_succ])
          refine wpAnyH_take (i := 12) rfl (by kernel_rfl) (by kernel_rfl) (by kernel_rfl) (fun _ _ _ h => h) (Or.inr ⟨by kernel_rfl, rfl⟩) (by assumption) ?_
          (try simp only [Act.put, List.getElem_toArray, List.getElem_cons_zero, List.getElem_cons_succ, List.setIfInBounds_toArray, List.set_cons_zero, List.set_cons_succ])
          refine wpAnyH_take (i := 13) rfl (by kernel_rfl) (by kernel_rfl) (by kernel_rfl) (fun _ _ _ h => h) (Or.inr ⟨by kernel_rfl, rfl⟩) (by assumption) ?_
          (try simp only [Act.put, List.getElem_toArray, List.getElem_cons_zero, List.getElem_cons_succ, List.setIfInBounds_toArray, List.set_cons_zero, List.set_cons_succ])
          refine wpAnyH_take (i := 14) rfl (by kernel_rfl) (by kernel_rfl) (by kernel_rfl) (fun _ _ _ h => h) (Or.inr ⟨by kernel_rfl, rfl⟩) (by assumption) ?_
          (try simp only [Act.put, List.getElem_toArray, List.getElem_cons_zero, List.getElem_cons_succ, List.setIfInBounds_toArray, List.set_cons_zero, List.set_cons_succ])
          refine wpAnyH_take (i := 15) rfl (by kernel_rfl) (by kernel_rfl) (by kernel_rfl) (fun _ _ _ h => h) (Or.inr ⟨by kernel_rfl, rfl⟩) (by assumption) ?_
          (try simp only [Act.put, List.getElem_toArray, List.getElem_cons_zero, List.getElem_cons_succ, List.setIfInBounds_toArray, List.set_cons_zero, List.set_cons_succ])
          refine wpAnyH_take (i := 16) (v := ?_) rfl (by kernel_rfl) (by kernel_rfl) (by kernel_rfl) (fun _ _ _ h => h) (Or.inl ⟨by kernel_rfl, ?_⟩) (by assumption) ?_
          rotate_left
          focus (intro w hSw; (try dsimp only at hSw); go_simp; (try with_reducible rfl))
          (try simp only [Act.put, List.getElem_toArray, List.getElem_cons_zero, List.getElem_cons_succ, List.setIfInBounds_toArray, List.set_cons_zero, List.set_cons_succ])
          refine wpAnyH_take (i := 17) (v := ?_) rfl (by kernel_rfl) (by kernel_rfl) (by kernel_rfl) (fun _ _ _ h => h) (Or.inl ⟨by kernel_rfl, ?_⟩) (by assumption) ?_
          rotate_left
          focus (intro w hSw; (try dsimp only at hSw); go_simp; (try with_reducible rfl))
          (try simp only [Act.put, List.getElem_toArray, List.getElem_cons_zero, List.getElem_cons_succ, List.setIfInBounds_toArray, List.set_cons_zero, List.set_cons_succ])
          refine wpAnyH_done (by kernel_rfl) ?_ _
          have hF := fun W hA h1 => containsFunc_any gs 0 c (some ⟨b, off, none⟩) wr.heap.size (GZ gs 0) W (by omega) hm hA h1
          have hq5 : (findTo (nmAt gs (GZ gs 0).nm) 0).isSome = false := rfl
          rw [hq5] at hF
          have HF := Lib.hid hF
          clear hF hq5
          go_wp2_with (go_at_call 86; refine (HF.out _ (fun _ => ⟨b, off, rfl, fun i hi => ⟨_, (HC.out i hi).choose_spec.kept (by (repeat (first | exact Kept.refl _ | assumption | refine Kept.alloc ?_ _ | refine Kept.drew ?_ | refine Kept.drewN ?_ _ | refine Kept.setCell ?_ (by first | (simp; done) | (simp; omega) | omega | exact Kept.size (by (repeat (first | exact Kept.refl _ | assumption | refine Kept.alloc ?_ _ | refine Kept.drew ?_ | refine Kept.drewN ?_ _ | refine Kept.trans ?_ (by assumption))))) _ | refine Kept.trans ?_ (by assumption))))⟩⟩) (by first | assumption | (apply kf2_1; assumption))).mono ?_; rintro e w2 ⟨rfl, hk2⟩)
          go_roundw
          case rel => exact ⟨1, by omega, by go_num, by (repeat (first | exact Kept.refl _ | assumption | refine Kept.alloc ?_ _ | refine Kept.drew ?_ | refine Kept.drewN ?_ _ | refine Kept.setCell ?_ (by first | (simp; done) | (simp; omega) | omega | exact Kept.size (by (repeat (first | exact Kept.refl _ | assumption | refine Kept.alloc ?_ _ | refine Kept.drew ?_ | refine Kept.drewN ?_ _ | refine Kept.trans ?_ (by assumption))))) _ | refine Kept.trans ?_ (by assumption))), HB.out⟩
          case measure => simp [intOf]; omega
        · have d0 := hkw.keep (HC.out (k - 1) (by omega)).choose_spec.c0
          have k0 : (0 : Int) < (k : Int) := by omega
          have k0' : (1 : Int) ≤ (k : Int) := by omega
          have kN : 0 < k := by omega
          have j0 : (0 : Int) ≤ (k : Int) - 1 := by omega
          have j1 : (k : Int) - 1 < (gs.length : Int) := by omega
          have k2 : (k : Int) < (gs.length : Int) := by omega
          rw [h1] at hI
          have HI := Lib.hid hI
          clear hI
          by_cases h4 : (GZ gs (k - 1)).id < (GZ gs k).id
          · have hF := fun W hA h1 => containsFunc_any gs k c (some ⟨b, off, none⟩) wr.heap.size (GZ gs k) W (by omega) hm hA h1
            cases h5 : (findTo (nmAt gs (GZ gs k).nm) k).isSome
            · have HB := Lib.hid (upto_succ (p := fun i => gaugeAt gs i = true) HA.out (show gaugeAt gs k = true by simp [gaugeAt, grB, h1, h4, h5]))
              rw [h5] at hF
              have HF := Lib.hid hF
              clear hF
              go_wp2_with fail
              have ew : IntKind.i64.wrap ((k : Int) - 1) = (k : Int) - 1 := IntWalk.i64_in _ (by omega)
              have kf3_0 : ∀ w' : World, Root (wr.alloc (.cells #[.int .i64 (GZ gs k).id, .string (GZ gs k).nm, .int .i64 (GZ gs k).z, .slice A2 (GZ gs k).xs.length n2] 26)) w' → w'.cell? ⟨wr.heap.size, 0, none⟩ = some (.int .i64 (GZ gs k).id) := fun w' h => h.keep (by first | assumption | exact (Kept.alloc (Kept.refl _) _).keep (by assumption) | (simp [go_sem]; done) | (simp [go_sem, *]; done))
              have kf3_1 : ∀ w' : World, Root (wr.alloc (.cells #[.int .i64 (GZ gs k).id, .string (GZ gs k).nm, .int .i64 (GZ gs k).z, .slice A2 (GZ gs k).xs.length n2] 26)) w' → w'.cell? ⟨wr.heap.size, 1, none⟩ = some (.string (GZ gs k).nm) := fun w' h => h.keep (by first | assumption | exact (Kept.alloc (Kept.refl _) _).keep (by assumption) | (simp [go_sem]; done) | (simp [go_sem, *]; done))
              have kf3_2 : ∀ w' : World, Root (wr.alloc (.cells #[.int .i64 (GZ gs k).id, .string (GZ gs k).nm, .int .i64 (GZ gs k).z, .slice A2 (GZ gs k).xs.length n2] 26)) w' → w'.cell? ⟨wr.heap.size, 2, none⟩ = some (.int .i64 (GZ gs k).z) := fun w' h => h.keep (by first | assumption | exact (Kept.alloc (Kept.refl _) _).keep (by assumption) | (simp [go_sem]; done) | (simp [go_sem, *]; done))
              have kf3_3 : ∀ w' : World, Root (wr.alloc (.cells #[.int .i64 (GZ gs k).id, .string (GZ gs k).nm, .int .i64 (GZ gs k).z, .slice A2 (GZ gs k).xs.length n2] 26)) w' → w'.cell? ⟨wr.heap.size, 3, none⟩ = some (.slice A2 (GZ gs k).xs.length n2) := fun w' h => h.keep (by first | assumption | exact (Kept.alloc (Kept.refl _) _).keep (by assumption) | (simp [go_sem]; done) | (simp [go_sem, *]; done))
              have kf3_4 : ∀ w' : World, Root (wr.alloc (.cells #[.int .i64 (GZ gs k).id, .string (GZ gs k).nm, .int .i64 (GZ gs k).z, .slice A2 (GZ gs k).xs.length n2] 26)) w' → w'.cell? ⟨b, off + (k - 1) * 4, none⟩ = some (.int .i64 (GZ gs (k - 1)).id) := fun w' h => h.keep (by first | assumption | exact (Kept.alloc (Kept.refl _) _).keep (by assumption) | (simp [go_sem]; done) | (simp [go_sem, *]; done))
              refine wp_region_held_drew (S := fun w' => Root (wr.alloc (.cells #[.int .i64 (GZ gs k).id, .string (GZ gs k).nm, .int .i64 (GZ gs k).z, .slice A2 (GZ gs k).xs.length n2] 26)) w') (by kernel_rfl) (by (try dsimp only); (first | assumption | exact Root.trans (by assumption) hk | exact Root.drew (Root.refl _) | (repeat (first | exact Root.refl _ | assumption | refine Root.alloc ?_ _ | refine Root.drew ?_ | refine Root.setCell ?_ (by first | (simp; done) | (simp; omega) | omega | exact Root.size (by assumption)) _ | refine Root.trans ?_ (by assumption))))) (fun hHeld => ?_)
              refine wpAnyH_take (i := 0) (v := ?_) rfl (by kernel_rfl) (by kernel_rfl) (by kernel_rfl) (fun _ _ _ h => h) (Or.inl ⟨by kernel_rfl, ?_⟩) (by assumption) ?_
              rotate_left
              focus (intro w hSw; (try dsimp only at hSw); go_simp; (try with_reducible rfl))
              (try simp only [Act.put, List.getElem_toArray, List.getElem_cons_zero, List.getElem_cons_succ, List.setIfInBounds_toArray, List.set_cons_zero, List.set_cons_succ])
              refine wpAnyH_ready (rs := [1]) (by kernel_rfl) (by simp) ?_
              refine AllReadyH.cons rfl (fun K hK => ?_) AllReadyH.nil
              go_simp
              (go_at_call 21; refine (HI.out _ (by exact CL.out.kept (by (repeat (first | exact Kept.refl _ | assumption | refine Kept.alloc ?_ _ | refine Kept.drew ?_ | refine Kept.drewN ?_ _ | refine Kept.setCell ?_ (by first | (simp; done) | (simp; omega) | omega | exact Kept.size (by (repeat (first | exact Kept.refl _ | assumption | refine Kept.alloc ?_ _ | refine Kept.drew ?_ | refine Kept.drewN ?_ _ | refine Kept.trans ?_ (by assumption))))) _ | refine Kept.trans ?_ (by assumption)))))).mono ?_; rintro e w1 ⟨rfl, hk⟩; (have hkr := Root.trans (by assumption) hk); (first | (have hkf := From.step (by assumption) hk; obtain ⟨hc, hf⟩ := hkf.cells) | (have hkf := From.start hk; obtain ⟨hc, hf⟩ := hkf.cells)))
              (try go_wp2_with fail)
              refine hK.out _ _ (by (try dsimp only); (first | assumption | exact Root.trans (by assumption) hk | exact Root.drew (Root.refl _) | (repeat (first | exact Root.refl _ | assumption | refine Root.alloc ?_ _ | refine Root.drew ?_ | refine Root.setCell ?_ (by first | (simp; done) | (simp; omega) | omega | exact Root.size (by assumption)) _ | refine Root.trans ?_ (by assumption))))) (fun hHeld => ?_)
              clear hK K
              (try simp only [Act.put, List.getElem_toArray, List.getElem_cons_zero, List.getElem_cons_succ, List.setIfInBounds_toArray, List.set_cons_zero, List.set_cons_succ])
              refine wpAnyH_take (i := 2) (v := ?_) rfl (by kernel_rfl) (by kernel_rfl) (by kernel_rfl) (fun _ _ _ h => h) (Or.inl ⟨by kernel_rfl, ?_⟩) (by assumption) ?_
              rotate_left
              focus (intro w hSw; (try dsimp only at hSw); go_simp; (try with_reducible rfl))
              (try simp only [Act.put, List.getElem_toArray, List.getElem_cons_zero, List.getElem_cons_succ, List.setIfInBounds_toArray, List.set_cons_zero, List.set_cons_succ])
              refine wpAnyH_take (i := 3) (v := ?_) rfl (by kernel_rfl) (by kernel_rfl) (by kernel_rfl) (fun _ _ _ h => h) (Or.inl ⟨by kernel_rfl, ?_⟩) (by assumption) ?_
              rotate_left
              focus (intro w hSw; (try dsimp only at hSw); go_simp; (try with_reducible rfl))
              (try simp only [Act.put, List.getElem_toArray, List.getElem_cons_zero, List.getElem_cons_succ, List.setIfInBounds_toArray, List.set_cons_zero, List.set_cons_succ])
              refine wpAnyH_take (i := 4) (v := ?_) rfl (by kernel_rfl) (by kernel_rfl) (by kernel_rfl) (fun _ _ _ h => h) (Or.inl ⟨by kernel_rfl, ?_⟩) (by assumption) ?_
              rotate_left
              focus (intro w hSw; (try dsimp only at hSw); go_simp; (try with_reducible rfl))
              (try simp only [Act.put, List.getElem_toArray, List.getElem_cons_zero, List.getElem_cons_succ, List.setIfInBounds_toArray, List.set_cons_zero, List.set_cons_succ])
              refine wpAnyH_take (i := 5) (v := ?_) rfl (by kernel_rfl) (by kernel_rfl) (by kernel_rfl) (fun _ _ _ h => h) (Or.inl ⟨by kernel_rfl, ?_⟩) (by assumption) ?_
              rotate_left
              focus (intro w hSw; (try dsimp only at hSw); go_simp; (try with_reducible rfl))
              (try simp only [Act.put, List.getElem_toArray, List.getElem_cons_zero, List.getElem_cons_succ, List.setIfInBounds_toArray, List.set_cons_zero, List.set_cons_succ])
              refine wpAnyH_take (i := 6) (v := ?_) rfl (by kernel_rfl) (by kernel_rfl) (by kernel_rfl) (fun _ _ _ h => h) (Or.inl ⟨by kernel_rfl, ?_⟩) (by assumption) ?_
              rotate_left
              focus (intro w hSw; (try dsimp only at hSw); go_simp; (try with_reducible rfl))
              (try simp only [Act.put, List.getElem_toArray, List.getElem_cons_zero, List.getElem_cons_succ, List.setIfInBounds_toArray, List.set_cons_zero, List.set_cons_succ])
              refine wpAnyH_take (i := 7) (v := ?_) rfl (by kernel_rfl) (by kernel_rfl) (by kernel_rfl) (fun _ _ _ h => h) (Or.inl ⟨by kernel_rfl, ?_⟩) (by assumption) ?_
              rotate_left
              focus (intro w hSw; (try dsimp only at hSw); go_simp; (try with_reducible rfl))
              (try simp only [Act.put, List.getElem_toArray, List.getElem_cons_zero, List.getElem_cons_succ, List.setIfInBounds_toArray, List.set_cons_zero, List.set_cons_succ])
              refine wpAnyH_take (i := 8) (v := ?_) rfl (by kernel_rfl) (by kernel_rfl) (by kernel_rfl) (fun _ _ _ h => h) (Or.inl ⟨by kernel_rfl, ?_⟩) (by assumption) ?_
              rotate_left
              focus (intro w hSw; (try dsimp only at hSw); go_simp; (try with_reducible rfl))
              (try simp only [Act.put, List.getElem_toArray, List.getElem_cons_zero, List.getElem_cons_succ, List.setIfInBounds_toArray, List.set_cons_zero, List.set_cons_succ])
              refine wpAnyH_take (i := 9) (v := ?_) rfl (by kernel_rfl) (by kernel_rfl) (by kernel_rfl) (fun _ _ _ h => h) (Or.inl ⟨by kernel_rfl, ?_⟩) (by assumption) ?_
              rotate_left
              focus (intro w hSw; (try dsimp only at hSw); go_simp; (try with_reducible rfl))
              (try simp only [Act.put, List.getElem_toArray, List.getElem_cons_zero, List.getElem_cons_succ, List.setIfInBounds_toArray, List.set_cons_zero, List.set_cons_succ])
              refine wpAnyH_take (i := 10) (v := ?_) rfl (by kernel_rfl) (by kernel_rfl) (by kernel_rfl) (fun _ _ _ h => h) (Or.inl ⟨by kernel_rfl, ?_⟩) (by assumption) ?_
              rotate_left
              focus (intro w hSw; (try dsimp only at hSw); go_simp; (try with_reducible rfl))
              (try simp only [Act.put, List.getElem_toArray, List.getElem_cons_zero, List.getElem_cons_succ, List.setIfInBounds_toArray, List.set_cons_zero, List.set_cons_succ])
              refine wpAnyH_take (i := 11) (v := ?_) rfl (by kernel_rfl) (by kernel_rfl) (by kernel_rfl) (fun _ _ _ h => h) (Or.inl ⟨by kernel_rfl, ?_⟩) (by assumption) ?_
              rotate_left
              focus (intro w hSw; (try dsimp only at hSw); go_simp; (try with_reducible rfl))
              (try simp only [Act.put, List.getElem_toArray, List.getElem_cons_zero, List.getElem_cons_succ, List.setIfInBounds_toArray, List.set_cons_zero, List.set_cons_succ])
              refine wpAnyH_take (i := 12) (v := ?_) rfl (by kernel_rfl) (by kernel_rfl) (by kernel_rfl) (fun _ _ _ h => h) (Or.inl ⟨by kernel_rfl, ?_⟩) (by assumption) ?_
              rotate_left
              focus (intro w hSw; (try dsimp only at hSw); go_simp; (try with_reducible rfl))
              (try simp only [Act.put, List.getElem_toArray, List.getElem_cons_zero, List.getElem_cons_succ, List.setIfInBounds_toArray, List.set_cons_zero, List.set_cons_succ])
              refine wpAnyH_take (i := 13) (v := ?_) rfl (by kernel_rfl) (by kernel_rfl) (by kernel_rfl) (fun _ _ _ h => h) (Or.inl ⟨by kernel_rfl, ?_⟩) (by assumption) ?_
              rotate_left
              focus (intro w hSw; (try dsimp only at hSw); go_simp; (try with_reducible rfl))
              (try simp only [Act.put, List.getElem_toArray, List.getElem_cons_zero, List.getElem_cons_succ, List.setIfInBounds_toArray, List.set_cons_zero, List.set_cons_succ])
              refine wpAnyH_take (i := 14) (v := ?_) rfl (by kernel_rfl) (by kernel_rfl) (by kernel_rfl) (fun _ _ _ h => h) (Or.inl ⟨by kernel_rfl, ?_⟩) (by assumption) ?_
              rotate_left
              focus (intro w hSw; (try dsimp only at hSw); go_simp; (try with_reducible rfl))
              (try simp only [Act.put, List.getElem_toArray, List.getElem_cons_zero, List.getElem_cons_succ, List.setIfInBounds_toArray, List.set_cons_zero, List.set_cons_succ])
              refine wpAnyH_take (i := 15) (v := ?_) rfl (by kernel_rfl) (by kernel_rfl) (by kernel_rfl) (fun _ _ _ h => h) (Or.inl ⟨by kernel_rfl, ?_⟩) (by assumption) ?_
              rotate_left
              focus (intro w hSw; (try dsimp only at hSw); go_simp; (try with_reducible rfl))
              (try simp only [Act.put, List.getElem_toArray, List.getElem_cons_zero, List.getElem_cons_succ, List.setIfInBounds_toArray, List.set_cons_zero, List.set_cons_succ])
              refine wpAnyH_take (i := 16) (v := ?_) rfl (by kernel_rfl) (by kernel_rfl) (by kernel_rfl) (fun _ _ _ h => h) (Or.inl ⟨by kernel_rfl, ?_⟩) (by assumption) ?_
              rotate_left
              focus (intro w hSw; (try dsimp only at hSw); go_simp; (try with_reducible rfl))
              (try simp only [Act.put, List.getElem_toArray, List.getElem_cons_zero, List.getElem_cons_succ, List.setIfInBounds_toArray, List.set_cons_zero, List.set_cons_succ])
              refine wpAnyH_take (i := 17) (v := ?_) rfl (by kernel_rfl) (by kernel_rfl) (by kernel_rfl) (fun _ _ _ h => h) (Or.inl ⟨by kernel_rfl, ?_⟩) (by assumption) ?_
              rotate_left
              focus (intro w hSw; (try dsimp only at hSw); go_simp; (try with_reducible rfl))
              (try simp only [Act.put, List.getElem_toArray, List.getElem_cons_zero, List.getElem_cons_succ, List.setIfInBounds_toArray, List.set_cons_zero, List.set_cons_succ])
              refine wpAnyH_done (by kernel_rfl) ?_ _
              clear ew
              go_wp2_with (go_at_call 86; refine (HF.out _ (fun _ => ⟨b, off, rfl, fun i hi => ⟨_, (HC.out i hi).choose_spec.kept (by (repeat (first | exact Kept.refl _ | assumption | refine Kept.alloc ?_ _ | refine Kept.drew ?_ | refine Kept.drewN ?_ _ | refine Kept.setCell ?_ (by first | (simp; done) | (simp; omega) | omega | exact Kept.size (by (repeat (first | exact Kept.refl _ | assumption | refine Kept.alloc ?_ _ | refine Kept.drew ?_ | refine Kept.drewN ?_ _ | refine Kept.trans ?_ (by assumption))))) _ | refine Kept.trans ?_ (by assumption))))⟩⟩) (by first | assumption | (apply kf3_1; assumption))).mono ?_; rintro e w2 ⟨rfl, hk2⟩)
              go_roundw
              case rel => exact ⟨k + 1, by omega, by go_num, by (repeat (first | exact Kept.refl _ | assumption | refine Kept.alloc ?_ _ | refine Kept.drew ?_ | refine Kept.drewN ?_ _ | refine Kept.setCell ?_ (by first | (simp; done) | (simp; omega) | omega | exact Kept.size (by (repeat (first | exact Kept.refl _ | assumption | refine Kept.alloc ?_ _ | refine Kept.drew ?_ | refine Kept.drewN ?_ _ | refine Kept.trans ?_ (by assumption))))) _ | refine Kept.trans ?_ (by assumption))), HB.out⟩
              case measure => simp [intOf]; omega
            · have HN := Lib.hid (gaugesB_no hlt (show gaugeAt gs k = false by simp [gaugeAt, h5]))
              rw [h5] at hF
              have HF := Lib.hid hF
              clear hF
              go_wp2_with fail
              have ew : IntKind.i64.wrap ((k : Int) - 1) = (k : Int) - 1 := IntWalk.i64_in _ (by omega)
              have kf4_0 : ∀ w' : World, Root (wr.alloc (.cells #[.int .i64 (GZ gs k).id, .string (GZ gs k).nm, .int .i64 (GZ gs k).z, .slice A2 (GZ gs k).xs.length n2] 26)) w' → w'.cell? ⟨wr.heap.size, 0, none⟩ = some (.int .i64 (GZ gs k).id) := fun w' h => h.keep (by first | assumption | exact (Kept.alloc (Kept.refl _) _).keep (by assumption) | (simp [go_sem]; done) | (simp [go_sem, *]; done))
              have kf4_1 : ∀ w' : World, Root (wr.alloc (.cells #[.int .i64 (GZ gs k).id, .string (GZ gs k).nm, .int .i64 (GZ gs k).z, .slice A2 (GZ gs k).xs.length n2] 26)) w' → w'.cell? ⟨wr.heap.size, 1, none⟩ = some (.string (GZ gs k).nm) := fun w' h => h.keep (by first | assumption | exact (Kept.alloc (Kept.refl _) _).keep (by assumption) | (simp [go_sem]; done) | (simp [go_sem, *]; done))
              have kf4_2 : ∀ w' : World, Root (wr.alloc (.cells #[.int .i64 (GZ gs k).id, .string (GZ gs k).nm, .int .i64 (GZ gs k).z, .slice A2 (GZ gs k).xs.length n2] 26)) w' → w'.cell? ⟨wr.heap.size, 2, none⟩ = some (.int .i64 (GZ gs k).z) := fun w' h => h.keep (by first | assumption | exact (Kept.alloc (Kept.refl _) _).keep (by assumption) | (simp [go_sem]; done) | (simp [go_sem, *]; done))
              have kf4_3 : ∀ w' : World, Root (wr.alloc (.cells #[.int .i64 (GZ gs k).id, .string (GZ gs k).nm, .int .i64 (GZ gs k).z, .slice A2 (GZ gs k).xs.length n2] 26)) w' → w'.cell? ⟨wr.heap.size, 3, none⟩ = some (.slice A2 (GZ gs k).xs.length n2) := fun w' h => h.keep (by first | assumption | exact (Kept.alloc (Kept.refl _) _).keep (by assumption) | (simp [go_sem]; done) | (simp [go_sem, *]; done))
              have kf4_4 : ∀ w' : World, Root (wr.alloc (.cells #[.int .i64 (GZ gs k).id, .string (GZ gs k).nm, .int .i64 (GZ gs k).z, .slice A2 (GZ gs k).xs.length n2] 26)) w' → w'.cell? ⟨b, off + (k - 1) * 4, none⟩ = some (.int .i64 (GZ gs (k - 1)).id) := fun w' h => h.keep (by first | assumption | exact (Kept.alloc (Kept.refl _) _).keep (by assumption) | (simp [go_sem]; done) | (simp [go_sem, *]; done))
              refine wp_region_held_drew (S := fun w' => Root (wr.alloc (.cells #[.int .i64 (GZ gs k).id, .string (GZ gs k).nm, .int .i64 (GZ gs k).z, .slice A2 (GZ gs k).xs.length n2] 26)) w') (by kernel_rfl) (by (try dsimp only); (first | assumption | exact Root.trans (by assumption) hk | exact Root.drew (Root.refl _) | (repeat (first | exact Root.refl _ | assumption | refine Root.alloc ?_ _ | refine Root.drew ?_ | refine Root.setCell ?_ (by first | (simp; done) | (simp; omega) | omega | exact Root.size (by assumption)) _ | refine Root.trans ?_ (by assumption))))) (fun hHeld => ?_)
              refine wpAnyH_take (i := 0) (v := ?_) rfl (by kernel_rfl) (by kernel_rfl) (by kernel_rfl) (fun _ _ _ h => h) (Or.inl ⟨by kernel_rfl, ?_⟩) (by assumption) ?_
              rotate_left
              focus (intro w hSw; (try dsimp only at hSw); go_simp; (try with_reducible rfl))
              (try simp only [Act.put, List.getElem_toArray, List.getElem_cons_zero, List.getElem_cons_succ, List.setIfInBounds_toArray, List.set_cons_zero, List.set_cons_succ])
              refine wpAnyH_ready (rs := [1]) (by kernel_rfl) (by simp) ?_
              refine AllReadyH.cons rfl (fun K hK => ?_) AllReadyH.nil
              go_simp
              (go_at_call 21; refine (HI.out _ (by exact CL.out.kept (by (repeat (first | exact Kept.refl _ | assumption | refine Kept.alloc ?_ _ | refine Kept.drew ?_ | refine Kept.drewN ?_ _ | refine Kept.setCell ?_ (by first | (simp; done) | (simp; omega) | omega | exact Kept.size (by (repeat (first | exact Kept.refl _ | assumption | refine Kept.alloc ?_ _ | refine Kept.drew ?_ | refine Kept.drewN ?_ _ | refine Kept.trans ?_ (by assumption))))) _ | refine Kept.trans ?_ (by assumption)))))).mono ?_; rintro e w1 ⟨rfl, hk⟩; (have hkr := Root.trans (by assumption) hk); (first | (have hkf := From.step (by assumption) hk; obtain ⟨hc, hf⟩ := hkf.cells) | (have hkf := From.start hk; obtain ⟨hc, hf⟩ := hkf.cells)))
              (try go_wp2_with fail)
              refine hK.out _ _ (by (try dsimp only); (first | assumption | exact Root.trans (by assumption) hk | exact Root.drew (Root.refl _) | (repeat (first | exact Root.refl _ | assumption | refine Root.alloc ?_ _ | refine Root.drew ?_ | refine Root.setCell ?_ (by first | (simp; done) | (simp; omega) | omega | exact Root.size (by assumption)) _ | refine Root.trans ?_ (by assumption))))) (fun hHeld => ?_)
              clear hK K
              (try simp only [Act.put, List.getElem_toArray, List.getElem_cons_zero, List.getElem_cons_succ, List.setIfInBounds_toArray, List.set_cons_zero, List.set_cons_succ])
              refine wpAnyH_take (i := 2) (v := ?_) rfl (by kernel_rfl) (by kernel_rfl) (by kernel_rfl) (fun _ _ _ h => h) (Or.inl ⟨by kernel_rfl, ?_⟩) (by assumption) ?_
              rotate_left
              focus (intro w hSw; (try dsimp only at hSw); go_simp; (try with_reducible rfl))
              (try simp only [Act.put, List.getElem_toArray, List.getElem_cons_zero, List.getElem_cons_succ, List.setIfInBounds_toArray, List.set_cons_zero, List.set_cons_succ])
              refine wpAnyH_take (i := 3) (v := ?_) rfl (by kernel_rfl) (by kernel_rfl) (by kernel_rfl) (fun _ _ _ h => h) (Or.inl ⟨by kernel_rfl, ?_⟩) (by assumption) ?_
              rotate_left
              focus (intro w hSw; (try dsimp only at hSw); go_simp; (try with_reducible rfl))
              (try simp only [Act.put, List.getElem_toArray, List.getElem_cons_zero, List.getElem_cons_succ, List.setIfInBounds_toArray, List.set_cons_zero, List.set_cons_succ])
              refine wpAnyH_take (i := 4) (v := ?_) rfl (by kernel_rfl) (by kernel_rfl) (by kernel_rfl) (fun _ _ _ h => h) (Or.inl ⟨by kernel_rfl, ?_⟩) (by assumption) ?_
              rotate_left
              focus (intro w hSw; (try dsimp only at hSw); go_simp; (try with_reducible rfl))
              (try simp only [Act.put, List.getElem_toArray, List.getElem_cons_zero, List.getElem_cons_succ, List.setIfInBounds_toArray, List.set_cons_zero, List.set_cons_succ])
              refine wpAnyH_take (i := 5) (v := ?_) rfl (by kernel_rfl) (by kernel_rfl) (by kernel_rfl) (fun _ _ _ h => h) (Or.inl ⟨by kernel_rfl, ?_⟩) (by assumption) ?_
              rotate_left
              focus (intro w hSw; (try dsimp only at hSw); go_simp; (try with_reducible rfl))
              (try simp only [Act.put, List.getElem_toArray, List.getElem_cons_zero, List.getElem_cons_succ, List.setIfInBounds_toArray, List.set_cons_zero, List.set_cons_succ])
              refine wpAnyH_take (i := 6) (v := ?_) rfl (by kernel_rfl) (by kernel_rfl) (by kernel_rfl) (fun _ _ _ h => h) (Or.inl ⟨by kernel_rfl, ?_⟩) (by assumption) ?_
              rotate_left
              focus (intro w hSw; (try dsimp only at hSw); go_simp; (try with_reducible rfl))
              (try simp only [Act.put, List.getElem_toArray, List.getElem_cons_zero, List.getElem_cons_succ, List.setIfInBounds_toArray, List.set_cons_zero, List.set_cons_succ])
              refine wpAnyH_take (i := 7) (v := ?_) rfl (by kernel_rfl) (by kernel_rfl) (by kernel_rfl) (fun _ _ _ h => h) (Or.inl ⟨by kernel_rfl, ?_⟩) (by assumption) ?_
              rotate_left
              focus (intro w hSw; (try dsimp only at hSw); go_simp; (try with_reducible rfl))
              (try simp only [Act.put, List.getElem_toArray, List.getElem_cons_zero, List.getElem_cons_succ, List.setIfInBounds_toArray, List.set_cons_zero, List.set_cons_succ])
              refine wpAnyH_take (i := 8) (v := ?_) rfl (by kernel_rfl) (by kernel_rfl) (by kernel_rfl) (fun _ _ _ h => h) (Or.inl ⟨by kernel_rfl, ?_⟩) (by assumption) ?_
              rotate_left
              focus (intro w hSw; (try dsimp only at hSw); go_simp; (try with_reducible rfl))
              (try simp only [Act.put, List.getElem_toArray, List.getElem_cons_zero, List.getElem_cons_succ, List.setIfInBounds_toArray, List.set_cons_zero, List.set_cons_succ])
              refine wpAnyH_take (i := 9) (v := ?_) rfl (by kernel_rfl) (by kernel_rfl) (by kernel_rfl) (fun _ _ _ h => h) (Or.inl ⟨by kernel_rfl, ?_⟩) (by assumption) ?_
              rotate_left
              focus (intro w hSw; (try dsimp only at hSw); go_simp; (try with_reducible rfl))
              (try simp only [Act.put, List.getElem_toArray, List.getElem_cons_zero, List.getElem_cons_succ, List.setIfInBounds_toArray, List.set_cons_zero, List.set_cons_succ])
              refine wpAnyH_take (i := 10) (v := ?_) rfl (by kernel_rfl) (by kernel_rfl) (by kernel_rfl) (fun _ _ _ h => h) (Or.inl ⟨by kernel_rfl, ?_⟩) (by assumption) ?_
              rotate_left
              focus (intro w hSw; (try dsimp only at hSw); go_simp; (try with_reducible rfl))
              (try simp only [Act.put, List.getElem_toArray, List.getElem_cons_zero, List.getElem_cons_succ, List.setIfInBounds_toArray, List.set_cons_zero, List.set_cons_succ])
              refine wpAnyH_take (i := 11) (v := ?_) rfl (by kernel_rfl) (by kernel_rfl) (by kernel_rfl) (fun _ _ _ h => h) (Or.inl ⟨by kernel_rfl, ?_⟩) (by assumption) ?_
              rotate_left
              focus (intro w hSw; (try dsimp only at hSw); go_simp; (try with_reducible rfl))
              (try simp only [Act.put, List.getElem_toArray, List.getElem_cons_zero, List.getElem_cons_succ, List.setIfInBounds_toArray, List.set_cons_zero, List.set_cons_succ])
              refine wpAnyH_take (i := 12) (v := ?_) rfl (by kernel_rfl) (by kernel_rfl) (by kernel_rfl) (fun _ _ _ h => h) (Or.inl ⟨by kernel_rfl, ?_⟩) (by assumption) ?_
              rotate_left
              focus (intro w hSw; (try dsimp only at hSw); go_simp; (try with_reducible rfl))
              (try simp only [Act.put, List.getElem_toArray, List.getElem_cons_zero, List.getElem_cons_succ, List.setIfInBounds_toArray, List.set_cons_zero, List.set_cons_succ])
              refine wpAnyH_take (i := 13) (v := ?_) rfl (by kernel_rfl) (by kernel_rfl) (by kernel_rfl) (fun _ _ _ h => h) (Or.inl ⟨by kernel_rfl, ?_⟩) (by assumption) ?_
              rotate_left
              focus (intro w hSw; (try dsimp only at hSw); go_simp; (try with_reducible rfl))
              (try simp only [Act.put, List.getElem_toArray, List.getElem_cons_zero, List.getElem_cons_succ, List.setIfInBounds_toArray, List.set_cons_zero, List.set_cons_succ])
              refine wpAnyH_take (i := 14) (v := ?_) rfl (by kernel_rfl) (by kernel_rfl) (by kernel_rfl) (fun _ _ _ h => h) (Or.inl ⟨by kernel_rfl, ?_⟩) (by assumption) ?_
              rotate_left
              focus (intro w hSw; (try dsimp only at hSw); go_simp; (try with_reducible rfl))
              (try simp only [Act.put, List.getElem_toArray, List.getElem_cons_zero, List.getElem_cons_succ, List.setIfInBounds_toArray, List.set_cons_zero, List.set_cons_succ])
              refine wpAnyH_take (i := 15) (v := ?_) rfl (by kernel_rfl) (by kernel_rfl) (by kernel_rfl) (fun _ _ _ h => h) (Or.inl ⟨by kernel_rfl, ?_⟩) (by assumption) ?_
              rotate_left
              focus (intro w hSw; (try dsimp only at hSw); go_simp; (try with_reducible rfl))
              (try simp only [Act.put, List.getElem_toArray, List.getElem_cons_zero, List.getElem_cons_succ, List.setIfInBounds_toArray, List.set_cons_zero, List.set_cons_succ])
              refine wpAnyH_take (i := 16) (v := ?_) rfl (by kernel_rfl) (by kernel_rfl) (by kernel_rfl) (fun _ _ _ h => h) (Or.inl ⟨by kernel_rfl, ?_⟩) (by assumption) ?_
              rotate_left
              focus (intro w hSw; (try dsimp only at hSw); go_simp; (try with_reducible rfl))
              (try simp only [Act.put, List.getElem_toArray, List.getElem_cons_zero, List.getElem_cons_succ, List.setIfInBounds_toArray, List.set_cons_zero, List.set_cons_succ])
              refine wpAnyH_take (i := 17) (v := ?_) rfl (by kernel_rfl) (by kernel_rfl) (by kernel_rfl) (fun _ _ _ h => h) (Or.inl ⟨by kernel_rfl, ?_⟩) (by assumption) ?_
              rotate_left
              focus (intro w hSw; (try dsimp only at hSw); go_simp; (try with_reducible rfl))
              (try simp only [Act.put, List.getElem_toArray, List.getElem_cons_zero, List.getElem_cons_succ, List.setIfInBounds_toArray, List.set_cons_zero, List.set_cons_succ])
              refine wpAnyH_done (by kernel_rfl) ?_ _
              clear ew
              go_wp2_with (go_at_call 86; refine (HF.out _ (fun _ => ⟨b, off, rfl, fun i hi => ⟨_, (HC.out i hi).choose_spec.kept (by (repeat (first | exact Kept.refl _ | assumption | refine Kept.alloc ?_ _ | refine Kept.drew ?_ | refine Kept.drewN ?_ _ | refine Kept.setCell ?_ (by first | (simp; done) | (simp; omega) | omega | exact Kept.size (by (repeat (first | exact Kept.refl _ | assumption | refine Kept.alloc ?_ _ | refine Kept.drew ?_ | refine Kept.drewN ?_ _ | refine Kept.trans ?_ (by assumption))))) _ | refine Kept.trans ?_ (by assumption))))⟩⟩) (by first | assumption | (apply kf4_1; assumption))).mono ?_; rintro e w2 ⟨rfl, hk2⟩)
              go_ret
              exact ⟨ret_bool HN.out.symm, by (repeat (first | exact Kept.refl _ | assumption | refine Kept.alloc ?_ _ | refine Kept.drew ?_ | refine Kept.drewN ?_ _ | refine Kept.setCell ?_ (by first | (simp; done) | (simp; omega) | omega | exact Kept.size (by (repeat (first | exact Kept.refl _ | assumption | refine Kept.alloc ?_ _ | refine Kept.drew ?_ | refine Kept.drewN ?_ _ | refine Kept.trans ?_ (by assumption))))) _ | refine Kept.trans ?_ (by assumption)))⟩
          · have HN := Lib.hid (gaugesB_no hlt (show gaugeAt gs k = false by simp [gaugeAt, h3]; omega))
            have h6 : (GZ gs k).id ≤ (GZ gs (k - 1)).id := by omega
            go_wp2_with fail
            have ew : IntKind.i64.wrap ((k : Int) - 1) = (k : Int) - 1 := IntWalk.i64_in _ (by omega)
            have kf5_0 : ∀ w' : World, Root (wr.alloc (.cells #[.int .i64 (GZ gs k).id, .string (GZ gs k).nm, .int .i64 (GZ gs k).z, .slice A2 (GZ gs k).xs.length n2] 26)) w' → w'.cell? ⟨wr.heap.size, 0, none⟩ = some (.int .i64 (GZ gs k).id) := fun w' h => h.keep (by first | assumption | exact (Kept.alloc (Kept.refl _) _).keep (by assumption) | (simp [go_sem]; done) | (simp [go_sem, *]; done))
            have kf5_1 : ∀ w' : World, Root (wr.alloc (.cells #[.int .i64 (GZ gs k).id, .string (GZ gs k).nm, .int .i64 (GZ gs k).z, .slice A2 (GZ gs k).xs.length n2] 26)) w' → w'.cell? ⟨wr.heap.size, 1, none⟩ = some (.string (GZ gs k).nm) := fun w' h => h.keep (by first | assumption | exact (Kept.alloc (Kept.refl _) _).keep (by assumption) | (simp [go_sem]; done) | (simp [go_sem, *]; done))
            have kf5_2 : ∀ w' : World, Root (wr.alloc (.cells #[.int .i64 (GZ gs k).id, .string (GZ gs k).nm, .int .i64 (GZ gs k).z, .slice A2 (GZ gs k).xs.length n2] 26)) w' → w'.cell? ⟨wr.heap.size, 2, none⟩ = some (.int .i64 (GZ gs k).z) := fun w' h => h.keep (by first | assumption | exact (Kept.alloc (Kept.refl _) _).keep (by assumption) | (simp [go_sem]; done) | (simp [go_sem, *]; done))
            have kf5_3 : ∀ w' : World, Root (wr.alloc (.cells #[.int .i64 (GZ gs k).id, .string (GZ gs k).nm, .int .i64 (GZ gs k).z, .slice A2 (GZ gs k).xs.length n2] 26)) w' → w'.cell? ⟨wr.heap.size, 3, none⟩ = some (.slice A2 (GZ gs k).xs.length n2) := fun w' h => h.keep (by first | assumption | exact (Kept.alloc (Kept.refl _) _).keep (by assumption) | (simp [go_sem]; done) | (simp [go_sem, *]; done))
            have kf5_4 : ∀ w' : World, Root (wr.alloc (.cells #[.int .i64 (GZ gs k).id, .string (GZ gs k).nm, .int .i64 (GZ gs k).z, .slice A2 (GZ gs k).xs.length n2] 26)) w' → w'.cell? ⟨b, off + (k - 1) * 4, none⟩ = some (.int .i64 (GZ gs (k - 1)).id) := fun w' h => h.keep (by first | assumption | exact (Kept.alloc (Kept.refl _) _).keep (by assumption) | (simp [go_sem]; done) | (simp [go_sem, *]; done))
            refine wp_region_held_drew (S := fun w' => Root (wr.alloc (.cells #[.int .i64 (GZ gs k).id, .string (GZ gs k).nm, .int .i64 (GZ gs k).z, .slice A2 (GZ gs k).xs.length n2] 26)) w') (by kernel_rfl) (by (try dsimp only); (first | assumption | exact Root.trans (by assumption) hk | exact Root.drew (Root.refl _) | (repeat (first | exact Root.refl _ | assumption | refine Root.alloc ?_ _ | refine Root.drew ?_ | refine Root.setCell ?_ (by first | (simp; done) | (simp; omega) | omega | exact Root.size (by assumption)) _ | refine Root.trans ?_ (by assumption))))) (fun hHeld => ?_)
            refine wpAnyH_take (i := 0) (v := ?_) rfl (by kernel_rfl) (by kernel_rfl) (by kernel_rfl) (fun _ _ _ h => h) (Or.inl ⟨by kernel_rfl, ?_⟩) (by assumption) ?_
            rotate_left
            focus (intro w hSw; (try dsimp only at hSw); go_simp; (try with_reducible rfl))
            (try simp only [Act.put, List.getElem_toArray, List.getElem_cons_zero, List.getElem_cons_succ, List.setIfInBounds_toArray, List.set_cons_zero, List.set_cons_succ])
            refine wpAnyH_ready (rs := [1]) (by kernel_rfl) (by simp) ?_
            refine AllReadyH.cons rfl (fun K hK => ?_) AllReadyH.nil
            go_simp
            (go_at_call 21; refine (HI.out _ (by exact CL.out.kept (by (repeat (first | exact Kept.refl _ | assumption | refine Kept.alloc ?_ _ | refine Kept.drew ?_ | refine Kept.drewN ?_ _ | refine Kept.setCell ?_ (by first | (simp; done) | (simp; omega) | omega | exact Kept.size (by (repeat (first | exact Kept.refl _ | assumption | refine Kept.alloc ?_ _ | refine Kept.drew ?_ | refine Kept.drewN ?_ _ | refine Kept.trans ?_ (by assumption))))) _ | refine Kept.trans ?_ (by assumption)))))).mono ?_; rintro e w1 ⟨rfl, hk⟩; (have hkr := Root.trans (by assumption) hk); (first | (have hkf := From.step (by assumption) hk; obtain ⟨hc, hf⟩ := hkf.cells) | (have hkf := From.start hk; obtain ⟨hc, hf⟩ := hkf.cells)))
            (try go_wp2_with fail)
            refine hK.out _ _ (by (try dsimp only); (first | assumption | exact Root.trans (by assumption) hk | exact Root.drew (Root.refl _) | (repeat (first | exact Root.refl _ | assumption | refine Root.alloc ?_ _ | refine Root.drew ?_ | refine Root.setCell ?_ (by first | (simp; done) | (simp; omega) | omega | exact Root.size (by assumption)) _ | refine Root.trans ?_ (by assumption))))) (fun hHeld => ?_)
            clear hK K
            (try simp only [Act.put, List.getElem_toArray, List.getElem_cons_zero, List.getElem_cons_succ, List.setIfInBounds_toArray, List.set_cons_zero, List.set_cons_succ])
            refine wpAnyH_take (i := 2) (v := ?_) rfl (by kernel_rfl) (by kernel_rfl) (by kernel_rfl) (fun _ _ _ h => h) (Or.inl ⟨by kernel_rfl, ?_⟩) (by assumption) ?_
            rotate_left
            focus (intro w hSw; (try dsimp only at hSw); go_simp; (try with_reducible rfl))
            (try simp only [Act.put, List.getElem_toArray, List.getElem_cons_zero, List.getElem_cons_succ, List.setIfInBounds_toArray, List.set_cons_zero, List.set_cons_succ])
            refine wpAnyH_take (i := 3) (v := ?_) rfl (by kernel_rfl) (by kernel_rfl) (by kernel_rfl) (fun _ _ _ h => h) (Or.inl ⟨by kernel_rfl, ?_⟩) (by assumption) ?_
            rotate_left
            focus (intro w hSw; (try dsimp only at hSw); go_simp; (try with_reducible rfl))
            (try simp only [Act.put, List.getElem_toArray, List.getElem_cons_zero, List.getElem_cons_succ, List.setIfInBounds_toArray, List.set_cons_zero, List.set_cons_succ])
            refine wpAnyH_take (i := 4) (v := ?_) rfl (by kernel_rfl) (by kernel_rfl) (by kernel_rfl) (fun _ _ _ h => h) (Or.inl ⟨by kernel_rfl, ?_⟩) (by assumption) ?_
            rotate_left
            focus (intro w hSw; (try dsimp only at hSw); go_simp; (try with_reducible rfl))
            (try simp only [Act.put, List.getElem_toArray, List.getElem_cons_zero, List.getElem_cons_succ, List.setIfInBounds_toArray, List.set_cons_zero, List.set_cons_succ])
            refine wpAnyH_take (i := 5) (v := ?_) rfl (by kernel_rfl) (by kernel_rfl) (by kernel_rfl) (fun _ _ _ h => h) (Or.inl ⟨by kernel_rfl, ?_⟩) (by assumption) ?_
            rotate_left
            focus (intro w hSw; (try dsimp only at hSw); go_simp; (try with_reducible rfl))
            (try simp only [Act.put, List.getElem_toArray, List.getElem_cons_zero, List.getElem_cons_succ, List.setIfInBounds_toArray, List.set_cons_zero, List.set_cons_succ])
            refine wpAnyH_take (i := 6) (v := ?_) rfl (by kernel_rfl) (by kernel_rfl) (by kernel_rfl) (fun _ _ _ h => h) (Or.inl ⟨by kernel_rfl, ?_⟩) (by assumption) ?_
            rotate_left
            focus (intro w hSw; (try dsimp only at hSw); go_simp; (try with_reducible rfl))
            (try simp only [Act.put, List.getElem_toArray, List.getElem_cons_zero, List.getElem_cons_succ, List.setIfInBounds_toArray, List.set_cons_zero, List.set_cons_succ])
            refine wpAnyH_take (i := 7) (v := ?_) rfl (by kernel_rfl) (by kernel_rfl) (by kernel_rfl) (fun _ _ _ h => h) (Or.inl ⟨by kernel_rfl, ?_⟩) (by assumption) ?_
            rotate_left
            focus (intro w hSw; (try dsimp only at hSw); go_simp; (try with_reducible rfl))
            (try simp only [Act.put, List.getElem_toArray, List.getElem_cons_zero, List.getElem_cons_succ, List.setIfInBounds_toArray, List.set_cons_zero, List.set_cons_succ])
            refine wpAnyH_take (i := 8) (v := ?_) rfl (by kernel_rfl) (by kernel_rfl) (by kernel_rfl) (fun _ _ _ h => h) (Or.inl ⟨by kernel_rfl, ?_⟩) (by assumption) ?_
            rotate_left
            focus (intro w hSw; (try dsimp only at hSw); go_simp; (try with_reducible rfl))
            (try simp only [Act.put, List.getElem_toArray, List.getElem_cons_zero, List.getElem_cons_succ, List.setIfInBounds_toArray, List.set_cons_zero, List.set_cons_succ])
            refine wpAnyH_take (i := 9) (v := ?_) rfl (by kernel_rfl) (by kernel_rfl) (by kernel_rfl) (fun _ _ _ h => h) (Or.inl ⟨by kernel_rfl, ?_⟩) (by assumption) ?_
            rotate_left
            focus (intro w hSw; (try dsimp only at hSw); go_simp; (try with_reducible rfl))
            (try simp only [Act.put, List.getElem_toArray, List.getElem_cons_zero, List.getElem_cons_succ, List.setIfInBounds_toArray, List.set_cons_zero, List.set_cons_succ])
            refine wpAnyH_take (i := 10) (v := ?_) rfl (by kernel_rfl) (by kernel_rfl) (by kernel_rfl) (fun _ _ _ h => h) (Or.inl ⟨by kernel_rfl, ?_⟩) (by assumption) ?_
            rotate_left
            focus (intro w hSw; (try dsimp only at hSw); go_simp; (try with_reducible rfl))
            (try simp only [Act.put, List.getElem_toArray, List.getElem_cons_zero, List.getElem_cons_succ, List.setIfInBounds_toArray, List.set_cons_zero, List.set_cons_succ])
            refine wpAnyH_take (i := 11) (v := ?_) rfl (by kernel_rfl) (by kernel_rfl) (by kernel_rfl) (fun _ _ _ h => h) (Or.inl ⟨by kernel_rfl, ?_⟩) (by assumption) ?_
            rotate_left
            focus (intro w hSw; (try dsimp only at hSw); go_simp; (try with_reducible rfl))
            (try simp only [Act.put, List.getElem_toArray, List.getElem_cons_zero, List.getElem_cons_succ, List.setIfInBounds_toArray, List.set_cons_zero, List.set_cons_succ])
            refine wpAnyH_take (i := 12) (v := ?_) rfl (by kernel_rfl) (by kernel_rfl) (by kernel_rfl) (fun _ _ _ h => h) (Or.inl ⟨by kernel_rfl, ?_⟩) (by assumption) ?_
            rotate_left
            focus (intro w hSw; (try dsimp only at hSw); go_simp; (try with_reducible rfl))
            (try simp only [Act.put, List.getElem_toArray, List.getElem_cons_zero, List.getElem_cons_succ, List.setIfInBounds_toArray, List.set_cons_zero, List.set_cons_succ])
            refine wpAnyH_take (i := 13) (v := ?_) rfl (by kernel_rfl) (by kernel_rfl) (by kernel_rfl) (fun _ _ _ h => h) (Or.inl ⟨by kernel_rfl, ?_⟩) (by assumption) ?_
            rotate_left
            focus (intro w hSw; (try dsimp only at hSw); go_simp; (try with_reducible rfl))
            (try simp only [Act.put, List.getElem_toArray, List.getElem_cons_zero, List.getElem_cons_succ, List.setIfInBounds_toArray, List.set_cons_zero, List.set_cons_succ])
            refine wpAnyH_take (i := 14) (v := ?_) rfl (by kernel_rfl) (by kernel_rfl) (by kernel_rfl) (fun _ _ _ h => h) (Or.inl ⟨by kernel_rfl, ?_⟩) (by assumption) ?_
            rotate_left
            focus (intro w hSw; (try dsimp only at hSw); go_simp; (try with_reducible rfl))
            (try simp only [Act.put, List.getElem_toArray, List.getElem_cons_zero, List.getElem_cons_succ, List.setIfInBounds_toArray, List.set_cons_zero, List.set_cons_succ])
            refine wpAnyH_take (i := 15) (v := ?_) rfl (by kernel_rfl) (by kernel_rfl) (by kernel_rfl) (fun _ _ _ h => h) (Or.inl ⟨by kernel_rfl, ?_⟩) (by assumption) ?_
            rotate_left
            focus (intro w hSw; (try dsimp only at hSw); go_simp; (try with_reducible rfl))
            (try simp only [Act.put, List.getElem_toArray, List.getElem_cons_zero, List.getElem_cons_succ, List.setIfInBounds_toArray, List.set_cons_zero, List.set_cons_succ])
            refine wpAnyH_take (i := 16) (v := ?_) rfl (by kernel_rfl) (by kernel_rfl) (by kernel_rfl) (fun _ _ _ h => h) (Or.inl ⟨by kernel_rfl, ?_⟩) (by assumption) ?_
            rotate_left
            focus (intro w hSw; (try dsimp only at hSw); go_simp; (try with_reducible rfl))
            (try simp only [Act.put, List.getElem_toArray, List.getElem_cons_zero, List.getElem_cons_succ, List.setIfInBounds_toArray, List.set_cons_zero, List.set_cons_succ])
            refine wpAnyH_take (i := 17) (v := ?_) rfl (by kernel_rfl) (by kernel_rfl) (by kernel_rfl) (fun _ _ _ h => h) (Or.inl ⟨by kernel_rfl, ?_⟩) (by assumption) ?_
            rotate_left
            focus (intro w hSw; (try dsimp only at hSw); go_simp; (try with_reducible rfl))
            (try simp only [Act.put, List.getElem_toArray, List.getElem_cons_zero, List.getElem_cons_succ, List.setIfInBounds_toArray, List.set_cons_zero, List.set_cons_succ])
            refine wpAnyH_done (by kernel_rfl) ?_ _
            clear ew
            go_wp2
            go_ret
            exact ⟨ret_bool HN.out.symm, by (repeat (first | exact Kept.refl _ | assumption | refine Kept.alloc ?_ _ | refine Kept.drew ?_ | refine Kept.drewN ?_ _ | refine Kept.setCell ?_ (by first | (simp; done) | (simp; omega) | omega | exact Kept.size (by (repeat (first | exact Kept.refl _ | assumption | refine Kept.alloc ?_ _ | refine Kept.drew ?_ | refine Kept.drewN ?_ _ | refine Kept.trans ?_ (by assumption))))) _ | refine Kept.trans ?_ (by assumption)))⟩
    · have e : k = gs.length := by omega
      have HF : Hid (gaugesB gs = decide ((gs.length : Int) ≤ 6)) := gaugesB_all (fun i hi => HA.out i (by omega))
      clear e hA hz
      go_wp2
      go_ret
      exact ⟨ret_bool HF.out.symm, by (repeat (first | exact Kept.refl _ | assumption | refine Kept.alloc ?_ _ | refine Kept.drew ?_ | refine Kept.drewN ?_ _ | refine Kept.setCell ?_ (by first | (simp; done) | (simp; omega) | omega | exact Kept.size (by (repeat (first | exact Kept.refl _ | assumption | refine Kept.alloc ?_ _ | refine Kept.drew ?_ | refine Kept.drewN ?_ _ | refine Kept.trans ?_ (by assumption))))) _ | refine Kept.trans ?_ (by assumption)))⟩
set_option maxHeartbeats 2000000 in
theorem l3Good_any (v : Value) (gs : List Gz) (w : World) (hL : GLies w v gs) (hz : GSized gs) : Calls Try.prog 85 #[v] w fun e w' => e = .returned (.bool (gaugesB gs)) ∧ Kept w w' := by
  have hm := hL.len
  unfold maxLen at hm
  obtain ⟨A, c, rfl, hlc, hcm, hA⟩ := hL
  go_enter Try.func85, Try.ntmps85
  go_wp2
  go_loopw [3] (fun i wr => ∃ k : Nat, k ≤ gs.length ∧ k ≤ 7 ∧ i = .int .i64 k ∧ Kept w wr ∧ ∀ i, i < k → gaugeAt gs i = true) (fun i _ => gs.length - (intOf i).toNat)
  case atStart => exact ⟨0, Nat.zero_le _, by omega, rfl, Kept.refl _, fun i h => absurd h (by omega)⟩
  case round =>
    obtain ⟨k, hk, hk7, rfl, hkw, hall⟩ := hrel
    have HA := Lib.hid hall
    clear hall
    by_cases h67 : k = 7
    · have HF : Hid (gaugesB gs = decide ((gs.length : Int) ≤ 6)) := by
        have e : decide ((gs.length : Int) ≤ 6) = false := decide_eq_false (by omega)
        show gaugesB gs = _
        rw [gaugesB, e, Bool.and_false]
      have h68 : (6 : Int) < (k : Int) := by omega
      clear hA hz h67
      go_wp2
      all_goals go_ret
      all_goals exact ⟨ret_bool HF.out.symm, by (repeat (first | exact Kept.refl _ | assumption | refine Kept.alloc ?_ _ | refine Kept.drew ?_ | refine Kept.drewN ?_ _ | refine Kept.setCell ?_ (by first | (simp; done) | (simp; omega) | omega | exact Kept.size (by (repeat (first | exact Kept.refl _ | assumption | refine Kept.alloc ?_ _ | refine Kept.drew ?_ | refine Kept.drewN ?_ _ | refine Kept.trans ?_ (by assumption))))) _ | refine Kept.trans ?_ (by assumption)))⟩
    have h66 : (k : Int) ≤ 6 := by omega
    by_cases hlt : k < gs.length
    · obtain ⟨b, off, rfl, hc⟩ := hA (by omega)
      obtain ⟨u, hu⟩ := hc k hlt
      obtain ⟨c0, c1, c2, c3, cl⟩ := hu.kept hkw
      have CL := Lib.hid cl
      obtain ⟨A2, n2, rfl, -, -, -⟩ := cl
      have hs := hz k hlt
      have HC := Lib.hid hc
      have k00 : (0 : Int) ≤ (k : Int) := by omega
      have k2 : (k : Int) < (gs.length : Int) := by omega
      clear hc hA hu hz
      have hI := fun W hl => l3One_any (GZ gs k).id (GZ gs k).nm (GZ gs k).z (.slice A2 (GZ gs k).xs.length n2) (GZ gs k).xs hs W hl
      cases h1 : gaugeB (GZ gs k).id (GZ gs k).nm (GZ gs k).z (GZ gs k).xs
      · have HN := Lib.hid (gaugesB_no hlt (show gaugeAt gs k = false by simp [gaugeAt, grB, h1]))
        rw [h1] at hI
        have HI := Lib.hid hI
        clear hI
        go_wp2_with fail
        have kf6_0 : ∀ w' : World, Root (wr) w' → w'.cell? ⟨b, off + k * 4, none⟩ = some (.int .i64 (GZ gs k).id) := fun w' h => h.keep (by first | assumption | exact (Kept.alloc (Kept.refl _) _).keep (by assumption) | (simp [go_sem]; done) | (simp [go_sem, *]; done))
        have kf6_1 : ∀ w' : World, Root (wr) w' → w'.cell? ⟨b, off + k * 4 + 1, none⟩ = some (.string (GZ gs k).nm) := fun w' h => h.keep (by first | assumption | exact (Kept.alloc (Kept.refl _) _).keep (by assumption) | (simp [go_sem]; done) | (simp [go_sem, *]; done))
        have kf6_2 : ∀ w' : World, Root (wr) w' → w'.cell? ⟨b, off + k * 4 + 2, none⟩ = some (.int .i64 (GZ gs k).z) := fun w' h => h.keep (by first | assumption | exact (Kept.alloc (Kept.refl _) _).keep (by assumption) | (simp [go_sem]; done) | (simp [go_sem, *]; done))
        have kf6_3 : ∀ w' : World, Root (wr) w' → w'.cell? ⟨b, off + k * 4 + 3, none⟩ = some (.slice A2 (GZ gs k).xs.length n2) := fun w' h => h.keep (by first | assumption | exact (Kept.alloc (Kept.refl _) _).keep (by assumption) | (simp [go_sem]; done) | (simp [go_sem, *]; done))
        refine wp_region_held_drew (S := fun w' => Root (wr) w') (by kernel_rfl) (by (try dsimp only); (first | assumption | exact Root.trans (by assumption) hk | exact Root.drew (Root.refl _) | (repeat (first | exact Root.refl _ | assumption | refine Root.alloc ?_ _ | refine Root.drew ?_ | refine Root.setCell ?_ (by first | (simp; done) | (simp; omega) | omega | exact Root.size (by assumption)) _ | refine Root.trans ?_ (by assumption))))) (fun hHeld => ?_)
        refine wpAnyH_take (i := 0) (v := ?_) rfl (by kernel_rfl) (by kernel_rfl) (by kernel_rfl) (fun _ _ _ h => h) (Or.inl ⟨by kernel_rfl, ?_⟩) (by assumption) ?_
        rotate_left
        focus (intro w hSw; (try dsimp only at hSw); go_simp; (try with_reducible rfl))
        (try simp only [Act.put, List.getElem_toArray, List.getElem_cons_zero, List.getElem_cons_succ, List.setIfInBounds_toArray, List.set_cons_zero, List.set_cons_succ])
        refine wpAnyH_take (i := 1) (v := ?_) rfl (by kernel_rfl) (by kernel_rfl) (by kernel_rfl) (fun _ _ _ h => h) (Or.inl ⟨by kernel_rfl, ?_⟩) (by assumption) ?_
        rotate_left
        focus (intro w hSw; (try dsimp only at hSw); go_simp; (try with_reducible rfl))
        (try simp only [Act.put, List.getElem_toArray, List.getElem_cons_zero, List.getElem_cons_succ, List.setIfInBounds_toArray, List.set_cons_zero, List.set_cons_succ])
        refine wpAnyH_take (i := 2) (v := ?_) rfl (by kernel_rfl) (by kernel_rfl) (by kernel_rfl) (fun _ _ _ h => h) (Or.inl ⟨by kernel_rfl, ?_⟩) (by assumption) ?_
        rotate_left
        focus (intro w hSw; (try dsimp only at hSw); go_simp; (try with_reducible rfl))
        (try simp only [Act.put, List.getElem_toArray, List.getElem_cons_zero, List.getElem_cons_succ, List.setIfInBounds_toArray, List.set_cons_zero, List.set_cons_succ])
        refine wpAnyH_take (i := 3) (v := ?_) rfl (by kernel_rfl) (by kernel_rfl) (by kernel_rfl) (fun _ _ _ h => h) (Or.inl ⟨by kernel_rfl, ?_⟩) (by assumption) ?_
        rotate_left
        focus (intro w hSw; (try dsimp only at hSw); go_simp; (try with_reducible rfl))
        (try simp only [Act.put, List.getElem_toArray, List.getElem_cons_zero, List.getElem_cons_succ, List.setIfInBounds_toArray, List.set_cons_zero, List.set_cons_succ])
        refine wpAnyH_ready (rs := [4]) (by kernel_rfl) (by simp) ?_
        refine AllReadyH.cons rfl (fun K hK => ?_) AllReadyH.nil
        go_simp
        (go_at_call 72; refine (HI.out _ (by exact CL.out.kept (by (repeat (first | exact Kept.refl _ | assumption | refine Kept.alloc ?_ _ | refine Kept.drew ?_ | refine Kept.drewN ?_ _ | refine Kept.setCell ?_ (by first | (simp; done) | (simp; omega) | omega | exact Kept.size (by (repeat (first | exact Kept.refl _ | assumption | refine Kept.alloc ?_ _ | refine Kept.drew ?_ | refine Kept.drewN ?_ _ | refine Kept.trans ?_ (by assumption))))) _ | refine Kept.trans ?_ (by assumption)))))).mono ?_; rintro e w1 ⟨rfl, hk⟩; (have hkr := Root.trans (by assumption) hk); (first | (have hkf := From.step (by assumption) hk; obtain ⟨hc, hf⟩ := hkf.cells) | (have hkf := From.start hk; obtain ⟨hc, hf⟩ := hkf.cells)))
        (try go_wp2_with fail)
        refine hK.out _ _ (by (try dsimp only); (first | assumption | exact Root.trans (by assumption) hk | exact Root.drew (Root.refl _) | (repeat (first | exact Root.refl _ | assumption | refine Root.alloc ?_ _ | refine Root.drew ?_ | refine Root.setCell ?_ (by first | (simp; done) | (simp; omega) | omega | exact Root.size (by assumption)) _ | refine Root.trans ?_ (by assumption))))) (fun hHeld => ?_)
        clear hK K
        (try simp only [Act.put, List.getElem_toArray, List.getElem_cons_zero, List.getElem_cons_succ, List.setIfInBounds_toArray, List.set_cons_zero, List.set_cons_succ])
        refine wpAnyH_take (i := 5) (v := ?_) rfl (by kernel_rfl) (by kernel_rfl) (by kernel_rfl) (fun _ _ _ h => h) (Or.inl ⟨by kernel_rfl, ?_⟩) (by assumption) ?_
        rotate_left
        focus (intro w hSw; (try dsimp only at hSw); go_simp; (try with_reducible rfl))
        (try simp only [Act.put, List.getElem_toArray, List.getElem_cons_zero, List.getElem_cons_succ, List.setIfInBounds_toArray, List.set_cons_zero, List.set_cons_succ])
        refine wpAnyH_take (i := 6) (v := ?_) rfl (by kernel_rfl) (by kernel_rfl) (by kernel_rfl) (fun _ _ _ h => h) (Or.inl ⟨by kernel_rfl, ?_⟩) (by assumption) ?_
        rotate_left
        focus (intro w hSw; (try dsimp only at hSw); go_simp; (try with_reducible rfl))
        (try simp only [Act.put, List.getElem_toArray, List.getElem_cons_zero, List.getElem_cons_succ, List.setIfInBounds_toArray, List.set_cons_zero, List.set_cons_succ])
        refine wpAnyH_take (i := 7) rfl (by kernel_rfl) (by kernel_rfl) (by kernel_rfl) (fun _ _ _ h => h) (Or.inr ⟨by kernel_rfl, rfl⟩) (by assumption) ?_
        (try simp only [Act.put, List.getElem_toArray, List.getElem_cons_zero, List.getElem_cons_succ, List.setIfInBounds_toArray, List.set_cons_zero, List.set_cons_succ])
        refine wpAnyH_take (i := 8) rfl (by kernel_rfl) (by kernel_rfl) (by kernel_rfl) (fun _ _ _ h => h) (Or.inr ⟨by kernel_rfl, rfl⟩) (by assumption) ?_
        (try simp only [Act.put, List.getElem_toArray, List.getElem_cons_zero, List.getElem_cons_succ, List.setIfInBounds_toArray, List.set_cons_zero, List.set_cons_succ])
        refine wpAnyH_take (i := 9) rfl (by kernel_rfl) (by kernel_rfl) (by kernel_rfl) (fun _ _ _ h => h) (Or.inr ⟨by kernel_rfl, rfl⟩) (by assumption) ?_
        (try simp only [Act.put, List.getElem_toArray, List.getElem_cons_zero, List.getElem_cons_succ, List.setIfInBounds_toArray, List.set_cons_zero, List.set_cons_succ])
        refine wpAnyH_take (i := 10) rfl (by kernel_rfl) (by kernel_rfl) (by kernel_rfl) (fun _ _ _ h => h) (Or.inr ⟨by kernel_rfl, rfl⟩) (by assumption) ?_
        (try simp only [Act.put, List.getElem_toArray, List.getElem_cons_zero, List.getElem_cons_succ, List.setIfInBounds_toArray, List.set_cons_zero, List.set_cons_succ])
        refine wpAnyH_take (i := 11) rfl (by kernel_rfl) (by kernel_rfl) (by kernel_rfl) (fun _ _ _ h => h) (Or.inr ⟨by kernel_rfl, rfl⟩) (by assumption) ?_
        (try simp only [Act.put, List.getElem_toArray, List.getElem_cons_zero, List.getElem_cons_succ, List.setIfInBounds_toArray, List.set_cons_zero, List.set_cons_succ])
        refine wpAnyH_take (i := 12) rfl (by kernel_rfl) (by kernel_rfl) (by kernel_rfl) (fun _ _ _ h => h) (Or.inr ⟨by kernel_rfl, rfl⟩) (by assumption) ?_
        (try simp only [Act.put, List.getElem_toArray, List.getElem_cons_zero, List.getElem_cons_succ, List.setIfInBounds_toArray, List.set_cons_zero, List.set_cons_succ])
        refine wpAnyH_take (i := 13) rfl (by kernel_rfl) (by kernel_rfl) (by kernel_rfl) (fun _ _ _ h => h) (Or.inr ⟨by kernel_rfl, rfl⟩) (by assumption) ?_
        (try simp only [Act.put, List.getElem_toArray, List.getElem_cons_zero, List.getElem_cons_succ, List.setIfInBounds_toArray, List.set_cons_zero, List.set_cons_succ])
        refine wpAnyH_take (i := 14) rfl (by kernel_rfl) (by kernel_rfl) (by kernel_rfl) (fun _ _ _ h => h) (Or.inr ⟨by kernel_rfl, rfl⟩) (by assumption) ?_
        (try simp only [Act.put, List.getElem_toArray, List.getElem_cons_zero, List.getElem_cons_succ, List.setIfInBounds_toArray, List.set_cons_zero, List.set_cons_succ])
        refine wpAnyH_take (i := 15) rfl (by kernel_rfl) (by kernel_rfl) (by kernel_rfl) (fun _ _ _ h => h) (Or.inr ⟨by kernel_rfl, rfl⟩) (by assumption) ?_
        (try simp only [Act.put, List.getElem_toArray, List.getElem_cons_zero, List.getElem_cons_succ, List.setIfInBounds_toArray, List.set_cons_zero, List.set_cons_succ])
        refine wpAnyH_take (i := 16) rfl (by kernel_rfl) (by kernel_rfl) (by kernel_rfl) (fun _ _ _ h => h) (Or.inr ⟨by kernel_rfl, rfl⟩) (by assumption) ?_
        (try simp only [Act.put, List.getElem_toArray, List.getElem_cons_zero, List.getElem_cons_succ, List.setIfInBounds_toArray, List.set_cons_zero, List.set_cons_succ])
        refine wpAnyH_take (i := 17) rfl (by kernel_rfl) (by kernel_rfl) (by kernel_rfl) (fun _ _ _ h => h) (Or.inr ⟨by kernel_rfl, rfl⟩) (by assumption) ?_
        (try simp only [Act.put, List.getElem_toArray, List.getElem_cons_zero, List.getElem_cons_succ, List.setIfInBounds_toArray, List.set_cons_zero, List.set_cons_succ])
        refine wpAnyH_take (i := 18) rfl (by kernel_rfl) (by kernel_rfl) (by kernel_rfl) (fun _ _ _ h => h) (Or.inr ⟨by kernel_rfl, rfl⟩) (by assumption) ?_
        (try simp only [Act.put, List.getElem_toArray, List.getElem_cons_zero, List.getElem_cons_succ, List.setIfInBounds_toArray, List.set_cons_zero, List.set_cons_succ])
        refine wpAnyH_take (i := 19) rfl (by kernel_rfl) (by kernel_rfl) (by kernel_rfl) (fun _ _ _ h => h) (Or.inr ⟨by kernel_rfl, rfl⟩) (by assumption) ?_
        (try simp only [Act.put, List.getElem_toArray, List.getElem_cons_zero, List.getElem_cons_succ, List.setIfInBounds_toArray, List.set_cons_zero, List.set_cons_succ])
        refine wpAnyH_take (i := 20) rfl (by kernel_rfl) (by kernel_rfl) (by kernel_rfl) (fun _ _ _ h => h) (Or.inr ⟨by kernel_rfl, rfl⟩) (by assumption) ?_
        (try simp only [Act.put, List.getElem_toArray, List.getElem_cons_zero, List.getElem_cons_succ, List.setIfInBounds_toArray, List.set_cons_zero, List.set_cons_succ])
        refine wpAnyH_take (i := 21) rfl (by kernel_rfl) (by kernel_rfl) (by kernel_rfl) (fun _ _ _ h => h) (Or.inr ⟨by kernel_rfl, rfl⟩) (by assumption) ?_
        (try simp only [Act.put, List.getElem_toArray, List.getElem_cons_zero, List.getElem_cons_succ, List.setIfInBounds_toArray, List.set_cons_zero, List.set_cons_succ])
        refine wpAnyH_take (i := 22) rfl (by kernel_rfl) (by kernel_rfl) (by kernel_rfl) (fun _ _ _ h => h) (Or.inr ⟨by kernel_rfl, rfl⟩) (by assumption) ?_
        (try simp only [Act.put, List.getElem_toArray, List.getElem_cons_zero, List.getElem_cons_succ, List.setIfInBounds_toArray, List.set_cons_zero, List.set_cons_succ])
        refine wpAnyH_take (i := 23) (v := ?_) rfl (by kernel_rfl) (by kernel_rfl) (by kernel_rfl) (fun _ _ _ h => h) (Or.inl ⟨by kernel_rfl, ?_⟩) (by assumption) ?_
        rotate_left
        focus (intro w hSw; (try dsimp only at hSw); go_simp; (try with_reducible rfl))
        (try simp only [Act.put, List.getElem_toArray, List.getElem_cons_zero, List.getElem_cons_succ, List.setIfInBounds_toArray, List.set_cons_zero, List.set_cons_succ])
        refine wpAnyH_done (by kernel_rfl) ?_ _
        go_wp2
        go_ret
        exact ⟨ret_bool HN.out.symm, by (repeat (first | exact Kept.refl _ | assumption | refine Kept.alloc ?_ _ | refine Kept.drew ?_ | refine Kept.drewN ?_ _ | refine Kept.setCell ?_ (by first | (simp; done) | (simp; omega) | omega | exact Kept.size (by (repeat (first | exact Kept.refl _ | assumption | refine Kept.alloc ?_ _ | refine Kept.drew ?_ | refine Kept.drewN ?_ _ | refine Kept.trans ?_ (by assumption))))) _ | refine Kept.trans ?_ (by assumption)))⟩
      · rw [h1] at hI
        have HI := Lib.hid hI
        clear hI
        by_cases h3 : k = 0
        · have HH : Hid (k = 0 ∨ (GZ gs (k - 1)).id < (GZ gs k).id) := Or.inl h3
          have kz1 : decide ((0 : Int) < (k : Int)) = false := by simp; omega
          have kz2 : decide (0 < k) = false := by simp; omega
          clear h3
          go_wp2_with fail
          have kf7_0 : ∀ w' : World, Root (wr) w' → w'.cell? ⟨b, off + k * 4, none⟩ = some (.int .i64 (GZ gs k).id) := fun w' h => h.keep (by first | assumption | exact (Kept.alloc (Kept.refl _) _).keep (by assumption) | (simp [go_sem]; done) | (simp [go_sem, *]; done))
          have kf7_1 : ∀ w' : World, Root (wr) w' → w'.cell? ⟨b, off + k * 4 + 1, none⟩ = some (.string (GZ gs k).nm) := fun w' h => h.keep (by first | assumption | exact (Kept.alloc (Kept.refl _) _).keep (by assumption) | (simp [go_sem]; done) | (simp [go_sem, *]; done))
          have kf7_2 : ∀ w' : World, Root (wr) w' → w'.cell? ⟨b, off + k * 4 + 2, none⟩ = some (.int .i64 (GZ gs k).z) := fun w' h => h.keep (by first | assumption | exact (Kept.alloc (Kept.refl _) _).keep (by assumption) | (simp [go_sem]; done) | (simp [go_sem, *]; done))
          have kf7_3 : ∀ w' : World, Root (wr) w' → w'.cell? ⟨b, off + k * 4 + 3, none⟩ = some (.slice A2 (GZ gs k).xs.length n2) := fun w' h => h.keep (by first | assumption | exact (Kept.alloc (Kept.refl _) _).keep (by assumption) | (simp [go_sem]; done) | (simp [go_sem, *]; done))
          refine wp_region_held_drew (S := fun w' => Root (wr) w') (by kernel_rfl) (by (try dsimp only); (first | assumption | exact Root.trans (by assumption) hk | exact Root.drew (Root.refl _) | (repeat (first | exact Root.refl _ | assumption | refine Root.alloc ?_ _ | refine Root.drew ?_ | refine Root.setCell ?_ (by first | (simp; done) | (simp; omega) | omega | exact Root.size (by assumption)) _ | refine Root.trans ?_ (by assumption))))) (fun hHeld => ?_)
          refine wpAnyH_take (i := 0) (v := ?_) rfl (by kernel_rfl) (by kernel_rfl) (by kernel_rfl) (fun _ _ _ h => h) (Or.inl ⟨by kernel_rfl, ?_⟩) (by assumption) ?_
          rotate_left
          focus (intro w hSw; (try dsimp only at hSw); go_simp; (try with_reducible rfl))
          (try simp only [Act.put, List.getElem_toArray, List.getElem_cons_zero, List.getElem_cons_succ, List.setIfInBounds_toArray, List.set_cons_zero, List.set_cons_succ])
          refine wpAnyH_take (i := 1) (v := ?_) rfl (by kernel_rfl) (by kernel_rfl) (by kernel_rfl) (fun _ _ _ h => h) (Or.inl ⟨by kernel_rfl, ?_⟩) (by assumption) ?_
          rotate_left
          focus (intro w hSw; (try dsimp only at hSw); go_simp; (try with_reducible rfl))
          (try simp only [Act.put, List.getElem_toArray, List.getElem_cons_zero, List.getElem_cons_succ, List.setIfInBounds_toArray, List.set_cons_zero, List.set_cons_succ])
          refine wpAnyH_take (i := 2) (v := ?_) rfl (by kernel_rfl) (by kernel_rfl) (by kernel_rfl) (fun _ _ _ h => h) (Or.inl ⟨by kernel_rfl, ?_⟩) (by assumption) ?_
          rotate_left
          focus (intro w hSw; (try dsimp only at hSw); go_simp; (try with_reducible rfl))
          (try simp only [Act.put, List.getElem_toArray, List.getElem_cons_zero, List.getElem_cons_succ, List.setIfInBounds_toArray, List.set_cons_zero, List.set_cons_succ])
          refine wpAnyH_take (i := 3) (v := ?_) rfl (by kernel_rfl) (by kernel_rfl) (by kernel_rfl) (fun _ _ _ h => h) (Or.inl ⟨by kernel_rfl, ?_⟩) (by assumption) ?_
          rotate_left
          focus (intro w hSw; (try dsimp only at hSw); go_simp; (try with_reducible rfl))
          (try simp only [Act.put, List.getElem_toArray, List.getElem_cons_zero, List.getElem_cons_succ, List.setIfInBounds_toArray, List.set_cons_zero, List.set_cons_succ])
          refine wpAnyH_ready (rs := [4]) (by kernel_rfl) (by simp) ?_
          refine AllReadyH.cons rfl (fun K hK => ?_) AllReadyH.nil
          go_simp
          (go_at_call 72; refine (HI.out _ (by exact CL.out.kept (by (repeat (first | exact Kept.refl _ | assumption | refine Kept.alloc ?_ _ | refine Kept.drew ?_ | refine Kept.drewN ?_ _ | refine Kept.setCell ?_ (by first | (simp; done) | (simp; omega) | omega | exact Kept.size (by (repeat (first | exact Kept.refl _ | assumption | refine Kept.alloc ?_ _ | refine Kept.drew ?_ | refine Kept.drewN ?_ _ | refine Kept.trans ?_ (by assumption))))) _ | refine Kept.trans ?_ (by assumption)))))).mono ?_; rintro e w1 ⟨rfl, hk⟩; (have hkr := Root.trans (by assumption) hk); (first | (have hkf := From.step (by assumption) hk; obtain ⟨hc, hf⟩ := hkf.cells) | (have hkf := From.start hk; obtain ⟨hc, hf⟩ := hkf.cells)))
          (try go_wp2_with fail)
          refine hK.out _ _ (by (try dsimp only); (first | assumption | exact Root.trans (by assumption) hk | exact Root.drew (Root.refl _) | (repeat (first | exact Root.refl _ | assumption | refine Root.alloc ?_ _ | refine Root.drew ?_ | refine Root.setCell ?_ (by first | (simp; done) | (simp; omega) | omega | exact Root.size (by assumption)) _ | refine Root.trans ?_ (by assumption))))) (fun hHeld => ?_)
          clear hK K
          (try simp only [Act.put, List.getElem_toArray, List.getElem_cons_zero, List.getElem_cons_succ, List.setIfInBounds_toArray, List.set_cons_zero, List.set_cons_succ])
          refine wpAnyH_take (i := 5) (v := ?_) rfl (by kernel_rfl) (by kernel_rfl) (by kernel_rfl) (fun _ _ _ h => h) (Or.inl ⟨by kernel_rfl, ?_⟩) (by assumption) ?_
          rotate_left
          focus (intro w hSw; (try dsimp only at hSw); go_simp; (try with_reducible rfl))
          (try simp only [Act.put, List.getElem_toArray, List.getElem_cons_zero, List.getElem_cons_succ, List.setIfInBounds_toArray, List.set_cons_zero, List.set_cons_succ])
          refine wpAnyH_take (i := 6) (v := ?_) rfl (by kernel_rfl) (by kernel_rfl) (by kernel_rfl) (fun _ _ _ h => h) (Or.inl ⟨by kernel_rfl, ?_⟩) (by assumption) ?_
          rotate_left
          focus (intro w hSw; (try dsimp only at hSw); go_simp; (try with_reducible rfl))
          (try simp only [Act.put, List.getElem_toArray, List.getElem_cons_zero, List.getElem_cons_succ, List.setIfInBounds_toArray, List.set_cons_zero, List.set_cons_succ])
          refine wpAnyH_take (i := 7) (v := ?_) rfl (by kernel_rfl) (by kernel_rfl) (by kernel_rfl) (fun _ _ _ h => h) (Or.inl ⟨by kernel_rfl, ?_⟩) (by assumption) ?_
          rotate_left
          focus (intro w hSw; (try dsimp only at hSw); go_simp; (try with_reducible rfl))
          (try simp only [Act.put, List.getElem_toArray, List.getElem_cons_zero, List.getElem_cons_succ, List.setIfInBounds_toArray, List.set_cons_zero, List.set_cons_succ])
          refine wpAnyH_take (i := 8) (v := ?_) rfl (by kernel_rfl) (by kernel_rfl) (by kernel_rfl) (fun _ _ _ h => h) (Or.inl ⟨by kernel_rfl, ?_⟩) (by assumption) ?_
          rotate_left
          focus (intro w hSw; (try dsimp only at hSw); go_simp; (try with_reducible rfl))
          (try simp only [Act.put, List.getElem_toArray, List.getElem_cons_zero, List.getElem_cons_succ, List.setIfInBounds_toArray, List.set_cons_zero, List.set_cons_succ])
          refine wpAnyH_take (i := 9) (v := ?_) rfl (by kernel_rfl) (by kernel_rfl) (by kernel_rfl) (fun _ _ _ h => h) (Or.inl ⟨by kernel_rfl, ?_⟩) (by assumption) ?_
          rotate_left
          focus (intro w hSw; (try dsimp only at hSw); go_simp; (try with_reducible rfl))
          (try simp only [Act.put, List.getElem_toArray, List.getElem_cons_zero, List.getElem_cons_succ, List.setIfInBounds_toArray, List.set_cons_zero, List.set_cons_succ])
          refine wpAnyH_take (i := 10) rfl (by kernel_rfl) (by kernel_rfl) (by kernel_rfl) (fun _ _ _ h => h) (Or.inr ⟨by kernel_rfl, rfl⟩) (by assumption) ?_
          (try simp only [Act.put, List.getElem_toArray, List.getElem_cons_zero, List.getElem_cons_succ, List.setIfInBounds_toArray, List.set_cons_zero, List.set_cons_succ])
          refine wpAnyH_take (i := 11) rfl (by kernel_rfl) (by kernel_rfl) (by kernel_rfl) (fun _ _ _ h => h) (Or.inr ⟨by kernel_rfl, rfl⟩) (by assumption) ?_
          (try simp only [Act.put, List.getElem_toArray, List.getElem_cons_zero, List.getElem_cons_succ, List.setIfInBounds_toArray, List.set_cons_zero, List.set_cons_succ])
          refine wpAnyH_take (i := 12) rfl (by kernel_rfl) (by kernel_rfl) (by kernel_rfl) (fun _ _ _ h => h) (Or.inr ⟨by kernel_rfl, rfl⟩) (by assumption) ?_
          (try simp only [Act.put, List.getElem_toArray, List.getElem_cons_zero, List.getElem_cons_succ, List.setIfInBounds_toArray, List.set_cons_zero, List.set_cons_succ])
          refine wpAnyH_take (i := 13) rfl (by kernel_rfl) (by kernel_rfl) (by kernel_rfl) (fun _ _ _ h => h) (Or.inr ⟨by kernel_rfl, rfl⟩) (by assumption) ?_
          (try simp only [Act.put, List.getElem_toArray, List.getElem_cons_zero, List.getElem_cons_succ, List.setIfInBounds_toArray, List.set_cons_zero, List.set_cons_succ])
          refine wpAnyH_take (i := 14) rfl (by kernel_rfl) (by kernel_rfl) (by kernel_rfl) (fun _ _ _ h => h) (Or.inr ⟨by kernel_rfl, rfl⟩) (by assumption) ?_
          (try simp only [Act.put, List.getElem_toArray, List.getElem_cons_zero, List.getElem_cons_succ, List.setIfInBounds_toArray, List.set_cons_zero, List.set_cons_succ])
          refine wpAnyH_take (i := 15) rfl (by kernel_rfl) (by kernel_rfl) (by kernel_rfl) (fun _ _ _ h => h) (Or.inr ⟨by kernel_rfl, rfl⟩) (by assumption) ?_
          (try simp only [Act.put, List.getElem_toArray, List.getElem_cons_zero, List.getElem_cons_succ, List.setIfInBounds_toArray, List.set_cons_zero, List.set_cons_succ])
          refine wpAnyH_take (i := 16) rfl (by kernel_rfl) (by kernel_rfl) (by kernel_rfl) (fun _ _ _ h => h) (Or.inr ⟨by kernel_rfl, rfl⟩) (by assumption) ?_
          (try simp only [Act.put, List.getElem_toArray, List.getElem_cons_zero, List.getElem_cons_succ, List.setIfInBounds_toArray, List.set_cons_zero, List.set_cons_succ])
          refine wpAnyH_take (i := 17) rfl (by kernel_rfl) (by kernel_rfl) (by kernel_rfl) (fun _ _ _ h => h) (Or.inr ⟨by kernel_rfl, rfl⟩) (by assumption) ?_
          (try simp only [Act.put, List.getElem_toArray, List.getElem_cons_zero, List.getElem_cons_succ, List.setIfInBounds_toArray, List.set_cons_zero, List.set_cons_succ])
          refine wpAnyH_take (i := 18) rfl (by kernel_rfl) (by kernel_rfl) (by kernel_rfl) (fun _ _ _ h => h) (Or.inr ⟨by kernel_rfl, rfl⟩) (by assumption) ?_
          (try simp only [Act.put, List.getElem_toArray, List.getElem_cons_zero, List.getElem_cons_succ, List.setIfInBounds_toArray, List.set_cons_zero, List.set_cons_succ])
          refine wpAnyH_take (i := 19) rfl (by kernel_rfl) (by kernel_rfl) (by kernel_rfl) (fun _ _ _ h => h) (Or.inr ⟨by kernel_rfl, rfl⟩) (by assumption) ?_
          (try simp only [Act.put, List.getElem_toArray, List.getElem_cons_zero, List.getElem_cons_succ, List.setIfInBounds_toArray, List.set_cons_zero, List.set_cons_succ])
          refine wpAnyH_take (i := 20) rfl (by kernel_rfl) (by kernel_rfl) (by kernel_rfl) (fun _ _ _ h => h) (Or.inr ⟨by kernel_rfl, rfl⟩) (by assumption) ?_
          (try simp only [Act.put, List.getElem_toArray, List.getElem_cons_zero, List.getElem_cons_succ, List.setIfInBounds_toArray, List.set_cons_zero, List.set_cons_succ])
          refine wpAnyH_take (i := 21) rfl (by kernel_rfl) (by kernel_rfl) (by kernel_rfl) (fun _ _ _ h => h) (Or.inr ⟨by kernel_rfl, rfl⟩) (by assumption) ?_
          (try simp only [Act.put, List.getElem_toArray, List.getElem_cons_zero, List.getElem_cons_succ, List.setIfInBounds_toArray, List.set_cons_zero, List.set_cons_succ])
          refine wpAnyH_take (i := 22) (v := ?_) rfl (by kernel_rfl) (by kernel_rfl) (by kernel_rfl) (fun _ _ _ h => h) (Or.inl ⟨by kernel_rfl, ?_⟩) (by assumption) ?_
          rotate_left
          focus (intro w hSw; (try dsimp only at hSw); go_simp; (try with_reducible rfl))
          (try simp only [Act.put, List.getElem_toArray, List.getElem_cons_zero, List.getElem_cons_succ, List.setIfInBounds_toArray, List.set_cons_zero, List.set_cons_succ])
          refine wpAnyH_take (i := 23) (v := ?_) rfl (by kernel_rfl) (by kernel_rfl) (by kernel_rfl) (fun _ _ _ h => h) (Or.inl ⟨by kernel_rfl, ?_⟩) (by assumption) ?_
          rotate_left
          focus (intro w hSw; (try dsimp only at hSw); go_simp; (try with_reducible rfl))
          (try simp only [Act.put, List.getElem_toArray, List.getElem_cons_zero, List.getElem_cons_succ, List.setIfInBounds_toArray, List.set_cons_zero, List.set_cons_succ])
          refine wpAnyH_done (by kernel_rfl) ?_ _
          clear kz1 kz2
          go_wp2_with fail
          go_loopw [4] (fun i wq => ∃ j : Nat, j ≤ k ∧ i = .int .i64 j ∧ Kept w wq ∧ ∀ i, i < j → nmAt gs (GZ gs k).nm i = false) (fun i _ => k - (intOf i).toNat)
          case atStart => exact ⟨0, Nat.zero_le _, rfl, by (repeat (first | exact Kept.refl _ | assumption | refine Kept.alloc ?_ _ | refine Kept.drew ?_ | refine Kept.drewN ?_ _ | refine Kept.setCell ?_ (by first | (simp; done) | (simp; omega) | omega | exact Kept.size (by (repeat (first | exact Kept.refl _ | assumption | refine Kept.alloc ?_ _ | refine Kept.drew ?_ | refine Kept.drewN ?_ _ | refine Kept.trans ?_ (by assumption))))) _ | refine Kept.trans ?_ (by assumption))), fun i h => absurd h (by omega)⟩
          case round =>
            obtain ⟨j, hj, rfl, hkq, hno⟩ := hrel
            have HNO := Lib.hid hno
            clear hno
            by_cases hjl : j < k
            · have e1 := ((HC.out j (by omega)).choose_spec.kept hkq).c1
              have e2 := ((HC.out k hlt).choose_spec.kept hkq).c1
              have q0 : (0 : Int) ≤ (j : Int) := by omega
              have q1 : (j : Int) < (gs.length : Int) := by omega
              cases h7 : nmAt gs (GZ gs k).nm j
              · have HB7 := Lib.hid (upto_succ (p := fun i => nmAt gs (GZ gs k).nm i = false) HNO.out h7)
                have h7' : ((GZ gs j).nm.toList == (GZ gs k).nm.toList) = false := h7
                clear h7
                go_wp2_with fail
                go_quiet (fail)
                go_wp2
                go_roundw
                case rel => exact ⟨j + 1, by omega, by go_num, by (repeat (first | exact Kept.refl _ | assumption | refine Kept.alloc ?_ _ | refine Kept.drew ?_ | refine Kept.drewN ?_ _ | refine Kept.setCell ?_ (by first | (simp; done) | (simp; omega) | omega | exact Kept.size (by (repeat (first | exact Kept.refl _ | assumption | refine Kept.alloc ?_ _ | refine Kept.drew ?_ | refine Kept.drewN ?_ _ | refine Kept.trans ?_ (by assumption))))) _ | refine Kept.trans ?_ (by assumption))), HB7.out⟩
                case measure => simp [intOf]; omega
              · have HN := Lib.hid (gaugesB_no hlt (show gaugeAt gs k = false by simp [gaugeAt, find_some hjl HNO.out h7]))
                have h7' : ((GZ gs j).nm.toList == (GZ gs k).nm.toList) = true := h7
                clear h7
                go_wp2_with fail
                go_quiet (fail)
                go_wp2
                go_ret
                exact ⟨ret_bool HN.out.symm, by (repeat (first | exact Kept.refl _ | assumption | refine Kept.alloc ?_ _ | refine Kept.drew ?_ | refine Kept.drewN ?_ _ | refine Kept.setCell ?_ (by first | (simp; done) | (simp; omega) | omega | exact Kept.size (by (repeat (first | exact Kept.refl _ | assumption | refine Kept.alloc ?_ _ | refine Kept.drew ?_ | refine Kept.drewN ?_ _ | refine Kept.trans ?_ (by assumption))))) _ | refine Kept.trans ?_ (by assumption)))⟩
            · have HB := Lib.hid (upto_succ (p := fun i => gaugeAt gs i = true) HA.out (show gaugeAt gs k = true by rw [gaugeAt, grB, h1, decide_eq_true HH.out, find_none (fun i hi => HNO.out i (by omega))]; rfl))
              go_wp2
              go_roundw
              case rel => exact ⟨k + 1, by omega, by omega, by go_num, by (repeat (first | exact Kept.refl _ | assumption | refine Kept.alloc ?_ _ | refine Kept.drew ?_ | refine Kept.drewN ?_ _ | refine Kept.setCell ?_ (by first | (simp; done) | (simp; omega) | omega | exact Kept.size (by (repeat (first | exact Kept.refl _ | assumption | refine Kept.alloc ?_ _ | refine Kept.drew ?_ | refine Kept.drewN ?_ _ | refine Kept.trans ?_ (by assumption))))) _ | refine Kept.trans ?_ (by assumption))), HB.out⟩
              case measure => simp [intOf]; omega
        · have d0 := hkw.keep (HC.out (k - 1) (by omega)).choose_spec.c0
          have k0 : (0 : Int) < (k : Int) := by omega
          have k0' : (1 : Int) ≤ (k : Int) := by omega
          have kN : 0 < k := by omega
          have j0 : (0 : Int) ≤ (k : Int) - 1 := by omega
          have j1 : (k : Int) - 1 < (gs.length : Int) := by omega
          by_cases h4 : (GZ gs (k - 1)).id < (GZ gs k).id
          · have HH : Hid (k = 0 ∨ (GZ gs (k - 1)).id < (GZ gs k).id) := Or.inr h4
            go_wp2_with fail
            have ew : IntKind.i64.wrap ((k : Int) - 1) = (k : Int) - 1 := IntWalk.i64_in _ (by omega)
            have kf8_0 : ∀ w' : World, Root (wr) w' → w'.cell? ⟨b, off + k * 4, none⟩ = some (.int .i64 (GZ gs k).id) := fun w' h => h.keep (by first | assumption | exact (Kept.alloc (Kept.refl _) _).keep (by assumption) | (simp [go_sem]; done) | (simp [go_sem, *]; done))
            have kf8_1 : ∀ w' : World, Root (wr) w' → w'.cell? ⟨b, off + k * 4 + 1, none⟩ = some (.string (GZ gs k).nm) := fun w' h => h.keep (by first | assumption | exact (Kept.alloc (Kept.refl _) _).keep (by assumption) | (simp [go_sem]; done) | (simp [go_sem, *]; done))
            have kf8_2 : ∀ w' : World, Root (wr) w' → w'.cell? ⟨b, off + k * 4 + 2, none⟩ = some (.int .i64 (GZ gs k).z) := fun w' h => h.keep (by first | assumption | exact (Kept.alloc (Kept.refl _) _).keep (by assumption) | (simp [go_sem]; done) | (simp [go_sem, *]; done))
            have kf8_3 : ∀ w' : World, Root (wr) w' → w'.cell? ⟨b, off + k * 4 + 3, none⟩ = some (.slice A2 (GZ gs k).xs.length n2) := fun w' h => h.keep (by first | assumption | exact (Kept.alloc (Kept.refl _) _).keep (by assumption) | (simp [go_sem]; done) | (simp [go_sem, *]; done))
            have kf8_4 : ∀ w' : World, Root (wr) w' → w'.cell? ⟨b, off + (k - 1) * 4, none⟩ = some (.int .i64 (GZ gs (k - 1)).id) := fun w' h => h.keep (by first | assumption | exact (Kept.alloc (Kept.refl _) _).keep (by assumption) | (simp [go_sem]; done) | (simp [go_sem, *]; done))
            refine wp_region_held_drew (S := fun w' => Root (wr) w') (by kernel_rfl) (by (try dsimp only); (first | assumption | exact Root.trans (by assumption) hk | exact Root.drew (Root.refl _) | (repeat (first | exact Root.refl _ | assumption | refine Root.alloc ?_ _ | refine Root.drew ?_ | refine Root.setCell ?_ (by first | (simp; done) | (simp; omega) | omega | exact Root.size (by assumption)) _ | refine Root.trans ?_ (by assumption))))) (fun hHeld => ?_)
            refine wpAnyH_take (i := 0) (v := ?_) rfl (by kernel_rfl) (by kernel_rfl) (by kernel_rfl) (fun _ _ _ h => h) (Or.inl ⟨by kernel_rfl, ?_⟩) (by assumption) ?_
            rotate_left
            focus (intro w hSw; (try dsimp only at hSw); go_simp; (try with_reducible rfl))
            (try simp only [Act.put, List.getElem_toArray, List.getElem_cons_zero, List.getElem_cons_succ, List.setIfInBounds_toArray, List.set_cons_zero, List.set_cons_succ])
            refine wpAnyH_take (i := 1) (v := ?_) rfl (by kernel_rfl) (by kernel_rfl) (by kernel_rfl) (fun _ _ _ h => h) (Or.inl ⟨by kernel_rfl, ?_⟩) (by assumption) ?_
            rotate_left
            focus (intro w hSw; (try dsimp only at hSw); go_simp; (try with_reducible rfl))
            (try simp only [Act.put, List.getElem_toArray, List.getElem_cons_zero, List.getElem_cons_succ, List.setIfInBounds_toArray, List.set_cons_zero, List.set_cons_succ])
            refine wpAnyH_take (i := 2) (v := ?_) rfl (by kernel_rfl) (by kernel_rfl) (by kernel_rfl) (fun _ _ _ h => h) (Or.inl ⟨by kernel_rfl, ?_⟩) (by assumption) ?_
            rotate_left
            focus (intro w hSw; (try dsimp only at hSw); go_simp; (try with_reducible rfl))
            (try simp only [Act.put, List.getElem_toArray, List.getElem_cons_zero, List.getElem_cons_succ, List.setIfInBounds_toArray, List.set_cons_zero, List.set_cons_succ])
            refine wpAnyH_take (i := 3) (v := ?_) rfl (by kernel_rfl) (by kernel_rfl) (by kernel_rfl) (fun _ _ _ h => h) (Or.inl ⟨by kernel_rfl, ?_⟩) (by assumption) ?_
            rotate_left
            focus (intro w hSw; (try dsimp only at hSw); go_simp; (try with_reducible rfl))
            (try simp only [Act.put, List.getElem_toArray, List.getElem_cons_zero, List.getElem_cons_succ, List.setIfInBounds_toArray, List.set_cons_zero, List.set_cons_succ])
            refine wpAnyH_ready (rs := [4]) (by kernel_rfl) (by simp) ?_
            refine AllReadyH.cons rfl (fun K hK => ?_) AllReadyH.nil
            go_simp
            (go_at_call 72; refine (HI.out _ (by exact CL.out.kept (by (repeat (first | exact Kept.refl _ | assumption | refine Kept.alloc ?_ _ | refine Kept.drew ?_ | refine Kept.drewN ?_ _ | refine Kept.setCell ?_ (by first | (simp; done) | (simp; omega) | omega | exact Kept.size (by (repeat (first | exact Kept.refl _ | assumption | refine Kept.alloc ?_ _ | refine Kept.drew ?_ | refine Kept.drewN ?_ _ | refine Kept.trans ?_ (by assumption))))) _ | refine Kept.trans ?_ (by assumption)))))).mono ?_; rintro e w1 ⟨rfl, hk⟩; (have hkr := Root.trans (by assumption) hk); (first | (have hkf := From.step (by assumption) hk; obtain ⟨hc, hf⟩ := hkf.cells) | (have hkf := From.start hk; obtain ⟨hc, hf⟩ := hkf.cells)))
            (try go_wp2_with fail)
            refine hK.out _ _ (by (try dsimp only); (first | assumption | exact Root.trans (by assumption) hk | exact Root.drew (Root.refl _) | (repeat (first | exact Root.refl _ | assumption | refine Root.alloc ?_ _ | refine Root.drew ?_ | refine Root.setCell ?_ (by first | (simp; done) | (simp; omega) | omega | exact Root.size (by assumption)) _ | refine Root.trans ?_ (by assumption))))) (fun hHeld => ?_)
            clear hK K
            (try simp only [Act.put, List.getElem_toArray, List.getElem_cons_zero, List.getElem_cons_succ, List.setIfInBounds_toArray, List.set_cons_zero, List.set_cons_succ])
            refine wpAnyH_take (i := 5) (v := ?_) rfl (by kernel_rfl) (by kernel_rfl) (by kernel_rfl) (fun _ _ _ h => h) (Or.inl ⟨by kernel_rfl, ?_⟩) (by assumption) ?_
            rotate_left
            focus (intro w hSw; (try dsimp only at hSw); go_simp; (try with_reducible rfl))
            (try simp only [Act.put, List.getElem_toArray, List.getElem_cons_zero, List.getElem_cons_succ, List.setIfInBounds_toArray, List.set_cons_zero, List.set_cons_succ])
            refine wpAnyH_take (i := 6) (v := ?_) rfl (by kernel_rfl) (by kernel_rfl) (by kernel_rfl) (fun _ _ _ h => h) (Or.inl ⟨by kernel_rfl, ?_⟩) (by assumption) ?_
            rotate_left
            focus (intro w hSw; (try dsimp only at hSw); go_simp; (try with_reducible rfl))
            (try simp only [Act.put, List.getElem_toArray, List.getElem_cons_zero, List.getElem_cons_succ, List.setIfInBounds_toArray, List.set_cons_zero, List.set_cons_succ])
            refine wpAnyH_take (i := 7) (v := ?_) rfl (by kernel_rfl) (by kernel_rfl) (by kernel_rfl) (fun _ _ _ h => h) (Or.inl ⟨by kernel_rfl, ?_⟩) (by assumption) ?_
            rotate_left
            focus (intro w hSw; (try dsimp only at hSw); go_simp; (try with_reducible rfl))
            (try simp only [Act.put, List.getElem_toArray, List.getElem_cons_zero, List.getElem_cons_succ, List.setIfInBounds_toArray, List.set_cons_zero, List.set_cons_succ])
            refine wpAnyH_take (i := 8) (v := ?_) rfl (by kernel_rfl) (by kernel_rfl) (by kernel_rfl) (fun _ _ _ h => h) (Or.inl ⟨by kernel_rfl, ?_⟩) (by assumption) ?_
            rotate_left
            focus (intro w hSw; (try dsimp only at hSw); go_simp; (try with_reducible rfl))
            (try simp only [Act.put, List.getElem_toArray, List.getElem_cons_zero, List.getElem_cons_succ, List.setIfInBounds_toArray, List.set_cons_zero, List.set_cons_succ])
            refine wpAnyH_take (i := 9) (v := ?_) rfl (by kernel_rfl) (by kernel_rfl) (by kernel_rfl) (fun _ _ _ h => h) (Or.inl ⟨by kernel_rfl, ?_⟩) (by assumption) ?_
            rotate_left
            focus (intro w hSw; (try dsimp only at hSw); go_simp; (try with_reducible rfl))
            (try simp only [Act.put, List.getElem_toArray, List.getElem_cons_zero, List.getElem_cons_succ, List.setIfInBounds_toArray, List.set_cons_zero, List.set_cons_succ])
            refine wpAnyH_take (i := 10) (v := ?_) rfl (by kernel_rfl) (by kernel_rfl) (by kernel_rfl) (fun _ _ _ h => h) (Or.inl ⟨by kernel_rfl, ?_⟩) (by assumption) ?_
            rotate_left
            focus (intro w hSw; (try dsimp only at hSw); go_simp; (try with_reducible rfl))
            (try simp only [Act.put, List.getElem_toArray, List.getElem_cons_zero, List.getElem_cons_succ, List.setIfInBounds_toArray, List.set_cons_zero, List.set_cons_succ])
            refine wpAnyH_take (i := 11) (v := ?_) rfl (by kernel_rfl) (by kernel_rfl) (by kernel_rfl) (fun _ _ _ h => h) (Or.inl ⟨by kernel_rfl, ?_⟩) (by assumption) ?_
            rotate_left
            focus (intro w hSw; (try dsimp only at hSw); go_simp; (try with_reducible rfl))
            (try simp only [Act.put, List.getElem_toArray, List.getElem_cons_zero, List.getElem_cons_succ, List.setIfInBounds_toArray, List.set_cons_zero, List.set_cons_succ])
            refine wpAnyH_take (i := 12) (v := ?_) rfl (by kernel_rfl) (by kernel_rfl) (by kernel_rfl) (fun _ _ _ h => h) (Or.inl ⟨by kernel_rfl, ?_⟩) (by assumption) ?_
            rotate_left
            focus (intro w hSw; (try dsimp only at hSw); go_simp; (try with_reducible rfl))
            (try simp only [Act.put, List.getElem_toArray, List.getElem_cons_zero, List.getElem_cons_succ, List.setIfInBounds_toArray, List.set_cons_zero, List.set_cons_succ])
            refine wpAnyH_take (i := 13) (v := ?_) rfl (by kernel_rfl) (by kernel_rfl) (by kernel_rfl) (fun _ _ _ h => h) (Or.inl ⟨by kernel_rfl, ?_⟩) (by assumption) ?_
            rotate_left
            focus (intro w hSw; (try dsimp only at hSw); go_simp; (try with_reducible rfl))
            (try simp only [Act.put, List.getElem_toArray, List.getElem_cons_zero, List.getElem_cons_succ, List.setIfInBounds_toArray, List.set_cons_zero, List.set_cons_succ])
            refine wpAnyH_take (i := 14) (v := ?_) rfl (by kernel_rfl) (by kernel_rfl) (by kernel_rfl) (fun _ _ _ h => h) (Or.inl ⟨by kernel_rfl, ?_⟩) (by assumption) ?_
            rotate_left
            focus (intro w hSw; (try dsimp only at hSw); go_simp; (try with_reducible rfl))
            (try simp only [Act.put, List.getElem_toArray, List.getElem_cons_zero, List.getElem_cons_succ, List.setIfInBounds_toArray, List.set_cons_zero, List.set_cons_succ])
            refine wpAnyH_take (i := 15) (v := ?_) rfl (by kernel_rfl) (by kernel_rfl) (by kernel_rfl) (fun _ _ _ h => h) (Or.inl ⟨by kernel_rfl, ?_⟩) (by assumption) ?_
            rotate_left
            focus (intro w hSw; (try dsimp only at hSw); go_simp; (try with_reducible rfl))
            (try simp only [Act.put, List.getElem_toArray, List.getElem_cons_zero, List.getElem_cons_succ, List.setIfInBounds_toArray, List.set_cons_zero, List.set_cons_succ])
            refine wpAnyH_take (i := 16) (v := ?_) rfl (by kernel_rfl) (by kernel_rfl) (by kernel_rfl) (fun _ _ _ h => h) (Or.inl ⟨by kernel_rfl, ?_⟩) (by assumption) ?_
            rotate_left
            focus (intro w hSw; (try dsimp only at hSw); go_simp; (try with_reducible rfl))
            (try simp only [Act.put, List.getElem_toArray, List.getElem_cons_zero, List.getElem_cons_succ, List.setIfInBounds_toArray, List.set_cons_zero, List.set_cons_succ])
            refine wpAnyH_take (i := 17) (v := ?_) rfl (by kernel_rfl) (by kernel_rfl) (by kernel_rfl) (fun _ _ _ h => h) (Or.inl ⟨by kernel_rfl, ?_⟩) (by assumption) ?_
            rotate_left
            focus (intro w hSw; (try dsimp only at hSw); go_simp; (try with_reducible rfl))
            (try simp only [Act.put, List.getElem_toArray, List.getElem_cons_zero, List.getElem_cons_succ, List.setIfInBounds_toArray, List.set_cons_zero, List.set_cons_succ])
            refine wpAnyH_take (i := 18) (v := ?_) rfl (by kernel_rfl) (by kernel_rfl) (by kernel_rfl) (fun _ _ _ h => h) (Or.inl ⟨by kernel_rfl, ?_⟩) (by assumption) ?_
            rotate_left
            focus (intro w hSw; (try dsimp only at hSw); go_simp; (try with_reducible rfl))
            (try simp only [Act.put, List.getElem_toArray, List.getElem_cons_zero, List.getElem_cons_succ, List.setIfInBounds_toArray, List.set_cons_zero, List.set_cons_succ])
            refine wpAnyH_take (i := 19) (v := ?_) rfl (by kernel_rfl) (by kernel_rfl) (by kernel_rfl) (fun _ _ _ h => h) (Or.inl ⟨by kernel_rfl, ?_⟩) (by assumption) ?_
            rotate_left
            focus (intro w hSw; (try dsimp only at hSw); go_simp; (try with_reducible rfl))
            (try simp only [Act.put, List.getElem_toArray, List.getElem_cons_zero, List.getElem_cons_succ, List.setIfInBounds_toArray, List.set_cons_zero, List.set_cons_succ])
            refine wpAnyH_take (i := 20) (v := ?_) rfl (by kernel_rfl) (by kernel_rfl) (by kernel_rfl) (fun _ _ _ h => h) (Or.inl ⟨by kernel_rfl, ?_⟩) (by assumption) ?_
            rotate_left
            focus (intro w hSw; (try dsimp only at hSw); go_simp; (try with_reducible rfl))
            (try simp only [Act.put, List.getElem_toArray, List.getElem_cons_zero, List.getElem_cons_succ, List.setIfInBounds_toArray, List.set_cons_zero, List.set_cons_succ])
            refine wpAnyH_take (i := 21) (v := ?_) rfl (by kernel_rfl) (by kernel_rfl) (by kernel_rfl) (fun _ _ _ h => h) (Or.inl ⟨by kernel_rfl, ?_⟩) (by assumption) ?_
            rotate_left
            focus (intro w hSw; (try dsimp only at hSw); go_simp; (try with_reducible rfl))
            (try simp only [Act.put, List.getElem_toArray, List.getElem_cons_zero, List.getElem_cons_succ, List.setIfInBounds_toArray, List.set_cons_zero, List.set_cons_succ])
            refine wpAnyH_take (i := 22) (v := ?_) rfl (by kernel_rfl) (by kernel_rfl) (by kernel_rfl) (fun _ _ _ h => h) (Or.inl ⟨by kernel_rfl, ?_⟩) (by assumption) ?_
            rotate_left
            focus (intro w hSw; (try dsimp only at hSw); go_simp; (try with_reducible rfl))
            (try simp only [Act.put, List.getElem_toArray, List.getElem_cons_zero, List.getElem_cons_succ, List.setIfInBounds_toArray, List.set_cons_zero, List.set_cons_succ])
            refine wpAnyH_take (i := 23) (v := ?_) rfl (by kernel_rfl) (by kernel_rfl) (by kernel_rfl) (fun _ _ _ h => h) (Or.inl ⟨by kernel_rfl, ?_⟩) (by assumption) ?_
            rotate_left
            focus (intro w hSw; (try dsimp only at hSw); go_simp; (try with_reducible rfl))
            (try simp only [Act.put, List.getElem_toArray, List.getElem_cons_zero, List.getElem_cons_succ, List.setIfInBounds_toArray, List.set_cons_zero, List.set_cons_succ])
            refine wpAnyH_done (by kernel_rfl) ?_ _
            clear ew
            go_wp2_with fail
            go_loopw [4] (fun i wq => ∃ j : Nat, j ≤ k ∧ i = .int .i64 j ∧ Kept w wq ∧ ∀ i, i < j → nmAt gs (GZ gs k).nm i = false) (fun i _ => k - (intOf i).toNat)
            case atStart => exact ⟨0, Nat.zero_le _, rfl, by (repeat (first | exact Kept.refl _ | assumption | refine Kept.alloc ?_ _ | refine Kept.drew ?_ | refine Kept.drewN ?_ _ | refine Kept.setCell ?_ (by first | (simp; done) | (simp; omega) | omega | exact Kept.size (by (repeat (first | exact Kept.refl _ | assumption | refine Kept.alloc ?_ _ | refine Kept.drew ?_ | refine Kept.drewN ?_ _ | refine Kept.trans ?_ (by assumption))))) _ | refine Kept.trans ?_ (by assumption))), fun i h => absurd h (by omega)⟩
            case round =>
              obtain ⟨j, hj, rfl, hkq, hno⟩ := hrel
              have HNO := Lib.hid hno
              clear hno
              by_cases hjl : j < k
              · have e1 := ((HC.out j (by omega)).choose_spec.kept hkq).c1
                have e2 := ((HC.out k hlt).choose_spec.kept hkq).c1
                have q0 : (0 : Int) ≤ (j : Int) := by omega
                have q1 : (j : Int) < (gs.length : Int) := by omega
                cases h7 : nmAt gs (GZ gs k).nm j
                · have HB7 := Lib.hid (upto_succ (p := fun i => nmAt gs (GZ gs k).nm i = false) HNO.out h7)
                  have h7' : ((GZ gs j).nm.toList == (GZ gs k).nm.toList) = false := h7
                  clear h7
                  go_wp2_with fail
                  go_quiet (fail)
                  go_wp2
                  go_roundw
                  case rel => exact ⟨j + 1, by omega, by go_num, by (repeat (first | exact Kept.refl _ | assumption | refine Kept.alloc ?_ _ | refine Kept.drew ?_ | refine Kept.drewN ?_ _ | refine Kept.setCell ?_ (by first | (simp; done) | (simp; omega) | omega | exact Kept.size (by (repeat (first | exact Kept.refl _ | assumption | refine Kept.alloc ?_ _ | refine Kept.drew ?_ | refine Kept.drewN ?_ _ | refine Kept.trans ?_ (by assumption))))) _ | refine Kept.trans ?_ (by assumption))), HB7.out⟩
                  case measure => simp [intOf]; omega
                · have HN := Lib.hid (gaugesB_no hlt (show gaugeAt gs k = false by simp [gaugeAt, find_some hjl HNO.out h7]))
                  have h7' : ((GZ gs j).nm.toList == (GZ gs k).nm.toList) = true := h7
                  clear h7
                  go_wp2_with fail
                  go_quiet (fail)
                  go_wp2
                  go_ret
                  exact ⟨ret_bool HN.out.symm, by (repeat (first | exact Kept.refl _ | assumption | refine Kept.alloc ?_ _ | refine Kept.drew ?_ | refine Kept.drewN ?_ _ | refine Kept.setCell ?_ (by first | (simp; done) | (simp; omega) | omega | exact Kept.size (by (repeat (first | exact Kept.refl _ | assumption | refine Kept.alloc ?_ _ | refine Kept.drew ?_ | refine Kept.drewN ?_ _ | refine Kept.trans ?_ (by assumption))))) _ | refine Kept.trans ?_ (by assumption)))⟩
              · have HB := Lib.hid (upto_succ (p := fun i => gaugeAt gs i = true) HA.out (show gaugeAt gs k = true by rw [gaugeAt, grB, h1, decide_eq_true HH.out, find_none (fun i hi => HNO.out i (by omega))]; rfl))
                go_wp2
                go_roundw
                case rel => exact ⟨k + 1, by omega, by omega, by go_num, by (repeat (first | exact Kept.refl _ | assumption | refine Kept.alloc ?_ _ | refine Kept.drew ?_ | refine Kept.drewN ?_ _ | refine Kept.setCell ?_ (by first | (simp; done) | (simp; omega) | omega | exact Kept.size (by (repeat (first | exact Kept.refl _ | assumption | refine Kept.alloc ?_ _ | refine Kept.drew ?_ | refine Kept.drewN ?_ _ | refine Kept.trans ?_ (by assumption))))) _ | refine Kept.trans ?_ (by assumption))), HB.out⟩
                case measure => simp [intOf]; omega
          · have HN := Lib.hid (gaugesB_no hlt (show gaugeAt gs k = false by simp [gaugeAt, h3]; omega))
            have h6 : (GZ gs k).id ≤ (GZ gs (k - 1)).id := by omega
            go_wp2_with fail
            have ew : IntKind.i64.wrap ((k : Int) - 1) = (k : Int) - 1 := IntWalk.i64_in _ (by omega)
            have kf9_0 : ∀ w' : World, Root (wr) w' → w'.cell? ⟨b, off + k * 4, none⟩ = some (.int .i64 (GZ gs k).id) := fun w' h => h.keep (by first | assumption | exact (Kept.alloc (Kept.refl _) _).keep (by assumption) | (simp [go_sem]; done) | (simp [go_sem, *]; done))
            have kf9_1 : ∀ w' : World, Root (wr) w' → w'.cell? ⟨b, off + k * 4 + 1, none⟩ = some (.string (GZ gs k).nm) := fun w' h => h.keep (by first | assumption | exact (Kept.alloc (Kept.refl _) _).keep (by assumption) | (simp [go_sem]; done) | (simp [go_sem, *]; done))
            have kf9_2 : ∀ w' : World, Root (wr) w' → w'.cell? ⟨b, off + k * 4 + 2, none⟩ = some (.int .i64 (GZ gs k).z) := fun w' h => h.keep (by first | assumption | exact (Kept.alloc (Kept.refl _) _).keep (by assumption) | (simp [go_sem]; done) | (simp [go_sem, *]; done))
            have kf9_3 : ∀ w' : World, Root (wr) w' → w'.cell? ⟨b, off + k * 4 + 3, none⟩ = some (.slice A2 (GZ gs k).xs.length n2) := fun w' h => h.keep (by first | assumption | exact (Kept.alloc (Kept.refl _) _).keep (by assumption) | (simp [go_sem]; done) | (simp [go_sem, *]; done))
            have kf9_4 : ∀ w' : World, Root (wr) w' → w'.cell? ⟨b, off + (k - 1) * 4, none⟩ = some (.int .i64 (GZ gs (k - 1)).id) := fun w' h => h.keep (by first | assumption | exact (Kept.alloc (Kept.refl _) _).keep (by assumption) | (simp [go_sem]; done) | (simp [go_sem, *]; done))
            refine wp_region_held_drew (S := fun w' => Root (wr) w') (by kernel_rfl) (by (try dsimp only); (first | assumption | exact Root.trans (by assumption) hk | exact Root.drew (Root.refl _) | (repeat (first | exact Root.refl _ | assumption | refine Root.alloc ?_ _ | refine Root.drew ?_ | refine Root.setCell ?_ (by first | (simp; done) | (simp; omega) | omega | exact Root.size (by assumption)) _ | refine Root.trans ?_ (by assumption))))) (fun hHeld => ?_)
            refine wpAnyH_take (i := 0) (v := ?_) rfl (by kernel_rfl) (by kernel_rfl) (by kernel_rfl) (fun _ _ _ h => h) (Or.inl ⟨by kernel_rfl, ?_⟩) (by assumption) ?_
            rotate_left
            focus (intro w hSw; (try dsimp only at hSw); go_simp; (try with_reducible rfl))
            (try simp only [Act.put, List.getElem_toArray, List.getElem_cons_zero, List.getElem_cons_succ, List.setIfInBounds_toArray, List.set_cons_zero, List.set_cons_succ])
            refine wpAnyH_take (i := 1) (v := ?_) rfl (by kernel_rfl) (by kernel_rfl) (by kernel_rfl) (fun _ _ _ h => h) (Or.inl ⟨by kernel_rfl, ?_⟩) (by assumption) ?_
            rotate_left
            focus (intro w hSw; (try dsimp only at hSw); go_simp; (try with_reducible rfl))
            (try simp only [Act.put, List.getElem_toArray, List.getElem_cons_zero, List.getElem_cons_succ, List.setIfInBounds_toArray, List.set_cons_zero, List.set_cons_succ])
            refine wpAnyH_take (i := 2) (v := ?_) rfl (by kernel_rfl) (by kernel_rfl) (by kernel_rfl) (fun _ _ _ h => h) (Or.inl ⟨by kernel_rfl, ?_⟩) (by assumption) ?_
            rotate_left
            focus (intro w hSw; (try dsimp only at hSw); go_simp; (try with_reducible rfl))
            (try simp only [Act.put, List.getElem_toArray, List.getElem_cons_zero, List.getElem_cons_succ, List.setIfInBounds_toArray, List.set_cons_zero, List.set_cons_succ])
            refine wpAnyH_take (i := 3) (v := ?_) rfl (by kernel_rfl) (by kernel_rfl) (by kernel_rfl) (fun _ _ _ h => h) (Or.inl ⟨by kernel_rfl, ?_⟩) (by assumption) ?_
            rotate_left
            focus (intro w hSw; (try dsimp only at hSw); go_simp; (try with_reducible rfl))
            (try simp only [Act.put, List.getElem_toArray, List.getElem_cons_zero, List.getElem_cons_succ, List.setIfInBounds_toArray, List.set_cons_zero, List.set_cons_succ])
            refine wpAnyH_ready (rs := [4]) (by kernel_rfl) (by simp) ?_
            refine AllReadyH.cons rfl (fun K hK => ?_) AllReadyH.nil
            go_simp
            (go_at_call 72; refine (HI.out _ (by exact CL.out.kept (by (repeat (first | exact Kept.refl _ | assumption | refine Kept.alloc ?_ _ | refine Kept.drew ?_ | refine Kept.drewN ?_ _ | refine Kept.setCell ?_ (by first | (simp; done) | (simp; omega) | omega | exact Kept.size (by (repeat (first | exact Kept.refl _ | assumption | refine Kept.alloc ?_ _ | refine Kept.drew ?_ | refine Kept.drewN ?_ _ | refine Kept.trans ?_ (by assumption))))) _ | refine Kept.trans ?_ (by assumption)))))).mono ?_; rintro e w1 ⟨rfl, hk⟩; (have hkr := Root.trans (by assumption) hk); (first | (have hkf := From.step (by assumption) hk; obtain ⟨hc, hf⟩ := hkf.cells) | (have hkf := From.start hk; obtain ⟨hc, hf⟩ := hkf.cells)))
            (try go_wp2_with fail)
            refine hK.out _ _ (by (try dsimp only); (first | assumption | exact Root.trans (by assumption) hk | exact Root.drew (Root.refl _) | (repeat (first | exact Root.refl _ | assumption | refine Root.alloc ?_ _ | refine Root.drew ?_ | refine Root.setCell ?_ (by first | (simp; done) | (simp; omega) | omega | exact Root.size (by assumption)) _ | refine Root.trans ?_ (by assumption))))) (fun hHeld => ?_)
            clear hK K
            (try simp only [Act.put, List.getElem_toArray, List.getElem_cons_zero, List.getElem_cons_succ, List.setIfInBounds_toArray, List.set_cons_zero, List.set_cons_succ])
            refine wpAnyH_take (i := 5) (v := ?_) rfl (by kernel_rfl) (by kernel_rfl) (by kernel_rfl) (fun _ _ _ h => h) (Or.inl ⟨by kernel_rfl, ?_⟩) (by assumption) ?_
            rotate_left
            focus (intro w hSw; (try dsimp only at hSw); go_simp; (try with_reducible rfl))
            (try simp only [Act.put, List.getElem_toArray, List.getElem_cons_zero, List.getElem_cons_succ, List.setIfInBounds_toArray, List.set_cons_zero, List.set_cons_succ])
            refine wpAnyH_take (i := 6) (v := ?_) rfl (by kernel_rfl) (by kernel_rfl) (by kernel_rfl) (fun _ _ _ h => h) (Or.inl ⟨by kernel_rfl, ?_⟩) (by assumption) ?_
            rotate_left
            focus (intro w hSw; (try dsimp only at hSw); go_simp; (try with_reducible rfl))
            (try simp only [Act.put, List.getElem_toArray, List.getElem_cons_zero, List.getElem_cons_succ, List.setIfInBounds_toArray, List.set_cons_zero, List.set_cons_succ])
            refine wpAnyH_take (i := 7) (v := ?_) rfl (by kernel_rfl) (by kernel_rfl) (by kernel_rfl) (fun _ _ _ h => h) (Or.inl ⟨by kernel_rfl, ?_⟩) (by assumption) ?_
            rotate_left
            focus (intro w hSw; (try dsimp only at hSw); go_simp; (try with_reducible rfl))
            (try simp only [Act.put, List.getElem_toArray, List.getElem_cons_zero, List.getElem_cons_succ, List.setIfInBounds_toArray, List.set_cons_zero, List.set_cons_succ])
            refine wpAnyH_take (i := 8) (v := ?_) rfl (by kernel_rfl) (by kernel_rfl) (by kernel_rfl) (fun _ _ _ h => h) (Or.inl ⟨by kernel_rfl, ?_⟩) (by assumption) ?_
            rotate_left
            focus (intro w hSw; (try dsimp only at hSw); go_simp; (try with_reducible rfl))
            (try simp only [Act.put, List.getElem_toArray, List.getElem_cons_zero, List.getElem_cons_succ, List.setIfInBounds_toArray, List.set_cons_zero, List.set_cons_succ])
            refine wpAnyH_take (i := 9) (v := ?_) rfl (by kernel_rfl) (by kernel_rfl) (by kernel_rfl) (fun _ _ _ h => h) (Or.inl ⟨by kernel_rfl, ?_⟩) (by assumption) ?_
            rotate_left
            focus (intro w hSw; (try dsimp only at hSw); go_simp; (try with_reducible rfl))
            (try simp only [Act.put, List.getElem_toArray, List.getElem_cons_zero, List.getElem_cons_succ, List.setIfInBounds_toArray, List.set_cons_zero, List.set_cons_succ])
            refine wpAnyH_take (i := 10) (v := ?_) rfl (by kernel_rfl) (by kernel_rfl) (by kernel_rfl) (fun _ _ _ h => h) (Or.inl ⟨by kernel_rfl, ?_⟩) (by assumption) ?_
            rotate_left
            focus (intro w hSw; (try dsimp only at hSw); go_simp; (try with_reducible rfl))
            (try simp only [Act.put, List.getElem_toArray, List.getElem_cons_zero, List.getElem_cons_succ, List.setIfInBounds_toArray, List.set_cons_zero, List.set_cons_succ])
            refine wpAnyH_take (i := 11) (v := ?_) rfl (by kernel_rfl) (by kernel_rfl) (by kernel_rfl) (fun _ _ _ h => h) (Or.inl ⟨by kernel_rfl, ?_⟩) (by assumption) ?_
            rotate_left
            focus (intro w hSw; (try dsimp only at hSw); go_simp; (try with_reducible rfl))
            (try simp only [Act.put, List.getElem_toArray, List.getElem_cons_zero, List.getElem_cons_succ, List.setIfInBounds_toArray, List.set_cons_zero, List.set_cons_succ])
            refine wpAnyH_take (i := 12) (v := ?_) rfl (by kernel_rfl) (by kernel_rfl) (by kernel_rfl) (fun _ _ _ h => h) (Or.inl ⟨by kernel_rfl, ?_⟩) (by assumption) ?_
            rotate_left
            focus (intro w hSw; (try dsimp only at hSw); go_simp; (try with_reducible rfl))
            (try simp only [Act.put, List.getElem_toArray, List.getElem_cons_zero, List.getElem_cons_succ, List.setIfInBounds_toArray, List.set_cons_zero, List.set_cons_succ])
            refine wpAnyH_take (i := 13) (v := ?_) rfl (by kernel_rfl) (by kernel_rfl) (by kernel_rfl) (fun _ _ _ h => h) (Or.inl ⟨by kernel_rfl, ?_⟩) (by assumption) ?_
            rotate_left
            focus (intro w hSw; (try dsimp only at hSw); go_simp; (try with_reducible rfl))
            (try simp only [Act.put, List.getElem_toArray, List.getElem_cons_zero, List.getElem_cons_succ, List.setIfInBounds_toArray, List.set_cons_zero, List.set_cons_succ])
            refine wpAnyH_take (i := 14) (v := ?_) rfl (by kernel_rfl) (by kernel_rfl) (by kernel_rfl) (fun _ _ _ h => h) (Or.inl ⟨by kernel_rfl, ?_⟩) (by assumption) ?_
            rotate_left
            focus (intro w hSw; (try dsimp only at hSw); go_simp; (try with_reducible rfl))
            (try simp only [Act.put, List.getElem_toArray, List.getElem_cons_zero, List.getElem_cons_succ, List.setIfInBounds_toArray, List.set_cons_zero, List.set_cons_succ])
            refine wpAnyH_take (i := 15) (v := ?_) rfl (by kernel_rfl) (by kernel_rfl) (by kernel_rfl) (fun _ _ _ h => h) (Or.inl ⟨by kernel_rfl, ?_⟩) (by assumption) ?_
            rotate_left
            focus (intro w hSw; (try dsimp only at hSw); go_simp; (try with_reducible rfl))
            (try simp only [Act.put, List.getElem_toArray, List.getElem_cons_zero, List.getElem_cons_succ, List.setIfInBounds_toArray, List.set_cons_zero, List.set_cons_succ])
            refine wpAnyH_take (i := 16) (v := ?_) rfl (by kernel_rfl) (by kernel_rfl) (by kernel_rfl) (fun _ _ _ h => h) (Or.inl ⟨by kernel_rfl, ?_⟩) (by assumption) ?_
            rotate_left
            focus (intro w hSw; (try dsimp only at hSw); go_simp; (try with_reducible rfl))
            (try simp only [Act.put, List.getElem_toArray, List.getElem_cons_zero, List.getElem_cons_succ, List.setIfInBounds_toArray, List.set_cons_zero, List.set_cons_succ])
            refine wpAnyH_take (i := 17) (v := ?_) rfl (by kernel_rfl) (by kernel_rfl) (by kernel_rfl) (fun _ _ _ h => h) (Or.inl ⟨by kernel_rfl, ?_⟩) (by assumption) ?_
            rotate_left
            focus (intro w hSw; (try dsimp only at hSw); go_simp; (try with_reducible rfl))
            (try simp only [Act.put, List.getElem_toArray, List.getElem_cons_zero, List.getElem_cons_succ, List.setIfInBounds_toArray, List.set_cons_zero, List.set_cons_succ])
            refine wpAnyH_take (i := 18) (v := ?_) rfl (by kernel_rfl) (by kernel_rfl) (by kernel_rfl) (fun _ _ _ h => h) (Or.inl ⟨by kernel_rfl, ?_⟩) (by assumption) ?_
            rotate_left
            focus (intro w hSw; (try dsimp only at hSw); go_simp; (try with_reducible rfl))
            (try simp only [Act.put, List.getElem_toArray, List.getElem_cons_zero, List.getElem_cons_succ, List.setIfInBounds_toArray, List.set_cons_zero, List.set_cons_succ])
            refine wpAnyH_take (i := 19) (v := ?_) rfl (by kernel_rfl) (by kernel_rfl) (by kernel_rfl) (fun _ _ _ h => h) (Or.inl ⟨by kernel_rfl, ?_⟩) (by assumption) ?_
            rotate_left
            focus (intro w hSw; (try dsimp only at hSw); go_simp; (try with_reducible rfl))
            (try simp only [Act.put, List.getElem_toArray, List.getElem_cons_zero, List.getElem_cons_succ, List.setIfInBounds_toArray, List.set_cons_zero, List.set_cons_succ])
            refine wpAnyH_take (i := 20) (v := ?_) rfl (by kernel_rfl) (by kernel_rfl) (by kernel_rfl) (fun _ _ _ h => h) (Or.inl ⟨by kernel_rfl, ?_⟩) (by assumption) ?_
            rotate_left
            focus (intro w hSw; (try dsimp only at hSw); go_simp; (try with_reducible rfl))
            (try simp only [Act.put, List.getElem_toArray, List.getElem_cons_zero, List.getElem_cons_succ, List.setIfInBounds_toArray, List.set_cons_zero, List.set_cons_succ])
            refine wpAnyH_take (i := 21) (v := ?_) rfl (by kernel_rfl) (by kernel_rfl) (by kernel_rfl) (fun _ _ _ h => h) (Or.inl ⟨by kernel_rfl, ?_⟩) (by assumption) ?_
            rotate_left
            focus (intro w hSw; (try dsimp only at hSw); go_simp; (try with_reducible rfl))
            (try simp only [Act.put, List.getElem_toArray, List.getElem_cons_zero, List.getElem_cons_succ, List.setIfInBounds_toArray, List.set_cons_zero, List.set_cons_succ])
            refine wpAnyH_take (i := 22) (v := ?_) rfl (by kernel_rfl) (by kernel_rfl) (by kernel_rfl) (fun _ _ _ h => h) (Or.inl ⟨by kernel_rfl, ?_⟩) (by assumption) ?_
            rotate_left
            focus (intro w hSw; (try dsimp only at hSw); go_simp; (try with_reducible rfl))
            (try simp only [Act.put, List.getElem_toArray, List.getElem_cons_zero, List.getElem_cons_succ, List.setIfInBounds_toArray, List.set_cons_zero, List.set_cons_succ])
            refine wpAnyH_take (i := 23) (v := ?_) rfl (by kernel_rfl) (by kernel_rfl) (by kernel_rfl) (fun _ _ _ h => h) (Or.inl ⟨by kernel_rfl, ?_⟩) (by assumption) ?_
            rotate_left
            focus (intro w hSw; (try dsimp only at hSw); go_simp; (try with_reducible rfl))
            (try simp only [Act.put, List.getElem_toArray, List.getElem_cons_zero, List.getElem_cons_succ, List.setIfInBounds_toArray, List.set_cons_zero, List.set_cons_succ])
            refine wpAnyH_done (by kernel_rfl) ?_ _
            clear ew
            go_wp2
            go_ret
            exact ⟨ret_bool HN.out.symm, by (repeat (first | exact Kept.refl _ | assumption | refine Kept.alloc ?_ _ | refine Kept.drew ?_ | refine Kept.drewN ?_ _ | refine Kept.setCell ?_ (by first | (simp; done) | (simp; omega) | omega | exact Kept.size (by (repeat (first | exact Kept.refl _ | assumption | refine Kept.alloc ?_ _ | refine Kept.drew ?_ | refine Kept.drewN ?_ _ | refine Kept.trans ?_ (by assumption))))) _ | refine Kept.trans ?_ (by assumption)))⟩
    · have e : k = gs.length := by omega
      have HF : Hid (gaugesB gs = decide ((gs.length : Int) ≤ 6)) := gaugesB_all (fun i hi => HA.out i (by omega))
      clear e hA hz
      go_wp2
      go_ret
      exact ⟨ret_bool HF.out.symm, by (repeat (first | exact Kept.refl _ | assumption | refine Kept.alloc ?_ _ | refine Kept.drew ?_ | refine Kept.drewN ?_ _ | refine Kept.setCell ?_ (by first | (simp; done) | (simp; omega) | omega | exact Kept.size (by (repeat (first | exact Kept.refl _ | assumption | refine Kept.alloc ?_ _ | refine Kept.drew ?_ | refine Kept.drewN ?_ _ | refine Kept.trans ?_ (by assumption))))) _ | refine Kept.trans ?_ (by assumption)))⟩
theorem sAreGauges_any (v : Value) (gs : List Gz) (w : World) (hL : GLies w v gs) (hz : GSized gs) : Calls Try.prog 44 #[v] w fun e w' => e = .returned (.bool (gaugesB gs)) ∧ Kept w w' := by
  have HL := Lib.hid hL
  obtain ⟨A, c, rfl, hlc, hcm, hA⟩ := hL
  clear hA
  go_enter Try.func44, Try.ntmps44
  go_wp2_with (go_at_call 85; (with_reducible refine (l3Good_any _ _ _ HL.out hz).mono ?_); rintro e w' ⟨rfl, hk⟩; (try have hkr := Root.trans (by assumption) hk); (first | (have hkf := From.step (by assumption) hk; obtain ⟨hc, hf⟩ := hkf.cells) | (have hkf := From.start hk; obtain ⟨hc, hf⟩ := hkf.cells)))
  go_ret
  exact ⟨rfl, by (repeat (first | exact Kept.refl _ | assumption | refine Kept.alloc ?_ _ | refine Kept.drew ?_ | refine Kept.drewN ?_ _ | refine Kept.setCell ?_ (by first | (simp; done) | (simp; omega) | omega | exact Kept.size (by (repeat (first | exact Kept.refl _ | assumption | refine Kept.alloc ?_ _ | refine Kept.drew ?_ | refine Kept.drewN ?_ _ | refine Kept.trans ?_ (by assumption))))) _ | refine Kept.trans ?_ (by assumption)))⟩
theorem lawAreGauges (v : Value) (gs : List Gz) (w : World) (hL : GLies w v gs) (hz : GSized gs) : Calls Try.prog 8 #[v] w fun e w' => e = .returned (.bool true) ∧ Kept w w' := by
  have HL := Lib.hid hL
  have HZ := Lib.hid hz
  obtain ⟨A, c, rfl, hlc, hcm, hA⟩ := hL
  clear hA hz
  go_enter Try.func8, Try.ntmps8
  go_wp2_with fail
  refine (szGaugeS_any _ _ _ HL.out HZ.out).mono ?_
  rintro e W0 ⟨r, rfl, hr, k0⟩
  by_cases hneg : r < 0
  · go_wp2_with fail
    go_ret
    exact ⟨rfl, by (repeat (first | exact Kept.refl _ | assumption | refine Kept.alloc ?_ _ | refine Kept.drew ?_ | refine Kept.drewN ?_ _ | refine Kept.setCell ?_ (by first | (simp; done) | (simp; omega) | omega | exact Kept.size (by (repeat (first | exact Kept.refl _ | assumption | refine Kept.alloc ?_ _ | refine Kept.drew ?_ | refine Kept.drewN ?_ _ | refine Kept.trans ?_ (by assumption))))) _ | refine Kept.trans ?_ (by assumption)))⟩
  · have hn := hr (by omega)
    clear hr
    go_wp2_with (first | (go_at_call 45; refine (toGaugeS_any _ _ _ (by exact HL.out.kept (by (repeat (first | exact Kept.refl _ | assumption | refine Kept.alloc ?_ _ | refine Kept.drew ?_ | refine Kept.drewN ?_ _ | refine Kept.setCell ?_ (by first | (simp; done) | (simp; omega) | omega | exact Kept.size (by (repeat (first | exact Kept.refl _ | assumption | refine Kept.alloc ?_ _ | refine Kept.drew ?_ | refine Kept.drewN ?_ _ | refine Kept.trans ?_ (by assumption))))) _ | refine Kept.trans ?_ (by assumption))))) hn.1 hn.2).mono ?_; rintro e w1 ⟨u1, rfl, hu1, hk⟩; (try have hkr := Root.trans (by assumption) hk); have hl1 := hu1.lies; clear hu1) | (go_at_call 44; (with_reducible refine (sAreGauges_any _ _ _ (by first | assumption | exact GLies.kept (by assumption) (by (repeat (first | exact Kept.refl _ | assumption | refine Kept.alloc ?_ _ | refine Kept.drew ?_ | refine Kept.drewN ?_ _ | refine Kept.setCell ?_ (by first | (simp; done) | (simp; omega) | omega | exact Kept.size (by (repeat (first | exact Kept.refl _ | assumption | refine Kept.alloc ?_ _ | refine Kept.drew ?_ | refine Kept.drewN ?_ _ | refine Kept.trans ?_ (by assumption))))) _ | refine Kept.trans ?_ (by assumption))))) HZ.out).mono ?_); rintro e w' ⟨rfl, hk⟩; (try have hkr := Root.trans (by assumption) hk); (first | (have hkf := From.step (by assumption) hk; obtain ⟨hc, hf⟩ := hkf.cells) | (have hkf := From.start hk; obtain ⟨hc, hf⟩ := hkf.cells))) | (go_at_call 46; (with_reducible refine (areGauges_any _ _ _ (by first | assumption | exact GLies.kept (by assumption) (by (repeat (first | exact Kept.refl _ | assumption | refine Kept.alloc ?_ _ | refine Kept.drew ?_ | refine Kept.drewN ?_ _ | refine Kept.setCell ?_ (by first | (simp; done) | (simp; omega) | omega | exact Kept.size (by (repeat (first | exact Kept.refl _ | assumption | refine Kept.alloc ?_ _ | refine Kept.drew ?_ | refine Kept.drewN ?_ _ | refine Kept.trans ?_ (by assumption))))) _ | refine Kept.trans ?_ (by assumption))))) HZ.out).mono ?_); rintro e w' ⟨rfl, hk⟩; (try have hkr := Root.trans (by assumption) hk); (first | (have hkf := From.step (by assumption) hk; obtain ⟨hc, hf⟩ := hkf.cells) | (have hkf := From.start hk; obtain ⟨hc, hf⟩ := hkf.cells))) | (go_at_call 47; (with_reducible refine (eqGaugeS_any _ _ _ _ (by first | assumption | exact GLies.kept (by assumption) (by (repeat (first | exact Kept.refl _ | assumption | refine Kept.alloc ?_ _ | refine Kept.drew ?_ | refine Kept.drewN ?_ _ | refine Kept.setCell ?_ (by first | (simp; done) | (simp; omega) | omega | exact Kept.size (by (repeat (first | exact Kept.refl _ | assumption | refine Kept.alloc ?_ _ | refine Kept.drew ?_ | refine Kept.drewN ?_ _ | refine Kept.trans ?_ (by assumption))))) _ | refine Kept.trans ?_ (by assumption))))) (by first | assumption | exact GLies.kept (by assumption) (by (repeat (first | exact Kept.refl _ | assumption | refine Kept.alloc ?_ _ | refine Kept.drew ?_ | refine Kept.drewN ?_ _ | refine Kept.setCell ?_ (by first | (simp; done) | (simp; omega) | omega | exact Kept.size (by (repeat (first | exact Kept.refl _ | assumption | refine Kept.alloc ?_ _ | refine Kept.drew ?_ | refine Kept.drewN ?_ _ | refine Kept.trans ?_ (by assumption))))) _ | refine Kept.trans ?_ (by assumption)))))).mono ?_); rintro e w' ⟨rfl, hk⟩; (try have hkr := Root.trans (by assumption) hk); (first | (have hkf := From.step (by assumption) hk; obtain ⟨hc, hf⟩ := hkf.cells) | (have hkf := From.start hk; obtain ⟨hc, hf⟩ := hkf.cells))))
    go_ret
    exact ⟨rfl, by (repeat (first | exact Kept.refl _ | assumption | refine Kept.alloc ?_ _ | refine Kept.drew ?_ | refine Kept.drewN ?_ _ | refine Kept.setCell ?_ (by first | (simp; done) | (simp; omega) | omega | exact Kept.size (by (repeat (first | exact Kept.refl _ | assumption | refine Kept.alloc ?_ _ | refine Kept.drew ?_ | refine Kept.drewN ?_ _ | refine Kept.trans ?_ (by assumption))))) _ | refine Kept.trans ?_ (by assumption)))⟩
end Go.Proofs.Ytopdnhlolfehcaa
