/-
  Contracts of l1Num, strconv.Itoa and FormatInt; the walk of FormatInt's law.
  Conditions: none but that the table internal/strconv.uint64pow10 reads as it was laid.
-/
import Derived.Test.YtlnhdjajbiahbaaDoorMem
import Derived.Test.YtlnhdjajbiahbaaDoorDShelf
import Derived.Lib.AppendIntMem
import Derived.Lib.SmallJoins
import Derived.Lib.ItoaLen
import Derived.Laws.IdiomStrings
namespace Go.Proofs.YtlnhdjajbiahbaaDoor
open Go.ChangeShapes Go.WideShapes Go.ChangeAt Go.RowKit
set_option linter.unusedVariables false
set_option linter.unusedSimpArgs false

theorem txt_ne {a b : ByteArray} (h : ¬ a = b) : (a.toList == b.toList) = false := by
  rw [beq_eq_false_iff_ne, ByteArray.toList_eq, ByteArray.toList_eq]
  intro e
  exact h (ByteArray.ext (Array.toList_inj.1 e))
/-- The digits of a number, the numeral of an int. -/
def dcx (k : Nat) : ByteArray := ⟨(Lib.decDigits k).toArray⟩
def itx (n : Int) : ByteArray := ⟨(Lib.itoa n).toArray⟩
theorem itx_nat {n : Int} (h : ¬ n < 0) : itx n = dcx n.toNat := by simp [itx, dcx, Lib.itoa, h]
theorem itx_neg {n : Int} (h : n < 0) : itx n = ⟨#[45]⟩ ++ dcx n.natAbs := by
  simp only [itx, dcx, Lib.itoa, if_pos h]
  apply ByteArray.ext
  simp [ByteArray.data_append]
theorem dcx_one {k : Nat} (h : k < 10) : dcx k = ⟨#[UInt8.ofNat (48 + k)]⟩ := by rw [dcx, Lib.decDigits_one h]
theorem dcx_more {k : Nat} (h : ¬ k < 10) : dcx k = dcx (k / 10) ++ ⟨#[UInt8.ofNat (48 + k % 10)]⟩ := by
  rw [dcx, Lib.decDigits, dif_neg h, dcx]
  apply ByteArray.ext
  simp [ByteArray.data_append]
theorem dcx_size {k : Nat} (h : k ≤ 1000000) : (dcx k).size ≤ 20 := by
  have := Lib.nDigits_le20 k (by omega)
  simp [dcx, ByteArray.size, Lib.decDigits_length]
  exact this
theorem itx_size {n : Int} (h0 : -1000000 ≤ n) (h1 : n ≤ 1000000) : (itx n).size ≤ 21 := by
  have := Lib.itoa_length_le n (by omega) (by omega)
  simpa [itx, ByteArray.size] using this
theorem dig_fin : ∀ i : Fin 10, (⟨#[48, 49, 50, 51, 52, 53, 54, 55, 56, 57]⟩ : ByteArray).extract i.val (i.val + 1) = ⟨#[UInt8.ofNat (48 + i.val)]⟩ := by decide +kernel
theorem dig_at {k : Nat} (h : k < 10) : (⟨#[48, 49, 50, 51, 52, 53, 54, 55, 56, 57]⟩ : ByteArray).extract k (k + 1) = ⟨#[UInt8.ofNat (48 + k)]⟩ := dig_fin ⟨k, h⟩
set_option maxHeartbeats 200000 in
theorem l1NumNat_any (k : Nat) (hk : k ≤ 1000000) (w : World) : Calls Tryd.prog 28 #[.int .i64 (k : Int)] w fun e w' => e = .returned (.string (dcx k)) ∧ Kept w w' := by
  induction k using Nat.strongRecOn generalizing w with
  | ind k ih =>
    have k0 : ¬ ((k : Int) < 0) := by omega
    by_cases h : k < 10
    · have HD := Lib.hid ((dig_at h).trans (dcx_one h).symm)
      have k1 : (k : Int) < 10 := by omega
      have e0 : ((k : Int)).toNat = k := by omega
      have e1 : ((k : Int) + 1).toNat = k + 1 := by omega
      have b0 : (0 : Int) ≤ (k : Int) := by omega
      have b1 : (k : Int) + 1 ≤ 10 := by omega
      clear ih
      go_enter Tryd.func28, Tryd.ntmps28
      go_wp2_with fail
      go_ret
      exact ⟨by rw [HD.out]; rfl, by (repeat (first | exact Kept.refl _ | assumption | refine Kept.alloc ?_ _ | refine Kept.drew ?_ | refine Kept.drewN ?_ _ | refine Kept.setCell ?_ (by first | (simp; done) | (simp; omega) | omega | exact Kept.size (by (repeat (first | exact Kept.refl _ | assumption | refine Kept.alloc ?_ _ | refine Kept.drew ?_ | refine Kept.drewN ?_ _ | refine Kept.trans ?_ (by assumption))))) _ | refine Kept.trans ?_ (by assumption)))⟩
    · have HI := Lib.hid (fun W => ih (k / 10) (by omega) (by omega) W)
      have hc : ((k / 10 : Nat) : Int) = (k : Int) / 10 := by omega
      have HI2 : Hid (∀ W : World, Calls Tryd.prog 28 #[.int .i64 ((k : Int) / 10)] W fun e w' => e = .returned (.string (dcx (k / 10))) ∧ Kept W w') := Lib.hid (by rw [← hc]; exact HI.out)
      have HD := Lib.hid ((congrArg (dcx (k / 10) ++ ·) (dig_at (k := k % 10) (by omega))).trans (dcx_more h).symm)
      have k1 : ¬ ((k : Int) < 10) := by omega
      have ht : (k : Int).tmod 10 = (k : Int) % 10 := Int.tmod_eq_emod_of_nonneg (by omega)
      have hq : (k : Int).tdiv 10 = (k : Int) / 10 := Int.tdiv_eq_ediv_of_nonneg (by omega)
      have b0 : (0 : Int) ≤ (k : Int) % 10 := by omega
      have b1 : (k : Int) % 10 + 1 ≤ 10 := by omega
      have b2 : (0 : Int) ≤ (k : Int) % 10 + 1 := by omega
      have b3 : (k : Int) % 10 ≤ (k : Int) % 10 + 1 := by omega
      have hw : IntKind.i64.wrap ((k : Int) % 10 + 1) = (k : Int) % 10 + 1 := by rw [IntKind.wrap_i64]; omega
      have hw2 : IntKind.i64.wrap ((k : Int) / 10) = (k : Int) / 10 := by rw [IntKind.wrap_i64]; omega
      have e0 : ((k : Int) % 10).toNat = k % 10 := by omega
      have e1 : ((k : Int) % 10 + 1).toNat = k % 10 + 1 := by omega
      have hz := dcx_size (k := k / 10) (by omega)
      have hxz : ((⟨#[48, 49, 50, 51, 52, 53, 54, 55, 56, 57]⟩ : ByteArray).extract (k % 10) (k % 10 + 1)).size ≤ 20 := by rw [dig_at (by omega)]; simp [ByteArray.size]
      obtain ⟨q, hx⟩ : ∃ q, (⟨#[48, 49, 50, 51, 52, 53, 54, 55, 56, 57]⟩ : ByteArray).extract (k % 10) (k % 10 + 1) = q := ⟨_, rfl⟩
      rw [hx] at hxz
      have HD2 : Hid (dcx (k / 10) ++ q = dcx k) := Lib.hid (by rw [← hx]; exact HD.out)
      generalize dcx (k / 10) = d at HI2 hz HD2
      have hsum : ¬ 9223372036854775807 < d.size + q.size := by omega
      clear ih HI hc HD
      go_enter Tryd.func28, Tryd.ntmps28
      go_wp2_with fail
      refine wp_region_held_drew (S := fun w' => Root (w) w') (by kernel_rfl) (by (try dsimp only); (first | assumption | exact Root.trans (by assumption) hk | exact Root.drew (Root.refl _) | (repeat (first | exact Root.refl _ | assumption | refine Root.alloc ?_ _ | refine Root.drew ?_ | refine Root.setCell ?_ (by first | (simp; done) | (simp; omega) | omega | exact Root.size (by assumption)) _ | refine Root.trans ?_ (by assumption))))) (fun hHeld => ?_)
      refine wpAnyH_take (i := 0) (v := ?_) rfl (by kernel_rfl) (by kernel_rfl) (by kernel_rfl) (fun _ _ _ h => h) (Or.inl ⟨by kernel_rfl, ?_⟩) (by assumption) ?_
      rotate_left
      focus (intro w hSw; (try dsimp only at hSw); go_simp; (try with_reducible rfl))
      (try simp only [Act.put, List.getElem_toArray, List.getElem_cons_zero, List.getElem_cons_succ, List.setIfInBounds_toArray, List.set_cons_zero, List.set_cons_succ])
      refine wpAnyH_take (i := 1) (v := ?_) rfl (by kernel_rfl) (by kernel_rfl) (by kernel_rfl) (fun _ _ _ h => h) (Or.inl ⟨by kernel_rfl, ?_⟩) (by assumption) ?_
      rotate_left
      focus (intro w hSw; (try dsimp only at hSw); go_simp; (try with_reducible rfl))
      (try simp only [Act.put, List.getElem_toArray, List.getElem_cons_zero, List.getElem_cons_succ, List.setIfInBounds_toArray, List.set_cons_zero, List.set_cons_succ])
      refine wpAnyH_take (i := 3) (v := ?_) rfl (by kernel_rfl) (by kernel_rfl) (by kernel_rfl) (fun _ _ _ h => h) (Or.inl ⟨by kernel_rfl, ?_⟩) (by assumption) ?_
      rotate_left
      focus (intro w hSw; (try dsimp only at hSw); go_simp; (try with_reducible rfl))
      (try simp only [Act.put, List.getElem_toArray, List.getElem_cons_zero, List.getElem_cons_succ, List.setIfInBounds_toArray, List.set_cons_zero, List.set_cons_succ])
      refine wpAnyH_take (i := 4) (v := ?_) rfl (by kernel_rfl) (by kernel_rfl) (by kernel_rfl) (fun _ _ _ h => h) (Or.inl ⟨by kernel_rfl, ?_⟩) (by assumption) ?_
      rotate_left
      focus (intro w hSw; (try dsimp only at hSw); go_simp; (try with_reducible rfl))
      (try simp only [Act.put, List.getElem_toArray, List.getElem_cons_zero, List.getElem_cons_succ, List.setIfInBounds_toArray, List.set_cons_zero, List.set_cons_succ])
      refine wpAnyH_take (i := 5) (v := ?_) rfl (by kernel_rfl) (by kernel_rfl) (by kernel_rfl) (fun _ _ _ h => h) (Or.inl ⟨by kernel_rfl, ?_⟩) (by assumption) ?_
      rotate_left
      focus (intro w hSw; (try dsimp only at hSw); go_simp; (try with_reducible rfl))
      (try simp only [Act.put, List.getElem_toArray, List.getElem_cons_zero, List.getElem_cons_succ, List.setIfInBounds_toArray, List.set_cons_zero, List.set_cons_succ])
      refine wpAnyH_take (i := 6) (v := ?_) rfl (by kernel_rfl) (by kernel_rfl) (by kernel_rfl) (fun _ _ _ h => h) (Or.inl ⟨by kernel_rfl, ?_⟩) (by assumption) ?_
      rotate_left
      focus (intro w hSw; (try dsimp only at hSw); go_simp; (try with_reducible rfl))
      (try simp only [Act.put, List.getElem_toArray, List.getElem_cons_zero, List.getElem_cons_succ, List.setIfInBounds_toArray, List.set_cons_zero, List.set_cons_succ])
      refine wpAnyH_take (i := 7) (v := ?_) rfl (by kernel_rfl) (by kernel_rfl) (by kernel_rfl) (fun _ _ _ h => h) (Or.inl ⟨by kernel_rfl, ?_⟩) (by assumption) ?_
      rotate_left
      focus (intro w hSw; (try dsimp only at hSw); go_simp; (try with_reducible rfl))
      (try simp only [Act.put, List.getElem_toArray, List.getElem_cons_zero, List.getElem_cons_succ, List.setIfInBounds_toArray, List.set_cons_zero, List.set_cons_succ])
      refine wpAnyH_take (i := 8) (v := ?_) rfl (by kernel_rfl) (by kernel_rfl) (by kernel_rfl) (fun _ _ _ h => h) (Or.inl ⟨by kernel_rfl, ?_⟩) (by assumption) ?_
      rotate_left
      focus (intro w hSw; (try dsimp only at hSw); go_simp; (try with_reducible rfl))
      (try simp only [Act.put, List.getElem_toArray, List.getElem_cons_zero, List.getElem_cons_succ, List.setIfInBounds_toArray, List.set_cons_zero, List.set_cons_succ])
      refine wpAnyH_ready (rs := [2]) (by kernel_rfl) (by simp) ?_
      refine AllReadyH.cons rfl (fun K hK => ?_) AllReadyH.nil
      go_simp
      (go_at_call 28; refine (HI2.out _).mono ?_; rintro e w1 ⟨rfl, hk⟩; (have hkr := Root.trans (by assumption) hk))
      (try go_wp2_with fail)
      refine hK.out _ _ (by (try dsimp only); (first | assumption | exact Root.trans (by assumption) hk | exact Root.drew (Root.refl _) | (repeat (first | exact Root.refl _ | assumption | refine Root.alloc ?_ _ | refine Root.drew ?_ | refine Root.setCell ?_ (by first | (simp; done) | (simp; omega) | omega | exact Root.size (by assumption)) _ | refine Root.trans ?_ (by assumption))))) (fun hHeld => ?_)
      clear hK K
      (try simp only [Act.put, List.getElem_toArray, List.getElem_cons_zero, List.getElem_cons_succ, List.setIfInBounds_toArray, List.set_cons_zero, List.set_cons_succ])
      refine wpAnyH_take (i := 9) (v := ?_) rfl (by kernel_rfl) (by kernel_rfl) (by kernel_rfl) (fun _ _ _ h => h) (Or.inl ⟨by kernel_rfl, ?_⟩) (by assumption) ?_
      rotate_left
      focus (intro w hSw; (try dsimp only at hSw); go_simp; (try with_reducible rfl))
      (try simp only [Act.put, List.getElem_toArray, List.getElem_cons_zero, List.getElem_cons_succ, List.setIfInBounds_toArray, List.set_cons_zero, List.set_cons_succ])
      refine wpAnyH_ready (rs := [10]) (by kernel_rfl) (by simp) ?_
      refine AllReadyH.cons rfl (fun K hK => ?_) AllReadyH.nil
      go_simp
      skip
      (try go_wp2_with fail)
      refine hK.out _ _ (by (try dsimp only); (first | assumption | exact Root.trans (by assumption) hk | exact Root.drew (Root.refl _) | (repeat (first | exact Root.refl _ | assumption | refine Root.alloc ?_ _ | refine Root.drew ?_ | refine Root.setCell ?_ (by first | (simp; done) | (simp; omega) | omega | exact Root.size (by assumption)) _ | refine Root.trans ?_ (by assumption))))) (fun hHeld => ?_)
      clear hK K
      (try simp only [Act.put, List.getElem_toArray, List.getElem_cons_zero, List.getElem_cons_succ, List.setIfInBounds_toArray, List.set_cons_zero, List.set_cons_succ])
      refine wpAnyH_done (by kernel_rfl) ?_ _
      go_wp2_with fail
      go_ret
      exact ⟨by rw [← HD2.out]; rfl, hkr.kept⟩
theorem l1Num_any (n : Int) (h0 : -1000000 ≤ n) (h1 : n ≤ 1000000) (w : World) : Calls Tryd.prog 28 #[.int .i64 n] w fun e w' => e = .returned (.string (itx n)) ∧ Kept w w' := by
  by_cases h : n < 0
  · have HN := Lib.hid fun W => l1NumNat_any n.natAbs (by omega) W
    have hc : ((n.natAbs : Nat) : Int) = -n := by omega
    have HN2 : Hid (∀ W : World, Calls Tryd.prog 28 #[.int .i64 (-n)] W fun e w' => e = .returned (.string (dcx n.natAbs)) ∧ Kept W w') := Lib.hid (by rw [← hc]; exact HN.out)
    have HX := Lib.hid (itx_neg h)
    have hz := dcx_size (k := n.natAbs) (by omega)
    clear HN hc
    generalize dcx n.natAbs = d at HN2 HX hz
    go_enter Tryd.func28, Tryd.ntmps28
    go_wp2_with (go_at_call 28; (with_reducible refine (HN2.out _).mono ?_); rintro e w' ⟨rfl, hk⟩; (try have hkr := Root.trans (by assumption) hk); (first | (have hkf := From.step (by assumption) hk; obtain ⟨hc, hf⟩ := hkf.cells) | (have hkf := From.start hk; obtain ⟨hc, hf⟩ := hkf.cells)))
    go_ret
    exact ⟨by rw [HX.out]; rfl, by (repeat (first | exact Kept.refl _ | assumption | refine Kept.alloc ?_ _ | refine Kept.drew ?_ | refine Kept.drewN ?_ _ | refine Kept.setCell ?_ (by first | (simp; done) | (simp; omega) | omega | exact Kept.size (by (repeat (first | exact Kept.refl _ | assumption | refine Kept.alloc ?_ _ | refine Kept.drew ?_ | refine Kept.drewN ?_ _ | refine Kept.trans ?_ (by assumption))))) _ | refine Kept.trans ?_ (by assumption)))⟩
  · have HN := l1NumNat_any n.toNat (by omega) w
    rw [show ((n.toNat : Nat) : Int) = n by omega] at HN
    rw [itx_nat h]
    exact HN
/-- Whether a number is in range, and its text. -/
def fiOk (n : Int) : Bool := inB n (-999999) 999999
def fiT (n : Int) : ByteArray := if fiOk n = true then itx n else ByteArray.empty
def PowTab (w : World) : Prop := Lib.TabIs Tryd.prog w "internal/strconv.uint64pow10" .u64 Lib.pow10Tab
theorem PowTab.kept {w w' : World} (h : PowTab w) (k : Kept w w') : PowTab w' := Go.Joins.tab_stays (g := 3) (by kernel_rfl) h k (Nat.le_refl _)
theorem itoa_any (n : Int) (h0 : -1000000 ≤ n) (h1 : n ≤ 1000000) (w : World) (ht : PowTab w) : Calls Tryd.prog 24 #[.int .i64 n] w fun e w' => e = .returned (.string (itx n)) ∧ Kept w w' := by
  refine (Tryd.strconv_Itoa n (by omega) (by omega) w ht).mono ?_
  rintro e w' ⟨rfl, k, os, rfl⟩
  exact ⟨rfl, Lib.below_grow _ _ (Nat.le_refl _) _ _⟩
theorem fi_bd {n : Int} (h : inB n (-999999) 999999 = true) : -1000000 ≤ n ∧ n ≤ 1000000 := by
  simp [inB] at h
  omega
theorem formatInt_any (n : Int) (w : World) (ht : PowTab w) : Calls Tryd.prog 12 #[.int .i64 n] w fun e w' => e = .returned (.tuple #[.string (fiT n), .bool (fiOk n)]) ∧ Kept w w' := by
  cases h : inB n (-999999) 999999
  · have hx : fiOk n = false := h
    have hy : fiT n = ⟨#[]⟩ := by simp [fiT, hx]; rfl
    rw [hx, hy]
    have HI := Lib.hid fun W => inside_any n (-999999) 999999 W
    rw [h] at HI
    clear hx hy
    go_enter Tryd.func12, Tryd.ntmps12
    go_wp2_with (go_at_call 23; (with_reducible refine (HI.out _).mono ?_); rintro e w' ⟨rfl, rfl⟩)
    go_ret2
    exact ⟨rfl, Kept.refl _⟩
  · have hx : fiOk n = true := h
    have hy : fiT n = itx n := by simp [fiT, hx]
    rw [hx, hy]
    have HI := Lib.hid fun W => inside_any n (-999999) 999999 W
    rw [h] at HI
    have hb := fi_bd h
    clear hx hy
    go_enter Tryd.func12, Tryd.ntmps12
    go_wp2_with (first | (go_at_call 23; (with_reducible refine (HI.out _).mono ?_); rintro e w' ⟨rfl, rfl⟩) | (go_at_call 24; (with_reducible refine (itoa_any n hb.1 hb.2 _ ht).mono ?_); rintro e w' ⟨rfl, hk⟩; (try have hkr := Root.trans (by assumption) hk); (first | (have hkf := From.step (by assumption) hk; obtain ⟨hc, hf⟩ := hkf.cells) | (have hkf := From.start hk; obtain ⟨hc, hf⟩ := hkf.cells))))
    go_ret2
    exact ⟨rfl, by (repeat (first | exact Kept.refl _ | assumption | refine Kept.alloc ?_ _ | refine Kept.drew ?_ | refine Kept.drewN ?_ _ | refine Kept.setCell ?_ (by first | (simp; done) | (simp; omega) | omega | exact Kept.size (by (repeat (first | exact Kept.refl _ | assumption | refine Kept.alloc ?_ _ | refine Kept.drew ?_ | refine Kept.drewN ?_ _ | refine Kept.trans ?_ (by assumption))))) _ | refine Kept.trans ?_ (by assumption)))⟩
theorem sFormatInt_any (n : Int) (w : World) : Calls Tryd.prog 13 #[.int .i64 n] w fun e w' => e = .returned (.tuple #[.string (fiT n), .bool (fiOk n)]) ∧ Kept w w' := by
  cases h : inB n (-999999) 999999
  · have hx : fiOk n = false := h
    have hy : fiT n = ⟨#[]⟩ := by simp [fiT, hx]; rfl
    rw [hx, hy]
    have HI := Lib.hid fun W => l1In_any n (-999999) 999999 W
    rw [h] at HI
    clear hx hy
    go_enter Tryd.func13, Tryd.ntmps13
    go_wp2_with (go_at_call 27; (with_reducible refine (HI.out _).mono ?_); rintro e w' ⟨rfl, rfl⟩)
    go_ret2
    exact ⟨rfl, Kept.refl _⟩
  · have hx : fiOk n = true := h
    have hy : fiT n = itx n := by simp [fiT, hx]
    rw [hx, hy]
    have HI := Lib.hid fun W => l1In_any n (-999999) 999999 W
    rw [h] at HI
    have hb := fi_bd h
    clear hx hy
    go_enter Tryd.func13, Tryd.ntmps13
    go_wp2_with (first | (go_at_call 27; (with_reducible refine (HI.out _).mono ?_); rintro e w' ⟨rfl, rfl⟩) | (go_at_call 28; (with_reducible refine (l1Num_any n hb.1 hb.2 _).mono ?_); rintro e w' ⟨rfl, hk⟩; (try have hkr := Root.trans (by assumption) hk); (first | (have hkf := From.step (by assumption) hk; obtain ⟨hc, hf⟩ := hkf.cells) | (have hkf := From.start hk; obtain ⟨hc, hf⟩ := hkf.cells))))
    go_ret2
    exact ⟨rfl, by (repeat (first | exact Kept.refl _ | assumption | refine Kept.alloc ?_ _ | refine Kept.drew ?_ | refine Kept.drewN ?_ _ | refine Kept.setCell ?_ (by first | (simp; done) | (simp; omega) | omega | exact Kept.size (by (repeat (first | exact Kept.refl _ | assumption | refine Kept.alloc ?_ _ | refine Kept.drew ?_ | refine Kept.drewN ?_ _ | refine Kept.trans ?_ (by assumption))))) _ | refine Kept.trans ?_ (by assumption)))⟩
theorem lawFormatInt (n : Int) (w : World) (ht : PowTab w) : Calls Tryd.prog 5 #[.int .i64 n] w fun e w' => e = .returned (.bool true) ∧ Kept w w' := by
  have HS := Lib.hid (sFormatInt_any n w)
  have HI := Lib.hid fun W (h : Kept w W) => formatInt_any n W (ht.kept h)
  generalize fiT n = t at HS HI
  generalize fiOk n = b at HS HI
  go_enter Tryd.func5, Tryd.ntmps5
  go_wp2_with fail
  refine HS.out.mono ?_
  rintro e w1 ⟨rfl, k1⟩
  go_wp2_with fail
  refine (HI.out _ k1).mono ?_
  rintro e w2 ⟨rfl, k2⟩
  go_wp2_with fail
  go_ret
  exact ⟨rfl, k1.trans k2⟩
end Go.Proofs.YtlnhdjajbiahbaaDoor
