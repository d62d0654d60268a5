/-
  Contracts of the laws' own functions over lists of structs of two numbers: copied, compared, marked.
  Conditions: none.
-/
import Derived.Test.YtopdnhlolfehcaaMem
namespace Go.Proofs.Ytopdnhlolfehcaa
open Go.ChangeShapes Go.WideShapes Go.ChangeAt Go.RowKit
set_option linter.unusedVariables false

/-- The first k pairs lie in the cells. -/
def PairsTo (xs : List (Int × Int)) (ys : List Value) (k : Nat) : Prop := ∀ i, i < k → ys[i * 2]? = some (.int .i64 (P1 xs i)) ∧ ys[i * 2 + 1]? = some (.int .i64 (P2 xs i))
theorem pairs_set {xs : List (Int × Int)} {ys : List Value} {k : Nat} (hk : k < xs.length) (hl : ys.length = xs.length * 2) (h : PairsTo xs ys k) :
    PairsTo xs ((ys.set (k * 2) (.int .i64 (P1 xs k))).set (k * 2 + 1) (.int .i64 (P2 xs k))) (k + 1) := by
  intro i hik
  by_cases e : i = k
  · subst e
    refine ⟨?_, ?_⟩
    · rw [List.getElem?_set_ne (by omega), List.getElem?_set_self (by omega)]
    · rw [List.getElem?_set_self (by simp; omega)]
  · obtain ⟨h1, h2⟩ := h i (by omega)
    refine ⟨?_, ?_⟩
    · rw [List.getElem?_set_ne (by omega), List.getElem?_set_ne (by omega), h1]
    · rw [List.getElem?_set_ne (by omega), List.getElem?_set_ne (by omega), h2]
theorem pairs_all {xs : List (Int × Int)} {ys : List Value} (hl : ys.length = xs.length * 2) (h : PairsTo xs ys xs.length) : ys = xs.flatMap pairC := by
  induction xs generalizing ys with
  | nil => simpa using hl
  | cons x xs ih =>
    obtain ⟨h0, h1⟩ := h 0 (by simp)
    match ys, hl with
    | a :: b :: ys, hl =>
      simp [P1, P2] at h0 h1
      subst h0 h1
      rw [List.flatMap_cons]
      have := ih (ys := ys) (by simp at hl ⊢; omega) (fun i hi => by
        have := h (i + 1) (by simp; omega)
        simpa [show (i + 1) * 2 = i * 2 + 1 + 1 by omega, P1, P2] using this)
      rw [← this]
      simp [pairC]

theorem toReading_any2 (x y : Int) (w : World) : Calls Try.prog 52 #[.agg #[.int .i64 x, .int .i64 y]] w fun e w' => e = .returned (.agg #[.int .i64 x, .int .i64 y]) ∧ Kept w w' := by
  go_enter Try.func52, Try.ntmps52
  go_wp2
  exact bodyPost_ret (v := .agg #[.int .i64 x, .int .i64 y]) (by simp [results, Try.results52, go_sem]) rfl ⟨rfl, by (repeat (first | exact Kept.refl _ | assumption | refine Kept.alloc ?_ _ | refine Kept.drew ?_ | refine Kept.drewN ?_ _ | refine Kept.setCell ?_ (by first | (simp; done) | (simp; omega) | omega | exact Kept.size (by (repeat (first | exact Kept.refl _ | assumption | refine Kept.alloc ?_ _ | refine Kept.drew ?_ | refine Kept.drewN ?_ _ | refine Kept.trans ?_ (by assumption))))) _ | refine Kept.trans ?_ (by assumption)))⟩
theorem infoReading : (Try.prog.info? 28).map (fun i => (i.zero, i.size, i.bytes)) = some (some (.agg #[.int .i64 0, .int .i64 0]), 2, 16) := by kernel_rfl
theorem toReadingS_any (v : Value) (xs : List (Int × Int)) (w : World) (hL0 : Lies w 2 pairC v xs) (hn : xs.length ≤ 1048576) : Calls Try.prog 81 #[v] w fun e w' => ∃ u, e = .returned u ∧ w'.ownsRow w.heap.size 28 2 u xs.length (xs.flatMap pairC) ∧ Kept w w' := by
  obtain ⟨A, c, rfl, hlc, hcm, hA⟩ := lies_pairs hL0
  obtain ⟨i0, hi0, hz0, hz1, hz2⟩ := info_parts infoReading
  have hmk := fun W => run_make_rowN (P := Try.prog) 24 28 i0 _ Try.underlying24 hi0 hz0 .i64 .i64 xs.length xs.length (Nat.le_refl _) (by rw [hz2]; omega) (by omega) W
  rw [hz1] at hmk
  go_enter Try.func81, Try.ntmps81
  go_wp2
  go_loopw [4] (fun i wr => ∃ k : Nat, k ≤ xs.length ∧ i = .int .i64 k ∧ Kept w wr ∧ ∃ ys, wr.ownsRow w.heap.size 28 2 (.slice (some ⟨w.heap.size, 0, none⟩) xs.length xs.length) xs.length ys ∧ PairsTo xs ys k) (fun i _ => xs.length - (intOf i).toNat)
  case atStart => exact ⟨0, Nat.zero_le _, rfl, (Kept.refl _).alloc _, _, World.ownsRow_lit w _ _ (Nat.le_refl _) (by omega) (by simp [size_madeCells]), fun i h => absurd h (by omega)⟩
  case round =>
    clear hmk
    obtain ⟨k, hk, rfl, hkw, ys, hown, hys⟩ := hrel
    have HY := Lib.hid hys
    have HO := Lib.hid hown
    have HK := Lib.hid hkw
    clear hys hown hkw
    by_cases hlt : k < xs.length
    · obtain ⟨b, off, rfl, hc⟩ := hA (by omega)
      have c0 := HK.out.keep (hc k hlt).1
      have c1 := HK.out.keep (hc k hlt).2
      clear hc
      go_wp2_with (go_at_call 52; refine (toReading_any2 _ _ _).mono ?_; rintro e w1 ⟨rfl, hk1⟩; have HO1 := Lib.hid (own_kept HO.out hk1); obtain ⟨u0, -, d0, f0⟩ := own_cell HO1.out (j := k * 2) (by omega); obtain ⟨u1, -, d1, f1⟩ := own_cell HO1.out (j := k * 2 + 1) (by omega))
      go_roundw
      case rel => exact ⟨k + 1, by omega, by go_num, ((HK.out.trans hk1).setCell (by simp) _).setCell (by simp) _, _, ((HO1.out.stored (k * 2) _).1.stored (k * 2 + 1) _).1, pairs_set hlt HO.out.1 HY.out⟩
      case measure => simp [intOf]; omega
    · have e : k = xs.length := by omega
      have HF := Lib.hid (pairs_all HO.out.1 (by rw [← e]; exact HY.out))
      clear e
      go_wp2
      go_ret
      exact ⟨_, rfl, by rw [← HF.out]; exact HO.out, HK.out⟩
theorem szReadingS_ok (v : Value) (xs : List (Int × Int)) (w : World) (hL : Lies w 2 pairC v xs) (hn : xs.length ≤ 1048576) : Calls Try.prog 80 #[v, .int .i64 1048576] w fun e w' => e = .returned (.int .i64 (1048576 - xs.length)) ∧ w = w' := by
  obtain ⟨A, c, rfl, hlc, hcm, hA⟩ := lies_pairs hL
  clear hA hL
  go_enter Try.func80, Try.ntmps80
  go_wp2
  go_ret
  exact ⟨rfl, rfl⟩
theorem szReadingS_no (v : Value) (xs : List (Int × Int)) (w : World) (hL : Lies w 2 pairC v xs) (hn : 1048576 < xs.length) : Calls Try.prog 80 #[v, .int .i64 1048576] w fun e w' => e = .returned (.int .i64 (-1)) ∧ w = w' := by
  have hm := hL.len
  unfold maxLen at hm
  obtain ⟨A, c, rfl, hlc, hcm, hA⟩ := lies_pairs hL
  clear hA hL
  go_enter Try.func80, Try.ntmps80
  go_wp2
  go_ret
  exact ⟨rfl, rfl⟩
theorem eqReading_any (x y : Int) (w : World) : Calls Try.prog 84 #[.agg #[.int .i64 x, .int .i64 y], .agg #[.int .i64 x, .int .i64 y]] w fun e w' => e = .returned (.bool true) ∧ Kept w w' := by
  go_enter Try.func84, Try.ntmps84
  go_wp2
  go_ret
  exact ⟨rfl, by (repeat (first | exact Kept.refl _ | assumption | refine Kept.alloc ?_ _ | refine Kept.drew ?_ | refine Kept.drewN ?_ _ | refine Kept.setCell ?_ (by first | (simp; done) | (simp; omega) | omega | exact Kept.size (by (repeat (first | exact Kept.refl _ | assumption | refine Kept.alloc ?_ _ | refine Kept.drew ?_ | refine Kept.drewN ?_ _ | refine Kept.trans ?_ (by assumption))))) _ | refine Kept.trans ?_ (by assumption)))⟩
theorem eqReadingS_any (u v : Value) (xs : List (Int × Int)) (w : World) (hU : Lies w 2 pairC u xs) (hV : Lies w 2 pairC v xs) : Calls Try.prog 39 #[u, v] w fun e w' => e = .returned (.bool true) ∧ Kept w w' := by
  have hm := hU.len
  unfold maxLen at hm
  obtain ⟨A, c, rfl, hlc, hcm, hA⟩ := lies_pairs hU
  obtain ⟨A', c', rfl, hlc', hcm', hA'⟩ := lies_pairs hV
  clear hU hV
  go_enter Try.func39, Try.ntmps39
  go_wp2
  go_loopw [5] (fun i wr => ∃ k : Nat, k ≤ xs.length ∧ i = .int .i64 k ∧ Kept w wr) (fun i _ => xs.length - (intOf i).toNat)
  case atStart => exact ⟨0, Nat.zero_le _, rfl, Kept.refl _⟩
  case round =>
    obtain ⟨k, hk, rfl, hkw⟩ := hrel
    by_cases hlt : k < xs.length
    · obtain ⟨b, off, rfl, hc⟩ := hA (by omega)
      obtain ⟨b', off', rfl, hc'⟩ := hA' (by omega)
      have c0 := hkw.keep (hc k hlt).1
      have c1 := hkw.keep (hc k hlt).2
      have d0 := hkw.keep (hc' k hlt).1
      have d1 := hkw.keep (hc' k hlt).2
      clear hc hc' hA hA'
      go_wp2_with fail
      have kf1_0 : ∀ w' : World, Root (wr) w' → w'.cell? ⟨b, off + k * 2, none⟩ = some (.int .i64 (P1 xs k)) := fun w' h => h.keep (by first | assumption | exact (Kept.alloc (Kept.refl _) _).keep (by assumption) | (simp [go_sem]; done) | (simp [go_sem, *]; done))
      have kf1_1 : ∀ w' : World, Root (wr) w' → w'.cell? ⟨b, off + k * 2 + 1, none⟩ = some (.int .i64 (P2 xs k)) := fun w' h => h.keep (by first | assumption | exact (Kept.alloc (Kept.refl _) _).keep (by assumption) | (simp [go_sem]; done) | (simp [go_sem, *]; done))
      have kf1_2 : ∀ w' : World, Root (wr) w' → w'.cell? ⟨b', off' + k * 2, none⟩ = some (.int .i64 (P1 xs k)) := fun w' h => h.keep (by first | assumption | exact (Kept.alloc (Kept.refl _) _).keep (by assumption) | (simp [go_sem]; done) | (simp [go_sem, *]; done))
      have kf1_3 : ∀ w' : World, Root (wr) w' → w'.cell? ⟨b', off' + k * 2 + 1, none⟩ = some (.int .i64 (P2 xs k)) := fun w' h => h.keep (by first | assumption | exact (Kept.alloc (Kept.refl _) _).keep (by assumption) | (simp [go_sem]; done) | (simp [go_sem, *]; done))
      go_region_held3 (fun w' => Root (wr) w')
        (first | assumption | exact Root.trans (by assumption) hk | exact Root.drew (Root.refl _) | (repeat (first | exact Root.refl _ | assumption | refine Root.alloc ?_ _ | refine Root.drew ?_ | refine Root.setCell ?_ (by first | (simp; done) | (simp; omega) | omega | exact Root.size (by assumption)) _ | refine Root.trans ?_ (by assumption))))
        (first | (go_at_call 84; refine (eqReading_any _ _ _).mono ?_; rintro e w1 ⟨rfl, hk⟩; (have hkr := Root.trans (by assumption) hk); (first | (have hkf := From.step (by assumption) hk; obtain ⟨hc, hf⟩ := hkf.cells) | (have hkf := From.start hk; obtain ⟨hc, hf⟩ := hkf.cells))))
      go_wp2
      go_roundw
      case rel => exact ⟨k + 1, by omega, by go_num, by (repeat (first | exact Kept.refl _ | assumption | refine Kept.alloc ?_ _ | refine Kept.drew ?_ | refine Kept.drewN ?_ _ | refine Kept.setCell ?_ (by first | (simp; done) | (simp; omega) | omega | exact Kept.size (by (repeat (first | exact Kept.refl _ | assumption | refine Kept.alloc ?_ _ | refine Kept.drew ?_ | refine Kept.drewN ?_ _ | refine Kept.trans ?_ (by assumption))))) _ | refine Kept.trans ?_ (by assumption)))⟩
      case measure => simp [intOf]; omega
    · go_wp2
      go_ret
      exact ⟨rfl, by (repeat (first | exact Kept.refl _ | assumption | refine Kept.alloc ?_ _ | refine Kept.drew ?_ | refine Kept.drewN ?_ _ | refine Kept.setCell ?_ (by first | (simp; done) | (simp; omega) | omega | exact Kept.size (by (repeat (first | exact Kept.refl _ | assumption | refine Kept.alloc ?_ _ | refine Kept.drew ?_ | refine Kept.drewN ?_ _ | refine Kept.trans ?_ (by assumption))))) _ | refine Kept.trans ?_ (by assumption)))⟩
end Go.Proofs.Ytopdnhlolfehcaa
