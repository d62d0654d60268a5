/-
  The reference's BoxOf, and the law.
  Conditions: none.
-/
import Derived.Test.YtnkofjfcioaaaaaBoxOf
import Derived.BigRegion
namespace Go.Proofs.Ytnkofjfcioaaaaa
open Go.ChangeShapes Go.WideShapes Go.ChangeAt Go.RowKit
set_option linter.unusedVariables false

theorem still_tail_drew {P : Program} {id : Nat} {Q : Exit → Act → World → Prop} {a : Act} {w : World} {l : List Oper} (n : Nat) (hm : P.follows .mixedOrders = true) (hB : Region.lexTailB .any l.toArray n = true)
    (h : wpStill P l.toArray w.drew (fun a' => wpList P l.toArray Q (l.drop n) a' w.drew) (l.take n) a) : (Code.region id l.toArray true).wp P Q a w := wp_region_still_tail n hm hB h
theorem flipw2 {P : Program} {f : FuncId} {args : Array Value} {w : World} {v : Value} (h : Calls P f args w fun e w' => e = .returned v ∧ w = w') : Calls P f args w fun e w' => e = .returned v ∧ w' = w := h.mono fun _ _ ⟨a, b⟩ => ⟨a, b.symm⟩
set_option maxHeartbeats 4000000 in
theorem sBoxOf_yes (v : Value) (xs : List (Int × Int)) (w : World) (hL : Lies w 2 pairC v xs) (h0 : boOk xs = true) : Calls Try.prog 28 #[v] w fun e w' => e = .returned (boV xs) ∧ Kept w w' := by
  have hmx := fun (W : World) (ts : Array TypeId) (t : TypeId) (x y : Int) => run_mx (P := Try.prog) W ts t x y
  have hmn := fun (W : World) (ts : Array TypeId) (t : TypeId) (x y : Int) => run_mn (P := Try.prog) W ts t x y
  have HL := Lib.hid hL
  have H0 := Lib.hid h0
  have hp : spotsB xs = true ∧ 0 < xs.length := by simpa [boOk] using h0
  obtain ⟨h1, h2⟩ := hp
  have hm := hL.len
  unfold maxLen at hm
  obtain ⟨A, c, rfl, hlc, hcm, hA⟩ := lies_pairs hL
  obtain ⟨b, off, rfl, hc⟩ := hA h2
  have HC := Lib.hid hc
  have hne : ((xs.length : Int) == 0) = false := beq_eq_false_iff_ne.2 (by omega)
  have q0 := (hc 0 h2).1
  have q1 := (hc 0 h2).2
  simp only [Nat.zero_mul, Nat.add_zero] at q0 q1
  clear hA h0 hc hL
  go_enter Try.func28, Try.ntmps28
  go_wp2_with (go_at_call 62; (with_reducible refine (l2Spots_any _ _ _ (by exact HL.out.kept (by (repeat (first | exact Kept.refl _ | assumption | refine Kept.alloc ?_ _ | refine Kept.drew ?_ | refine Kept.drewN ?_ _ | refine Kept.setCell ?_ (by first | (simp; done) | (simp; omega) | omega | exact Kept.size (by (repeat (first | exact Kept.refl _ | assumption | refine Kept.alloc ?_ _ | refine Kept.drew ?_ | refine Kept.drewN ?_ _ | refine Kept.trans ?_ (by assumption))))) _ | refine Kept.trans ?_ (by assumption)))))).mono ?_); rintro e w' ⟨rfl, hk⟩; (try have hkr := Root.trans (by assumption) hk); (first | (have hkf := From.step (by assumption) hk; obtain ⟨hc, hf⟩ := hkf.cells) | (have hkf := From.start hk; obtain ⟨hc, hf⟩ := hkf.cells)); have z0 : w.heap.size < w'.heap.size := hk.sz (by first | assumption | (simp; done) | (simp; omega)); have y0 : w.heap.size ≤ w'.heap.size := Nat.le_of_lt z0)
  have g0 := hk.keep ((Kept.alloc (Kept.refl w) (.cells #[.int .i64 0, .int .i64 0, .int .i64 0, .int .i64 0] 33)).keep q0)
  have g1 := hk.keep ((Kept.alloc (Kept.refl w) (.cells #[.int .i64 0, .int .i64 0, .int .i64 0, .int .i64 0] 33)).keep q1)
  have g0' : ∀ o : Obj, (w'.alloc o).cell? ⟨b, off, none⟩ = some (.int .i64 (P1 xs 0)) := fun o => (Kept.alloc (Kept.refl _) o).keep g0
  have g1' : ∀ o : Obj, (w'.alloc o).cell? ⟨b, off + 1, none⟩ = some (.int .i64 (P2 xs 0)) := fun o => (Kept.alloc (Kept.refl _) o).keep g1
  have HK := Lib.hid hk
  have HS := Lib.hid z0
  clear hc hf hkf hk y0
  go_region
  go_wp2_with fail
  go_loopw [5] (fun i wr => ∃ (k : Nat) (a b c d : Int), k ≤ xs.length ∧ i = .int .i64 k ∧ Kept (w.alloc (.cells #[.int .i64 0, .int .i64 0, .int .i64 0, .int .i64 0] 33)) wr ∧ Cell4 wr w'.heap.size a b c d ∧ BoxIs xs k a b c d) (fun i _ => xs.length - (intOf i).toNat)
  case atStart => exact ⟨1, _, _, _, _, by omega, rfl, by have hq := HK.out; (repeat (first | exact Kept.refl _ | assumption | refine Kept.alloc ?_ _ | refine Kept.drew ?_ | refine Kept.drewN ?_ _ | refine Kept.setCell ?_ (by first | (simp; done) | (simp; omega) | omega | exact Kept.size (by (repeat (first | exact Kept.refl _ | assumption | refine Kept.alloc ?_ _ | refine Kept.drew ?_ | refine Kept.drewN ?_ _ | refine Kept.trans ?_ (by assumption))))) _ | refine Kept.trans ?_ (by assumption))), (Cell4.new w' _ _ _ _ 33).kept (by (repeat (first | exact Kept.refl _ | assumption | refine Kept.alloc ?_ _ | refine Kept.drew ?_ | refine Kept.drewN ?_ _ | refine Kept.setCell ?_ (by first | (simp; done) | (simp; omega) | omega | exact Kept.size (by (repeat (first | exact Kept.refl _ | assumption | refine Kept.alloc ?_ _ | refine Kept.drew ?_ | refine Kept.drewN ?_ _ | refine Kept.trans ?_ (by assumption))))) _ | refine Kept.trans ?_ (by assumption)))), boxIs_1 xs⟩
  case round =>
    clear g0 g1 g0' g1' q0 q1
    obtain ⟨k, a, b1, c1, d1, hk, rfl, hkw, h4, hbox⟩ := hrel
    have HX := Lib.hid hbox
    obtain ⟨e0, e1, e2, e3, f0, f1, f2, f3⟩ := h4
    have hz := World.block_lt_of_cell? wr _ e0
    simp only [] at hz
    have n1 : w'.heap.size ≤ wr.heap.size := by omega
    have n2 : ¬ w'.heap.size = wr.heap.size := by omega
    have n3 : ¬ wr.heap.size = w'.heap.size := by omega
    have n4 : ¬ w.heap.size = w'.heap.size := by omega
    have n5 : ¬ w'.heap.size = w.heap.size := by omega
    have n6 : w.heap.size < wr.heap.size := by omega
    have n7 : ¬ w.heap.size = wr.heap.size := by omega
    have n8 : ¬ wr.heap.size = w.heap.size := by omega
    clear hbox
    by_cases hlt : k < xs.length
    · have g0 := hkw.keep ((Kept.alloc (Kept.refl w) (.cells #[.int .i64 0, .int .i64 0, .int .i64 0, .int .i64 0] 33)).keep (HC.out k hlt).1)
      have g1 := hkw.keep ((Kept.alloc (Kept.refl w) (.cells #[.int .i64 0, .int .i64 0, .int .i64 0, .int .i64 0] 33)).keep (HC.out k hlt).2)
      have HS2 := Lib.hid (boxIs_step HX.out)
      have k0 : (0 : Int) ≤ (k : Int) := by omega
      have k1 : (k : Int) < (xs.length : Int) := by omega
      go_wp2_with fail
      refine still_tail_drew 21 (by kernel_rfl) (by kernel_rfl) ?_
      simp only [List.take_succ_cons, List.take_zero, List.drop_succ_cons, List.drop_zero]
      have hkq : Kept (wr.alloc (.cells #[.int .i64 (P1 xs k), .int .i64 (P2 xs k)] 26)) (wr.alloc (.cells #[.int .i64 (P1 xs k), .int .i64 (P2 xs k)] 26)).drew := by (repeat (first | exact Kept.refl _ | assumption | refine Kept.alloc ?_ _ | refine Kept.drew ?_ | refine Kept.drewN ?_ _ | refine Kept.setCell ?_ (by first | (simp; done) | (simp; omega) | omega | exact Kept.size (by (repeat (first | exact Kept.refl _ | assumption | refine Kept.alloc ?_ _ | refine Kept.drew ?_ | refine Kept.drewN ?_ _ | refine Kept.trans ?_ (by assumption))))) _ | refine Kept.trans ?_ (by assumption)))
      have hsz : (wr.alloc (.cells #[.int .i64 (P1 xs k), .int .i64 (P2 xs k)] 26)).drew.heap.size = wr.heap.size + 1 := by simp
      have HKQ := Lib.hid (show Kept wr (wr.alloc (.cells #[.int .i64 (P1 xs k), .int .i64 (P2 xs k)] 26)).drew by (repeat (first | exact Kept.refl _ | assumption | refine Kept.alloc ?_ _ | refine Kept.drew ?_ | refine Kept.drewN ?_ _ | refine Kept.setCell ?_ (by first | (simp; done) | (simp; omega) | omega | exact Kept.size (by (repeat (first | exact Kept.refl _ | assumption | refine Kept.alloc ?_ _ | refine Kept.drew ?_ | refine Kept.drewN ?_ _ | refine Kept.trans ?_ (by assumption))))) _ | refine Kept.trans ?_ (by assumption))))
      have x0 := hkq.keep (show (wr.alloc (.cells #[.int .i64 (P1 xs k), .int .i64 (P2 xs k)] 26)).cell? ⟨wr.heap.size, 0, none⟩ = some (.int .i64 (P1 xs k)) by simp [go_sem])
      have x1 := hkq.keep (show (wr.alloc (.cells #[.int .i64 (P1 xs k), .int .i64 (P2 xs k)] 26)).cell? ⟨wr.heap.size, 1, none⟩ = some (.int .i64 (P2 xs k)) by simp [go_sem])
      have H4 := (Cell4.mk e0 e1 e2 e3 f0 f1 f2 f3).kept HKQ.out
      generalize (wr.alloc (.cells #[.int .i64 (P1 xs k), .int .i64 (P2 xs k)] 26)).drew = wq at *
      clear e0 e1 e2 e3 f0 f1 f2 f3 hkq
      obtain ⟨e0, e1, e2, e3, f0, f1, f2, f3⟩ := H4
      repeat still_step
      still_call (flipw2 (l1Least_any _ _ _))
      repeat still_step
      still_call (flipw2 (l1Least_any _ _ _))
      repeat still_step
      still_call (flipw2 (l1Most_any _ _ _))
      repeat still_step
      still_call (flipw2 (l1Most_any _ _ _))
      repeat still_step
      refine wpStill_nil ?_
      go_wp2_with fail
      go_roundw
      case rel => exact ⟨k + 1, _, _, _, _, by omega, by go_num, by have hq := HKQ.out; (repeat (first | exact Kept.refl _ | assumption | refine Kept.alloc ?_ _ | refine Kept.drew ?_ | refine Kept.drewN ?_ _ | refine Kept.setCell ?_ (by first | (simp; done) | (simp; omega) | omega | exact Kept.size (by (repeat (first | exact Kept.refl _ | assumption | refine Kept.alloc ?_ _ | refine Kept.drew ?_ | refine Kept.drewN ?_ _ | refine Kept.trans ?_ (by assumption))))) _ | refine Kept.trans ?_ (by assumption))), by constructor <;> simp [go_sem, *], HS2.out⟩
      case measure => simp [intOf]; omega
    · have e : k = xs.length := by omega
      have HF := Lib.hid (bo_yes H0.out (by rw [← e]; exact HX.out))
      have r0 := hkw.keep (show (w.alloc (.cells #[.int .i64 0, .int .i64 0, .int .i64 0, .int .i64 0] 33)).cell? ⟨w.heap.size, 0, none⟩ = some (.int .i64 0) by simp [go_sem])
      have r1 := hkw.keep (show (w.alloc (.cells #[.int .i64 0, .int .i64 0, .int .i64 0, .int .i64 0] 33)).cell? ⟨w.heap.size, 1, none⟩ = some (.int .i64 0) by simp [go_sem])
      have r2 := hkw.keep (show (w.alloc (.cells #[.int .i64 0, .int .i64 0, .int .i64 0, .int .i64 0] 33)).cell? ⟨w.heap.size, 2, none⟩ = some (.int .i64 0) by simp [go_sem])
      have r3 := hkw.keep (show (w.alloc (.cells #[.int .i64 0, .int .i64 0, .int .i64 0, .int .i64 0] 33)).cell? ⟨w.heap.size, 3, none⟩ = some (.int .i64 0) by simp [go_sem])
      have u0 := hkw.free (show (w.alloc (.cells #[.int .i64 0, .int .i64 0, .int .i64 0, .int .i64 0] 33)).cell? ⟨w.heap.size, 0, none⟩ = some (.int .i64 0) by simp [go_sem]) (by simp [go_sem])
      have u1 := hkw.free (show (w.alloc (.cells #[.int .i64 0, .int .i64 0, .int .i64 0, .int .i64 0] 33)).cell? ⟨w.heap.size, 1, none⟩ = some (.int .i64 0) by simp [go_sem]) (by simp [go_sem])
      have u2 := hkw.free (show (w.alloc (.cells #[.int .i64 0, .int .i64 0, .int .i64 0, .int .i64 0] 33)).cell? ⟨w.heap.size, 2, none⟩ = some (.int .i64 0) by simp [go_sem]) (by simp [go_sem])
      have u3 := hkw.free (show (w.alloc (.cells #[.int .i64 0, .int .i64 0, .int .i64 0, .int .i64 0] 33)).cell? ⟨w.heap.size, 3, none⟩ = some (.int .i64 0) by simp [go_sem]) (by simp [go_sem])
      clear e
      go_wp2_with fail
      exact bodyPost_ret (v := .tuple #[.agg #[.int .i64 a, .int .i64 b1, .int .i64 c1, .int .i64 d1], .bool true]) (by simp [results, Try.results28, go_sem, *]) rfl ⟨HF.out, by (repeat (first | exact Kept.refl _ | assumption | refine Kept.alloc ?_ _ | refine Kept.drew ?_ | refine Kept.drewN ?_ _ | refine Kept.setCell ?_ (by first | (simp; done) | (simp; omega) | omega | exact Kept.size (by (repeat (first | exact Kept.refl _ | assumption | refine Kept.alloc ?_ _ | refine Kept.drew ?_ | refine Kept.drewN ?_ _ | refine Kept.trans ?_ (by assumption))))) _ | refine Kept.trans ?_ (by assumption)))⟩
theorem boxOf_any (v : Value) (xs : List (Int × Int)) (w : World) (hL : Lies w 2 pairC v xs) : Calls Try.prog 29 #[v] w fun e w' => e = .returned (boV xs) ∧ Kept w w' := by
  cases h0 : boOk xs
  · exact boxOf_no v xs w hL h0
  · exact boxOf_yes v xs w hL h0
theorem sBoxOf_any (v : Value) (xs : List (Int × Int)) (w : World) (hL : Lies w 2 pairC v xs) : Calls Try.prog 28 #[v] w fun e w' => e = .returned (boV xs) ∧ Kept w w' := by
  cases h0 : boOk xs
  · exact sBoxOf_no v xs w hL h0
  · exact sBoxOf_yes v xs w hL h0
theorem eqBox2_any (a b c d : Int) (w : World) : Calls Try.prog 20 #[.agg #[.int .i64 a, .int .i64 b, .int .i64 c, .int .i64 d], .agg #[.int .i64 a, .int .i64 b, .int .i64 c, .int .i64 d]] w fun e w' => e = .returned (.bool true) ∧ Kept w w' := by
  go_enter Try.func20, Try.ntmps20
  go_wp2
  go_ret
  exact ⟨rfl, by (repeat (first | exact Kept.refl _ | assumption | refine Kept.alloc ?_ _ | refine Kept.drew ?_ | refine Kept.drewN ?_ _ | refine Kept.setCell ?_ (by first | (simp; done) | (simp; omega) | omega | exact Kept.size (by (repeat (first | exact Kept.refl _ | assumption | refine Kept.alloc ?_ _ | refine Kept.drew ?_ | refine Kept.drewN ?_ _ | refine Kept.trans ?_ (by assumption))))) _ | refine Kept.trans ?_ (by assumption)))⟩
set_option maxHeartbeats 1000000 in
theorem lawBoxOf (v : Value) (xs : List (Int × Int)) (w : World) (hL : Lies w 2 pairC v xs) : Calls Try.prog 8 #[v] w fun e w' => e = .returned (.bool true) ∧ Kept w w' := by
  have HL := Lib.hid hL
  have hI := fun V W hV => boxOf_any V xs W hV
  have hS := fun V W hV => sBoxOf_any V xs W hV
  obtain ⟨o0, o1, o2, o3, ok, he⟩ : ∃ o0 o1 o2 o3 ok, boV xs = .tuple #[.agg #[.int .i64 o0, .int .i64 o1, .int .i64 o2, .int .i64 o3], .bool ok] := ⟨_, _, _, _, _, rfl⟩
  rw [he] at hI hS
  have HI := Lib.hid hI
  have HS := Lib.hid hS
  clear hI hS he
  by_cases hn : xs.length ≤ 1048576
  · obtain ⟨A, c, rfl, hlc, hcm, hA⟩ := hL
    clear hA
    go_enter Try.func8, Try.ntmps8
    go_wp2_with (go_at_call 21; (with_reducible refine (szSpotS_ok _ _ _ HL.out hn).mono ?_); rintro e w' ⟨rfl, rfl⟩)
    refine (toSpotS_any _ _ _ HL.out hn).mono ?_
    rintro e W1 ⟨u1, rfl, ho1, k1⟩
    go_wp2_with fail
    refine (HS.out _ _ (pairs_own ho1)).mono ?_
    rintro e W2 ⟨rfl, k2⟩
    go_wp2_with fail
    refine (toSpotS_any _ _ _ (HL.out.kept (by (repeat (first | exact Kept.refl _ | assumption | refine Kept.alloc ?_ _ | refine Kept.drew ?_ | refine Kept.drewN ?_ _ | refine Kept.setCell ?_ (by first | (simp; done) | (simp; omega) | omega | exact Kept.size (by (repeat (first | exact Kept.refl _ | assumption | refine Kept.alloc ?_ _ | refine Kept.drew ?_ | refine Kept.drewN ?_ _ | refine Kept.trans ?_ (by assumption))))) _ | refine Kept.trans ?_ (by assumption))))) hn).mono ?_
    rintro e W3 ⟨ux, rfl, hox, k3⟩
    have c0 := k3.keep (show (W2.alloc (.cells #[.int .i64 o0, .int .i64 o1, .int .i64 o2, .int .i64 o3] 33)).cell? ⟨W2.heap.size, 0, none⟩ = some (.int .i64 o0) by simp [go_sem])
    have c1 := k3.keep (show (W2.alloc (.cells #[.int .i64 o0, .int .i64 o1, .int .i64 o2, .int .i64 o3] 33)).cell? ⟨W2.heap.size, 1, none⟩ = some (.int .i64 o1) by simp [go_sem])
    have c2 := k3.keep (show (W2.alloc (.cells #[.int .i64 o0, .int .i64 o1, .int .i64 o2, .int .i64 o3] 33)).cell? ⟨W2.heap.size, 2, none⟩ = some (.int .i64 o2) by simp [go_sem])
    have c3 := k3.keep (show (W2.alloc (.cells #[.int .i64 o0, .int .i64 o1, .int .i64 o2, .int .i64 o3] 33)).cell? ⟨W2.heap.size, 3, none⟩ = some (.int .i64 o3) by simp [go_sem])
    go_wp2_with fail
    refine (HI.out _ _ (pairs_own hox)).mono ?_
    rintro e W4 ⟨rfl, k4⟩
    have d0 := k4.keep c0
    have d1 := k4.keep c1
    have d2 := k4.keep c2
    have d3 := k4.keep c3
    have hz := World.block_lt_of_cell? W4 _ d0
    simp only [] at hz
    have hz1 : W2.heap.size ≤ W4.heap.size := by omega
    have hz2 : ¬ W2.heap.size = W4.heap.size := by omega
    have hz3 : ¬ W4.heap.size = W2.heap.size := by omega
    clear c0 c1 c2 c3
    have hlx := pairs_own hox
    clear hox ho1
    go_wp2_with (first | (go_at_call 20; (with_reducible refine (eqBox2_any _ _ _ _ _).mono ?_); rintro e w' ⟨rfl, hk⟩; (try have hkr := Root.trans (by assumption) hk); (first | (have hkf := From.step (by assumption) hk; obtain ⟨hc, hf⟩ := hkf.cells) | (have hkf := From.start hk; obtain ⟨hc, hf⟩ := hkf.cells))) | (go_at_call 23; refine (toSpotS_any _ _ _ (by exact HL.out.kept (by (repeat (first | exact Kept.refl _ | assumption | refine Kept.alloc ?_ _ | refine Kept.drew ?_ | refine Kept.drewN ?_ _ | refine Kept.setCell ?_ (by first | (simp; done) | (simp; omega) | omega | exact Kept.size (by (repeat (first | exact Kept.refl _ | assumption | refine Kept.alloc ?_ _ | refine Kept.drew ?_ | refine Kept.drewN ?_ _ | refine Kept.trans ?_ (by assumption))))) _ | refine Kept.trans ?_ (by assumption))))) hn).mono ?_; rintro e w1 ⟨u1, rfl, hu1, hk⟩; (try have hkr := Root.trans (by assumption) hk); (first | have hl1 := pairs_own hu1 | have hl1 := crafts_own hu1); clear hu1) | (go_at_call 25; (with_reducible refine (eqSpotS_any _ _ _ _ (by first | assumption | exact Lies.kept (by assumption) (by (repeat (first | exact Kept.refl _ | assumption | refine Kept.alloc ?_ _ | refine Kept.drew ?_ | refine Kept.drewN ?_ _ | refine Kept.setCell ?_ (by first | (simp; done) | (simp; omega) | omega | exact Kept.size (by (repeat (first | exact Kept.refl _ | assumption | refine Kept.alloc ?_ _ | refine Kept.drew ?_ | refine Kept.drewN ?_ _ | refine Kept.trans ?_ (by assumption))))) _ | refine Kept.trans ?_ (by assumption))))) (by first | assumption | exact Lies.kept (by assumption) (by (repeat (first | exact Kept.refl _ | assumption | refine Kept.alloc ?_ _ | refine Kept.drew ?_ | refine Kept.drewN ?_ _ | refine Kept.setCell ?_ (by first | (simp; done) | (simp; omega) | omega | exact Kept.size (by (repeat (first | exact Kept.refl _ | assumption | refine Kept.alloc ?_ _ | refine Kept.drew ?_ | refine Kept.drewN ?_ _ | refine Kept.trans ?_ (by assumption))))) _ | refine Kept.trans ?_ (by assumption)))))).mono ?_); rintro e w' ⟨rfl, hk⟩; (try have hkr := Root.trans (by assumption) hk); (first | (have hkf := From.step (by assumption) hk; obtain ⟨hc, hf⟩ := hkf.cells) | (have hkf := From.start hk; obtain ⟨hc, hf⟩ := hkf.cells))))
    go_ret
    exact ⟨rfl, by (repeat (first | exact Kept.refl _ | assumption | refine Kept.alloc ?_ _ | refine Kept.drew ?_ | refine Kept.drewN ?_ _ | refine Kept.setCell ?_ (by first | (simp; done) | (simp; omega) | omega | exact Kept.size (by (repeat (first | exact Kept.refl _ | assumption | refine Kept.alloc ?_ _ | refine Kept.drew ?_ | refine Kept.drewN ?_ _ | refine Kept.trans ?_ (by assumption))))) _ | refine Kept.trans ?_ (by assumption)))⟩
  · obtain ⟨A, c, rfl, hlc, hcm, hA⟩ := hL
    clear hA
    go_enter Try.func8, Try.ntmps8
    go_wp2_with (go_at_call 21; (with_reducible refine (szSpotS_no _ _ _ HL.out (by omega)).mono ?_); rintro e w' ⟨rfl, rfl⟩)
    go_ret
    exact ⟨rfl, by (repeat (first | exact Kept.refl _ | assumption | refine Kept.alloc ?_ _ | refine Kept.drew ?_ | refine Kept.drewN ?_ _ | refine Kept.setCell ?_ (by first | (simp; done) | (simp; omega) | omega | exact Kept.size (by (repeat (first | exact Kept.refl _ | assumption | refine Kept.alloc ?_ _ | refine Kept.drew ?_ | refine Kept.drewN ?_ _ | refine Kept.trans ?_ (by assumption))))) _ | refine Kept.trans ?_ (by assumption)))⟩
end Go.Proofs.Ytnkofjfcioaaaaa
