/-
  Contracts of ShallowestCraft, the program's and the reference's, and the law.
  Conditions: none.
-/
import Derived.Test.YtaaloblkilidoaaAreCraft
namespace Go.Proofs.Ytaaloblkilidoaa
open Go.ChangeShapes Go.WideShapes Go.ChangeAt Go.RowKit
set_option linter.unusedVariables false
set_option linter.unusedSimpArgs false

/-- A craft in block g, which may be written. -/
structure Cell7 (w : World) (g : Nat) (c : Cz) : Prop where
  c0 : w.cell? ⟨g, 0, none⟩ = some (.int .i64 c.id)
  c1 : w.cell? ⟨g, 1, none⟩ = some (.string c.nm)
  c2 : w.cell? ⟨g, 2, none⟩ = some (.int .i64 c.dr)
  c3 : w.cell? ⟨g, 3, none⟩ = some (.int .i64 c.ah)
  c4 : w.cell? ⟨g, 4, none⟩ = some (.int .i64 c.be)
  c5 : w.cell? ⟨g, 5, none⟩ = some (.int .i64 c.sp)
  c6 : w.cell? ⟨g, 6, none⟩ = some (.int .i64 c.fu)
  f0 : w.frozen? ⟨g, 0, none⟩ = false
  f1 : w.frozen? ⟨g, 1, none⟩ = false
  f2 : w.frozen? ⟨g, 2, none⟩ = false
  f3 : w.frozen? ⟨g, 3, none⟩ = false
  f4 : w.frozen? ⟨g, 4, none⟩ = false
  f5 : w.frozen? ⟨g, 5, none⟩ = false
  f6 : w.frozen? ⟨g, 6, none⟩ = false
theorem Cell7.kept {w w' : World} {g : Nat} {c : Cz} (h : Cell7 w g c) (k : Kept w w') : Cell7 w' g c :=
  ⟨k.keep h.c0, k.keep h.c1, k.keep h.c2, k.keep h.c3, k.keep h.c4, k.keep h.c5, k.keep h.c6, k.free h.c0 h.f0, k.free h.c1 h.f1, k.free h.c2 h.f2, k.free h.c3 h.f3, k.free h.c4 h.f4, k.free h.c5 h.f5, k.free h.c6 h.f6⟩
theorem Cell7.new (w : World) (c : Cz) : Cell7 (w.alloc (.cells #[.int .i64 c.id, .string c.nm, .int .i64 c.dr, .int .i64 c.ah, .int .i64 c.be, .int .i64 c.sp, .int .i64 c.fu] 26)) w.heap.size c := by
  constructor <;> simp [go_sem]
set_option maxHeartbeats 2000000 in
theorem Cell7.stored {w : World} {g : Nat} {c : Cz} (h : Cell7 w g c) (d : Cz) : Cell7 (((((((w.setCell ⟨g, 0, none⟩ (.int .i64 d.id)).setCell ⟨g, 1, none⟩ (.string d.nm)).setCell ⟨g, 2, none⟩ (.int .i64 d.dr)).setCell ⟨g, 3, none⟩ (.int .i64 d.ah)).setCell ⟨g, 4, none⟩ (.int .i64 d.be)).setCell ⟨g, 5, none⟩ (.int .i64 d.sp)).setCell ⟨g, 6, none⟩ (.int .i64 d.fu)) g d := by
  obtain ⟨c0, c1, c2, c3, c4, c5, c6, f0, f1, f2, f3, f4, f5, f6⟩ := h
  constructor <;> simp [go_sem, *]
theorem Kept.stored7 {a w : World} {g : Nat} (h : Kept a w) (hg : a.heap.size ≤ g) (d : Cz) : Kept a (((((((w.setCell ⟨g, 0, none⟩ (.int .i64 d.id)).setCell ⟨g, 1, none⟩ (.string d.nm)).setCell ⟨g, 2, none⟩ (.int .i64 d.dr)).setCell ⟨g, 3, none⟩ (.int .i64 d.ah)).setCell ⟨g, 4, none⟩ (.int .i64 d.be)).setCell ⟨g, 5, none⟩ (.int .i64 d.sp)).setCell ⟨g, 6, none⟩ (.int .i64 d.fu)) := (((((((h.setCell hg _).setCell hg _).setCell hg _).setCell hg _).setCell hg _).setCell hg _).setCell hg _)
theorem crafts_at {cs : List Cz} (h : craftsB cs = true) {k : Nat} (hk : k < cs.length) : crB (CZ cs k) = true := by
  simp only [craftsB, Bool.and_eq_true] at h
  have := allB_at h.1 hk
  simp only [craftAt, Bool.and_eq_true] at this
  exact this.1.1
theorem crafts_len {cs : List Cz} (h : craftsB cs = true) : cs.length ≤ 6 := by
  simp only [craftsB, Bool.and_eq_true, decide_eq_true_eq] at h
  omega
def shTo (cs : List Cz) : Nat → Nat
  | 0 => 0
  | k + 1 => if (CZ cs k).dr < (CZ cs (shTo cs k)).dr then k else shTo cs k
theorem shTo_1 (cs : List Cz) : shTo cs 1 = 0 := by simp [shTo]
def ShIs (cs : List Cz) (k m : Nat) : Prop := m = shTo cs k
theorem sh_yes {cs : List Cz} {k m : Nat} (h : ShIs cs k m) (hd : (CZ cs k).dr < (CZ cs m).dr) : ShIs cs (k + 1) k := by
  unfold ShIs at *
  subst h
  simp [shTo, hd]
theorem sh_no {cs : List Cz} {k m : Nat} (h : ShIs cs k m) (hd : ¬ (CZ cs k).dr < (CZ cs m).dr) : ShIs cs (k + 1) m := by
  unfold ShIs at *
  subst h
  simp [shTo, hd]
def shOk (cs : List Cz) : Bool := craftsB cs && decide (0 < cs.length)
def shV (cs : List Cz) : Int := if shOk cs = true then (CZ cs (shTo cs cs.length)).id else 0
theorem shv_no {cs : List Cz} (h : shOk cs = false) : shV cs = 0 := by simp [shV, h]
theorem shv_yes {cs : List Cz} {m : Nat} (h : shOk cs = true) (hm : ShIs cs cs.length m) : shV cs = (CZ cs m).id := by
  unfold ShIs at hm
  simp [shV, h, hm]
set_option maxHeartbeats 2000000 in
theorem shallowest_any (v : Value) (cs : List Cz) (w : World) (hL : Lies w 7 craftC v cs) (hz : Sized cs) : Calls Try.prog 26 #[v] w fun e w' => e = .returned (.tuple #[.int .i64 (shV cs), .bool (shOk cs)]) ∧ Kept w w' := by
  have HL := Lib.hid hL
  have HZ := Lib.hid hz
  have hm := hL.len
  unfold maxLen at hm
  obtain ⟨A, c, rfl, hlc, hcm, hA⟩ := lies_crafts hL
  clear hL hz
  cases h1 : craftsB cs
  · have H0 := Lib.hid (show shOk cs = false by simp [shOk, h1])
    have HN := Lib.hid (shv_no H0.out)
    clear hA
    go_enter Try.func26, Try.ntmps26
    go_wp2_with (go_at_call 23; (with_reducible refine (areCraft_any _ _ _ (by exact HL.out.kept (by (repeat (first | exact Kept.refl _ | assumption | refine Kept.alloc ?_ _ | refine Kept.drew ?_ | refine Kept.drewN ?_ _ | refine Kept.setCell ?_ (by first | (simp; done) | (simp; omega) | omega | exact Kept.size (by (repeat (first | exact Kept.refl _ | assumption | refine Kept.alloc ?_ _ | refine Kept.drew ?_ | refine Kept.drewN ?_ _ | refine Kept.trans ?_ (by assumption))))) _ | refine Kept.trans ?_ (by assumption))))) HZ.out).mono ?_); rintro e w' ⟨rfl, hk⟩; (try have hkr := Root.trans (by assumption) hk); (first | (have hkf := From.step (by assumption) hk; obtain ⟨hc, hf⟩ := hkf.cells) | (have hkf := From.start hk; obtain ⟨hc, hf⟩ := hkf.cells)))
    go_ret2
    exact ⟨ret_ib HN.out H0.out, by (repeat (first | exact Kept.refl _ | assumption | refine Kept.alloc ?_ _ | refine Kept.drew ?_ | refine Kept.drewN ?_ _ | refine Kept.setCell ?_ (by first | (simp; done) | (simp; omega) | omega | exact Kept.size (by (repeat (first | exact Kept.refl _ | assumption | refine Kept.alloc ?_ _ | refine Kept.drew ?_ | refine Kept.drewN ?_ _ | refine Kept.trans ?_ (by assumption))))) _ | refine Kept.trans ?_ (by assumption)))⟩
  by_cases h2 : 0 < cs.length
  · have H0 := Lib.hid (show shOk cs = true by simp [shOk, h1, h2])
    have hne : ((cs.length : Int) == 0) = false := beq_eq_false_iff_ne.2 (by omega)
    obtain ⟨b, off, rfl, hc⟩ := hA h2
    have HC := Lib.hid hc
    obtain ⟨q0, q1, q2, q3, q4, q5, q6⟩ := hc 0 h2
    simp only [Nat.zero_mul, Nat.add_zero] at q0 q1 q2 q3 q4 q5 q6
    clear hA hc
    go_enter Try.func26, Try.ntmps26
    go_wp2_with fail
    refine (areCraft_any _ _ _ HL.out HZ.out).mono ?_
    rintro e w' ⟨rfl, hk⟩
    have hk0 := hk
    have q0 := hk.keep q0
    have q1 := hk.keep q1
    have q2 := hk.keep q2
    have q3 := hk.keep q3
    have q4 := hk.keep q4
    have q5 := hk.keep q5
    have q6 := hk.keep q6
    have HK := Lib.hid hk
    clear hk
    go_wp2_with fail
    have HK0 := Lib.hid hk0.size
    clear hk0
    go_loopw [20] (fun i wr => ∃ k m : Nat, k ≤ cs.length ∧ m < cs.length ∧ i = .int .i64 k ∧ Kept w wr ∧ Cell7 wr w'.heap.size (CZ cs m) ∧ ShIs cs k m) (fun i _ => cs.length - (intOf i).toNat)
    case atStart => exact ⟨0, 0, by omega, h2, rfl, by have hq := HK.out; (repeat (first | exact Kept.refl _ | assumption | refine Kept.alloc ?_ _ | refine Kept.drew ?_ | refine Kept.drewN ?_ _ | refine Kept.setCell ?_ (by first | (simp; done) | (simp; omega) | omega | exact Kept.size (by (repeat (first | exact Kept.refl _ | assumption | refine Kept.alloc ?_ _ | refine Kept.drew ?_ | refine Kept.drewN ?_ _ | refine Kept.trans ?_ (by assumption))))) _ | refine Kept.trans ?_ (by assumption))), Cell7.new w' (CZ cs 0), rfl⟩
    case round =>
      clear q0 q1 q2 q3 q4 q5 q6
      obtain ⟨k, m, hk, hm1, rfl, hkw, h7, hsh⟩ := hrel
      have HS := Lib.hid hsh
      have H7 := Lib.hid h7
      obtain ⟨e0, e1, e2, e3, e4, e5, e6, f0, f1, f2, f3, f4, f5, f6⟩ := h7
      have n0 := World.block_lt_of_cell? wr _ e0
      simp only [] at n0
      have n1 : w'.heap.size ≤ wr.heap.size := by omega
      have n2 : ¬ w'.heap.size = wr.heap.size := by omega
      have n3 : ¬ wr.heap.size = w'.heap.size := by omega
      have n4 : w.heap.size ≤ w'.heap.size := HK0.out
      clear hsh
      by_cases hlt : k < cs.length
      · obtain ⟨c0, c1, c2, c3, c4, c5, c6⟩ := (HC.out k hlt).kept hkw
        by_cases hd : (CZ cs k).dr < (CZ cs m).dr
        · have HS2 := Lib.hid (sh_yes HS.out hd)
          go_wp2_with fail
          go_roundw
          case rel => exact ⟨k + 1, k, by omega, hlt, by go_num, (Kept.stored7 hkw n4 (CZ cs k)).alloc _, (H7.out.stored (CZ cs k)).kept (Kept.alloc (Kept.refl _) _), HS2.out⟩
          case measure => simp [intOf]; omega
        · have HS2 := Lib.hid (sh_no HS.out hd)
          have hd' : (CZ cs m).dr ≤ (CZ cs k).dr := by omega
          go_wp2_with fail
          go_roundw
          case rel => exact ⟨k + 1, m, by omega, hm1, by go_num, by (repeat (first | exact Kept.refl _ | assumption | refine Kept.alloc ?_ _ | refine Kept.drew ?_ | refine Kept.drewN ?_ _ | refine Kept.setCell ?_ (by first | (simp; done) | (simp; omega) | omega | exact Kept.size (by (repeat (first | exact Kept.refl _ | assumption | refine Kept.alloc ?_ _ | refine Kept.drew ?_ | refine Kept.drewN ?_ _ | refine Kept.trans ?_ (by assumption))))) _ | refine Kept.trans ?_ (by assumption))), H7.out.kept (by (repeat (first | exact Kept.refl _ | assumption | refine Kept.alloc ?_ _ | refine Kept.drew ?_ | refine Kept.drewN ?_ _ | refine Kept.setCell ?_ (by first | (simp; done) | (simp; omega) | omega | exact Kept.size (by (repeat (first | exact Kept.refl _ | assumption | refine Kept.alloc ?_ _ | refine Kept.drew ?_ | refine Kept.drewN ?_ _ | refine Kept.trans ?_ (by assumption))))) _ | refine Kept.trans ?_ (by assumption)))), HS2.out⟩
          case measure => simp [intOf]; omega
      · have e : k = cs.length := by omega
        have HF := Lib.hid (shv_yes H0.out (by rw [← e]; exact HS.out))
        clear e
        go_wp2_with fail
        go_ret2
        exact ⟨ret_ib HF.out H0.out, by (repeat (first | exact Kept.refl _ | assumption | refine Kept.alloc ?_ _ | refine Kept.drew ?_ | refine Kept.drewN ?_ _ | refine Kept.setCell ?_ (by first | (simp; done) | (simp; omega) | omega | exact Kept.size (by (repeat (first | exact Kept.refl _ | assumption | refine Kept.alloc ?_ _ | refine Kept.drew ?_ | refine Kept.drewN ?_ _ | refine Kept.trans ?_ (by assumption))))) _ | refine Kept.trans ?_ (by assumption)))⟩
  · have H0 := Lib.hid (show shOk cs = false by simp [shOk, h2])
    have HN := Lib.hid (shv_no H0.out)
    have hne : ((cs.length : Int) == 0) = true := beq_iff_eq.2 (by omega)
    clear hA
    go_enter Try.func26, Try.ntmps26
    go_wp2_with (go_at_call 23; (with_reducible refine (areCraft_any _ _ _ (by exact HL.out.kept (by (repeat (first | exact Kept.refl _ | assumption | refine Kept.alloc ?_ _ | refine Kept.drew ?_ | refine Kept.drewN ?_ _ | refine Kept.setCell ?_ (by first | (simp; done) | (simp; omega) | omega | exact Kept.size (by (repeat (first | exact Kept.refl _ | assumption | refine Kept.alloc ?_ _ | refine Kept.drew ?_ | refine Kept.drewN ?_ _ | refine Kept.trans ?_ (by assumption))))) _ | refine Kept.trans ?_ (by assumption))))) HZ.out).mono ?_); rintro e w' ⟨rfl, hk⟩; (try have hkr := Root.trans (by assumption) hk); (first | (have hkf := From.step (by assumption) hk; obtain ⟨hc, hf⟩ := hkf.cells) | (have hkf := From.start hk; obtain ⟨hc, hf⟩ := hkf.cells)))
    go_ret2
    exact ⟨ret_ib HN.out H0.out, by (repeat (first | exact Kept.refl _ | assumption | refine Kept.alloc ?_ _ | refine Kept.drew ?_ | refine Kept.drewN ?_ _ | refine Kept.setCell ?_ (by first | (simp; done) | (simp; omega) | omega | exact Kept.size (by (repeat (first | exact Kept.refl _ | assumption | refine Kept.alloc ?_ _ | refine Kept.drew ?_ | refine Kept.drewN ?_ _ | refine Kept.trans ?_ (by assumption))))) _ | refine Kept.trans ?_ (by assumption)))⟩
set_option maxHeartbeats 2000000 in
theorem sShallowest_any (v : Value) (cs : List Cz) (w : World) (hL : Lies w 7 craftC v cs) (hz : Sized cs) : Calls Try.prog 25 #[v] w fun e w' => e = .returned (.tuple #[.int .i64 (shV cs), .bool (shOk cs)]) ∧ Kept w w' := by
  have HL := Lib.hid hL
  have HZ := Lib.hid hz
  have hm := hL.len
  unfold maxLen at hm
  obtain ⟨A, c, rfl, hlc, hcm, hA⟩ := lies_crafts hL
  clear hL hz
  cases h1 : craftsB cs
  · have H0 := Lib.hid (show shOk cs = false by simp [shOk, h1])
    have HN := Lib.hid (shv_no H0.out)
    clear hA
    go_enter Try.func25, Try.ntmps25
    go_wp2_with (go_at_call 40; (with_reducible refine (l5Good_any _ _ _ (by exact HL.out.kept (by (repeat (first | exact Kept.refl _ | assumption | refine Kept.alloc ?_ _ | refine Kept.drew ?_ | refine Kept.drewN ?_ _ | refine Kept.setCell ?_ (by first | (simp; done) | (simp; omega) | omega | exact Kept.size (by (repeat (first | exact Kept.refl _ | assumption | refine Kept.alloc ?_ _ | refine Kept.drew ?_ | refine Kept.drewN ?_ _ | refine Kept.trans ?_ (by assumption))))) _ | refine Kept.trans ?_ (by assumption))))) HZ.out).mono ?_); rintro e w' ⟨rfl, hk⟩; (try have hkr := Root.trans (by assumption) hk); (first | (have hkf := From.step (by assumption) hk; obtain ⟨hc, hf⟩ := hkf.cells) | (have hkf := From.start hk; obtain ⟨hc, hf⟩ := hkf.cells)))
    go_ret2
    exact ⟨ret_ib HN.out H0.out, by (repeat (first | exact Kept.refl _ | assumption | refine Kept.alloc ?_ _ | refine Kept.drew ?_ | refine Kept.drewN ?_ _ | refine Kept.setCell ?_ (by first | (simp; done) | (simp; omega) | omega | exact Kept.size (by (repeat (first | exact Kept.refl _ | assumption | refine Kept.alloc ?_ _ | refine Kept.drew ?_ | refine Kept.drewN ?_ _ | refine Kept.trans ?_ (by assumption))))) _ | refine Kept.trans ?_ (by assumption)))⟩
  by_cases h2 : 0 < cs.length
  · have H0 := Lib.hid (show shOk cs = true by simp [shOk, h1, h2])
    have hne : ((cs.length : Int) == 0) = false := beq_eq_false_iff_ne.2 (by omega)
    obtain ⟨b, off, rfl, hc⟩ := hA h2
    have HC := Lib.hid hc
    obtain ⟨q0, q1, q2, q3, q4, q5, q6⟩ := hc 0 h2
    simp only [Nat.zero_mul, Nat.add_zero] at q0 q1 q2 q3 q4 q5 q6
    clear hA hc
    go_enter Try.func25, Try.ntmps25
    go_wp2_with fail
    refine (l5Good_any _ _ _ HL.out HZ.out).mono ?_
    rintro e w' ⟨rfl, hk⟩
    have hk0 := hk
    have q0 := hk.keep q0
    have q1 := hk.keep q1
    have q2 := hk.keep q2
    have q3 := hk.keep q3
    have q4 := hk.keep q4
    have q5 := hk.keep q5
    have q6 := hk.keep q6
    have HK := Lib.hid hk
    clear hk
    go_wp2_with fail
    have HK0 := Lib.hid hk0.size
    clear hk0
    go_loopw [5] (fun i wr => ∃ k m : Nat, k ≤ cs.length ∧ m < cs.length ∧ i = .int .i64 k ∧ Kept w wr ∧ Cell7 wr w'.heap.size (CZ cs m) ∧ ShIs cs k m) (fun i _ => cs.length - (intOf i).toNat)
    case atStart => exact ⟨1, 0, by omega, h2, rfl, by have hq := HK.out; (repeat (first | exact Kept.refl _ | assumption | refine Kept.alloc ?_ _ | refine Kept.drew ?_ | refine Kept.drewN ?_ _ | refine Kept.setCell ?_ (by first | (simp; done) | (simp; omega) | omega | exact Kept.size (by (repeat (first | exact Kept.refl _ | assumption | refine Kept.alloc ?_ _ | refine Kept.drew ?_ | refine Kept.drewN ?_ _ | refine Kept.trans ?_ (by assumption))))) _ | refine Kept.trans ?_ (by assumption))), Cell7.new w' (CZ cs 0), (shTo_1 cs).symm⟩
    case round =>
      clear q0 q1 q2 q3 q4 q5 q6
      obtain ⟨k, m, hk, hm1, rfl, hkw, h7, hsh⟩ := hrel
      have HS := Lib.hid hsh
      have H7 := Lib.hid h7
      obtain ⟨e0, e1, e2, e3, e4, e5, e6, f0, f1, f2, f3, f4, f5, f6⟩ := h7
      have n0 := World.block_lt_of_cell? wr _ e0
      simp only [] at n0
      have n1 : w'.heap.size ≤ wr.heap.size := by omega
      have n2 : ¬ w'.heap.size = wr.heap.size := by omega
      have n3 : ¬ wr.heap.size = w'.heap.size := by omega
      have n4 : w.heap.size ≤ w'.heap.size := HK0.out
      clear hsh
      by_cases hlt : k < cs.length
      · obtain ⟨c0, c1, c2, c3, c4, c5, c6⟩ := (HC.out k hlt).kept hkw
        have k00 : (0 : Int) ≤ (k : Int) := by omega
        have k01 : (k : Int) < (cs.length : Int) := by omega
        by_cases hd : (CZ cs k).dr < (CZ cs m).dr
        · have HS2 := Lib.hid (sh_yes HS.out hd)
          go_wp2_with fail
          go_quiet (fail)
          go_wp2_with fail
          go_roundw
          case rel => exact ⟨k + 1, k, by omega, hlt, by go_num, Kept.stored7 (Kept.drewN hkw _) n4 (CZ cs k), (H7.out.kept (Kept.drewN (Kept.refl _) _)).stored (CZ cs k), HS2.out⟩
          case measure => simp [intOf]; omega
        · have HS2 := Lib.hid (sh_no HS.out hd)
          have hd' : (CZ cs m).dr ≤ (CZ cs k).dr := by omega
          go_wp2_with fail
          go_quiet (fail)
          go_wp2_with fail
          go_roundw
          case rel => exact ⟨k + 1, m, by omega, hm1, by go_num, by (repeat (first | exact Kept.refl _ | assumption | refine Kept.alloc ?_ _ | refine Kept.drew ?_ | refine Kept.drewN ?_ _ | refine Kept.setCell ?_ (by first | (simp; done) | (simp; omega) | omega | exact Kept.size (by (repeat (first | exact Kept.refl _ | assumption | refine Kept.alloc ?_ _ | refine Kept.drew ?_ | refine Kept.drewN ?_ _ | refine Kept.trans ?_ (by assumption))))) _ | refine Kept.trans ?_ (by assumption))), H7.out.kept (by (repeat (first | exact Kept.refl _ | assumption | refine Kept.alloc ?_ _ | refine Kept.drew ?_ | refine Kept.drewN ?_ _ | refine Kept.setCell ?_ (by first | (simp; done) | (simp; omega) | omega | exact Kept.size (by (repeat (first | exact Kept.refl _ | assumption | refine Kept.alloc ?_ _ | refine Kept.drew ?_ | refine Kept.drewN ?_ _ | refine Kept.trans ?_ (by assumption))))) _ | refine Kept.trans ?_ (by assumption)))), HS2.out⟩
          case measure => simp [intOf]; omega
      · have e : k = cs.length := by omega
        have HF := Lib.hid (shv_yes H0.out (by rw [← e]; exact HS.out))
        clear e
        go_wp2_with fail
        go_ret2
        exact ⟨ret_ib HF.out H0.out, by (repeat (first | exact Kept.refl _ | assumption | refine Kept.alloc ?_ _ | refine Kept.drew ?_ | refine Kept.drewN ?_ _ | refine Kept.setCell ?_ (by first | (simp; done) | (simp; omega) | omega | exact Kept.size (by (repeat (first | exact Kept.refl _ | assumption | refine Kept.alloc ?_ _ | refine Kept.drew ?_ | refine Kept.drewN ?_ _ | refine Kept.trans ?_ (by assumption))))) _ | refine Kept.trans ?_ (by assumption)))⟩
  · have H0 := Lib.hid (show shOk cs = false by simp [shOk, h2])
    have HN := Lib.hid (shv_no H0.out)
    have hne : ((cs.length : Int) == 0) = true := beq_iff_eq.2 (by omega)
    clear hA
    go_enter Try.func25, Try.ntmps25
    go_wp2_with (go_at_call 40; (with_reducible refine (l5Good_any _ _ _ (by exact HL.out.kept (by (repeat (first | exact Kept.refl _ | assumption | refine Kept.alloc ?_ _ | refine Kept.drew ?_ | refine Kept.drewN ?_ _ | refine Kept.setCell ?_ (by first | (simp; done) | (simp; omega) | omega | exact Kept.size (by (repeat (first | exact Kept.refl _ | assumption | refine Kept.alloc ?_ _ | refine Kept.drew ?_ | refine Kept.drewN ?_ _ | refine Kept.trans ?_ (by assumption))))) _ | refine Kept.trans ?_ (by assumption))))) HZ.out).mono ?_); rintro e w' ⟨rfl, hk⟩; (try have hkr := Root.trans (by assumption) hk); (first | (have hkf := From.step (by assumption) hk; obtain ⟨hc, hf⟩ := hkf.cells) | (have hkf := From.start hk; obtain ⟨hc, hf⟩ := hkf.cells)))
    go_ret2
    exact ⟨ret_ib HN.out H0.out, by (repeat (first | exact Kept.refl _ | assumption | refine Kept.alloc ?_ _ | refine Kept.drew ?_ | refine Kept.drewN ?_ _ | refine Kept.setCell ?_ (by first | (simp; done) | (simp; omega) | omega | exact Kept.size (by (repeat (first | exact Kept.refl _ | assumption | refine Kept.alloc ?_ _ | refine Kept.drew ?_ | refine Kept.drewN ?_ _ | refine Kept.trans ?_ (by assumption))))) _ | refine Kept.trans ?_ (by assumption)))⟩
theorem lawShallowestCraft (v : Value) (cs : List Cz) (w : World) (hL : Lies w 7 craftC v cs) (hz : Sized cs) : Calls Try.prog 8 #[v] w fun e w' => e = .returned (.bool true) ∧ Kept w w' := by
  have HL := Lib.hid hL
  have HZ := Lib.hid hz
  obtain ⟨A, c, rfl, hlc, hcm, hA⟩ := hL
  clear hA hz
  go_enter Try.func8, Try.ntmps8
  go_wp2_with fail
  refine (szCraftS_any _ _ _ HL.out HZ.out).mono ?_
  rintro e W0 ⟨r, rfl, hr, k0⟩
  by_cases hneg : r < 0
  · go_wp2_with fail
    go_ret
    exact ⟨rfl, by (repeat (first | exact Kept.refl _ | assumption | refine Kept.alloc ?_ _ | refine Kept.drew ?_ | refine Kept.drewN ?_ _ | refine Kept.setCell ?_ (by first | (simp; done) | (simp; omega) | omega | exact Kept.size (by (repeat (first | exact Kept.refl _ | assumption | refine Kept.alloc ?_ _ | refine Kept.drew ?_ | refine Kept.drewN ?_ _ | refine Kept.trans ?_ (by assumption))))) _ | refine Kept.trans ?_ (by assumption)))⟩
  · have hn := hr (by omega)
    clear hr
    go_wp2_with (first | (go_at_call 22; refine (toCraftS_any _ _ _ (by exact HL.out.kept (by (repeat (first | exact Kept.refl _ | assumption | refine Kept.alloc ?_ _ | refine Kept.drew ?_ | refine Kept.drewN ?_ _ | refine Kept.setCell ?_ (by first | (simp; done) | (simp; omega) | omega | exact Kept.size (by (repeat (first | exact Kept.refl _ | assumption | refine Kept.alloc ?_ _ | refine Kept.drew ?_ | refine Kept.drewN ?_ _ | refine Kept.trans ?_ (by assumption))))) _ | refine Kept.trans ?_ (by assumption))))) hn).mono ?_; rintro e w1 ⟨u1, rfl, hu1, hk⟩; (try have hkr := Root.trans (by assumption) hk); (first | have hl1 := pairs_own hu1 | have hl1 := crafts_own hu1); clear hu1) | (go_at_call 25; (with_reducible refine (sShallowest_any _ _ _ (by first | assumption | exact Lies.kept (by assumption) (by (repeat (first | exact Kept.refl _ | assumption | refine Kept.alloc ?_ _ | refine Kept.drew ?_ | refine Kept.drewN ?_ _ | refine Kept.setCell ?_ (by first | (simp; done) | (simp; omega) | omega | exact Kept.size (by (repeat (first | exact Kept.refl _ | assumption | refine Kept.alloc ?_ _ | refine Kept.drew ?_ | refine Kept.drewN ?_ _ | refine Kept.trans ?_ (by assumption))))) _ | refine Kept.trans ?_ (by assumption))))) HZ.out).mono ?_); rintro e w' ⟨rfl, hk⟩; (try have hkr := Root.trans (by assumption) hk); (first | (have hkf := From.step (by assumption) hk; obtain ⟨hc, hf⟩ := hkf.cells) | (have hkf := From.start hk; obtain ⟨hc, hf⟩ := hkf.cells))) | (go_at_call 26; (with_reducible refine (shallowest_any _ _ _ (by first | assumption | exact Lies.kept (by assumption) (by (repeat (first | exact Kept.refl _ | assumption | refine Kept.alloc ?_ _ | refine Kept.drew ?_ | refine Kept.drewN ?_ _ | refine Kept.setCell ?_ (by first | (simp; done) | (simp; omega) | omega | exact Kept.size (by (repeat (first | exact Kept.refl _ | assumption | refine Kept.alloc ?_ _ | refine Kept.drew ?_ | refine Kept.drewN ?_ _ | refine Kept.trans ?_ (by assumption))))) _ | refine Kept.trans ?_ (by assumption))))) HZ.out).mono ?_); rintro e w' ⟨rfl, hk⟩; (try have hkr := Root.trans (by assumption) hk); (first | (have hkf := From.step (by assumption) hk; obtain ⟨hc, hf⟩ := hkf.cells) | (have hkf := From.start hk; obtain ⟨hc, hf⟩ := hkf.cells))) | (go_at_call 24; (with_reducible refine (eqCraftS_any _ _ _ _ (by first | assumption | exact Lies.kept (by assumption) (by (repeat (first | exact Kept.refl _ | assumption | refine Kept.alloc ?_ _ | refine Kept.drew ?_ | refine Kept.drewN ?_ _ | refine Kept.setCell ?_ (by first | (simp; done) | (simp; omega) | omega | exact Kept.size (by (repeat (first | exact Kept.refl _ | assumption | refine Kept.alloc ?_ _ | refine Kept.drew ?_ | refine Kept.drewN ?_ _ | refine Kept.trans ?_ (by assumption))))) _ | refine Kept.trans ?_ (by assumption))))) (by first | assumption | exact Lies.kept (by assumption) (by (repeat (first | exact Kept.refl _ | assumption | refine Kept.alloc ?_ _ | refine Kept.drew ?_ | refine Kept.drewN ?_ _ | refine Kept.setCell ?_ (by first | (simp; done) | (simp; omega) | omega | exact Kept.size (by (repeat (first | exact Kept.refl _ | assumption | refine Kept.alloc ?_ _ | refine Kept.drew ?_ | refine Kept.drewN ?_ _ | refine Kept.trans ?_ (by assumption))))) _ | refine Kept.trans ?_ (by assumption)))))).mono ?_); rintro e w' ⟨rfl, hk⟩; (try have hkr := Root.trans (by assumption) hk); (first | (have hkf := From.step (by assumption) hk; obtain ⟨hc, hf⟩ := hkf.cells) | (have hkf := From.start hk; obtain ⟨hc, hf⟩ := hkf.cells))))
    go_ret
    exact ⟨rfl, by (repeat (first | exact Kept.refl _ | assumption | refine Kept.alloc ?_ _ | refine Kept.drew ?_ | refine Kept.drewN ?_ _ | refine Kept.setCell ?_ (by first | (simp; done) | (simp; omega) | omega | exact Kept.size (by (repeat (first | exact Kept.refl _ | assumption | refine Kept.alloc ?_ _ | refine Kept.drew ?_ | refine Kept.drewN ?_ _ | refine Kept.trans ?_ (by assumption))))) _ | refine Kept.trans ?_ (by assumption)))⟩
end Go.Proofs.Ytaaloblkilidoaa
