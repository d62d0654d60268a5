/-
  FnExactSharedBox's walk: both calls return the same box.
  Conditions: none.
-/
import Derived.Test.YtnkofjfcioaaaaaBoxes
namespace Go.Proofs.Ytnkofjfcioaaaaa
open Go.ChangeShapes Go.WideShapes Go.ChangeAt Go.RowKit
set_option linter.unusedVariables false
/-- A box of four numbers lies in block g. -/
def BoxIn (w : World) (g : Nat) (x y z u : Int) : Prop := w.cell? ⟨g, 0, none⟩ = some (.int .i64 x) ∧ w.cell? ⟨g, 1, none⟩ = some (.int .i64 y) ∧ w.cell? ⟨g, 2, none⟩ = some (.int .i64 z) ∧ w.cell? ⟨g, 3, none⟩ = some (.int .i64 u)
theorem BoxIn.kept {w w' : World} {g : Nat} {x y z u : Int} (h : BoxIn w g x y z u) (k : Kept w w') : BoxIn w' g x y z u := ⟨k.keep h.1, k.keep h.2.1, k.keep h.2.2.1, k.keep h.2.2.2⟩
theorem eqBox_any (a b c d : Int) (w : World) : Calls Try.prog 20 #[.agg #[.int .i64 a, .int .i64 b, .int .i64 c, .int .i64 d], .agg #[.int .i64 a, .int .i64 b, .int .i64 c, .int .i64 d]] w fun e w' => e = .returned (.bool true) ∧ Kept w w' := by
  go_enter Try.func20, Try.ntmps20
  go_wp2
  go_ret
  exact ⟨rfl, by (repeat (first | exact Kept.refl _ | assumption | refine Kept.alloc ?_ _ | refine Kept.drew ?_ | refine Kept.drewN ?_ _ | refine Kept.setCell ?_ (by first | (simp; done) | (simp; omega) | omega | exact Kept.size (by (repeat (first | exact Kept.refl _ | assumption | refine Kept.alloc ?_ _ | refine Kept.drew ?_ | refine Kept.drewN ?_ _ | refine Kept.trans ?_ (by assumption))))) _ | refine Kept.trans ?_ (by assumption)))⟩
set_option maxHeartbeats 4000000 in
theorem lawSharedBox (a b c d p q r s : Int) (w : World) : Calls Try.prog 5 #[.agg #[.int .i64 a, .int .i64 b, .int .i64 c, .int .i64 d], .agg #[.int .i64 p, .int .i64 q, .int .i64 r, .int .i64 s]] w fun e w' => e = .returned (.bool true) ∧ Kept w w' := by
  obtain ⟨o0, o1, o2, o3, ok, he⟩ : ∃ o0 o1 o2 o3 ok, sharedV a b c d p q r s = .tuple #[.agg #[.int .i64 o0, .int .i64 o1, .int .i64 o2, .int .i64 o3], .bool ok] := ⟨_, _, _, _, _, rfl⟩
  have hS := Lib.hid fun W => sSharedBox_any a b c d p q r s W
  have hI := Lib.hid fun W => sharedBox_any a b c d p q r s W
  rw [he] at hS hI
  clear he
  go_enter Try.func5, Try.ntmps5
  go_upto_region 1 with fail
  have ka0 : ∀ w' : World, Root ((w.alloc (.cells #[.int .i64 a, .int .i64 b, .int .i64 c, .int .i64 d] 32)).alloc (.cells #[.int .i64 p, .int .i64 q, .int .i64 r, .int .i64 s] 32)) w' → w'.cell? ⟨w.heap.size, 0, none⟩ = some (.int .i64 a) := fun w' h => h.keep (by simp [go_sem])
  have ka1 : ∀ w' : World, Root ((w.alloc (.cells #[.int .i64 a, .int .i64 b, .int .i64 c, .int .i64 d] 32)).alloc (.cells #[.int .i64 p, .int .i64 q, .int .i64 r, .int .i64 s] 32)) w' → w'.cell? ⟨w.heap.size, 1, none⟩ = some (.int .i64 b) := fun w' h => h.keep (by simp [go_sem])
  have ka2 : ∀ w' : World, Root ((w.alloc (.cells #[.int .i64 a, .int .i64 b, .int .i64 c, .int .i64 d] 32)).alloc (.cells #[.int .i64 p, .int .i64 q, .int .i64 r, .int .i64 s] 32)) w' → w'.cell? ⟨w.heap.size, 2, none⟩ = some (.int .i64 c) := fun w' h => h.keep (by simp [go_sem])
  have ka3 : ∀ w' : World, Root ((w.alloc (.cells #[.int .i64 a, .int .i64 b, .int .i64 c, .int .i64 d] 32)).alloc (.cells #[.int .i64 p, .int .i64 q, .int .i64 r, .int .i64 s] 32)) w' → w'.cell? ⟨w.heap.size, 3, none⟩ = some (.int .i64 d) := fun w' h => h.keep (by simp [go_sem])
  have ka4 : ∀ w' : World, Root ((w.alloc (.cells #[.int .i64 a, .int .i64 b, .int .i64 c, .int .i64 d] 32)).alloc (.cells #[.int .i64 p, .int .i64 q, .int .i64 r, .int .i64 s] 32)) w' → w'.cell? ⟨w.heap.size + 1, 0, none⟩ = some (.int .i64 p) := fun w' h => h.keep (by simp [go_sem])
  have ka5 : ∀ w' : World, Root ((w.alloc (.cells #[.int .i64 a, .int .i64 b, .int .i64 c, .int .i64 d] 32)).alloc (.cells #[.int .i64 p, .int .i64 q, .int .i64 r, .int .i64 s] 32)) w' → w'.cell? ⟨w.heap.size + 1, 1, none⟩ = some (.int .i64 q) := fun w' h => h.keep (by simp [go_sem])
  have ka6 : ∀ w' : World, Root ((w.alloc (.cells #[.int .i64 a, .int .i64 b, .int .i64 c, .int .i64 d] 32)).alloc (.cells #[.int .i64 p, .int .i64 q, .int .i64 r, .int .i64 s] 32)) w' → w'.cell? ⟨w.heap.size + 1, 2, none⟩ = some (.int .i64 r) := fun w' h => h.keep (by simp [go_sem])
  have ka7 : ∀ w' : World, Root ((w.alloc (.cells #[.int .i64 a, .int .i64 b, .int .i64 c, .int .i64 d] 32)).alloc (.cells #[.int .i64 p, .int .i64 q, .int .i64 r, .int .i64 s] 32)) w' → w'.cell? ⟨w.heap.size + 1, 3, none⟩ = some (.int .i64 s) := fun w' h => h.keep (by simp [go_sem])
  go_cut [5, 6] (fun s5 s6 wx => s6 = .bool ok ∧ Root ((w.alloc (.cells #[.int .i64 a, .int .i64 b, .int .i64 c, .int .i64 d] 32)).alloc (.cells #[.int .i64 p, .int .i64 q, .int .i64 r, .int .i64 s] 32)) wx ∧ ∃ g, s5 = .pointer (some ⟨g, 0, none⟩) ∧ BoxIn wx g o0 o1 o2 o3)
  case first =>
    go_region_held3 (fun w' => Root ((w.alloc (.cells #[.int .i64 a, .int .i64 b, .int .i64 c, .int .i64 d] 32)).alloc (.cells #[.int .i64 p, .int .i64 q, .int .i64 r, .int .i64 s] 32)) w')
      (first | assumption | exact Root.trans (by assumption) hk | exact Root.drew (Root.refl _) | (repeat (first | exact Root.refl _ | assumption | refine Root.alloc ?_ _ | refine Root.drew ?_ | refine Root.setCell ?_ (by first | (simp; done) | (simp; omega) | omega | exact Root.size (by assumption)) _ | refine Root.trans ?_ (by assumption))))
      (first | (go_at_call 18; refine (toBox_any _ _ _ _ _).mono ?_; rintro e w1 ⟨rfl, hk⟩; (have hkr := Root.trans (by assumption) hk); (first | (have hkf := From.step (by assumption) hk; obtain ⟨hc, hf⟩ := hkf.cells) | (have hkf := From.start hk; obtain ⟨hc, hf⟩ := hkf.cells))) | (go_at_call 17; refine (hS.out _).mono ?_; rintro e w1 ⟨rfl, hk⟩; (have hkr := Root.trans (by assumption) hk); (first | (have hkf := From.step (by assumption) hk; obtain ⟨hc, hf⟩ := hkf.cells) | (have hkf := From.start hk; obtain ⟨hc, hf⟩ := hkf.cells))))
    all_goals go_wp2_with fail
    all_goals (go_meet; exact ⟨rfl, by first | assumption | exact Root.trans (by assumption) hk | exact Root.drew (Root.refl _) | (repeat (first | exact Root.refl _ | assumption | refine Root.alloc ?_ _ | refine Root.drew ?_ | refine Root.setCell ?_ (by first | (simp; done) | (simp; omega) | omega | exact Root.size (by assumption)) _ | refine Root.trans ?_ (by assumption))), _, rfl, by refine ⟨?_, ?_, ?_, ?_⟩ <;> simp [go_sem, *]⟩)
  case rest =>
    obtain ⟨rfl, hk0, g, rfl, hb⟩ := hcut
    have kb0 : ∀ w' : World, Root wc w' → w'.cell? ⟨w.heap.size, 0, none⟩ = some (.int .i64 a) := fun w' h => h.keep (ka0 _ hk0)
    have kb1 : ∀ w' : World, Root wc w' → w'.cell? ⟨w.heap.size, 1, none⟩ = some (.int .i64 b) := fun w' h => h.keep (ka1 _ hk0)
    have kb2 : ∀ w' : World, Root wc w' → w'.cell? ⟨w.heap.size, 2, none⟩ = some (.int .i64 c) := fun w' h => h.keep (ka2 _ hk0)
    have kb3 : ∀ w' : World, Root wc w' → w'.cell? ⟨w.heap.size, 3, none⟩ = some (.int .i64 d) := fun w' h => h.keep (ka3 _ hk0)
    have kb4 : ∀ w' : World, Root wc w' → w'.cell? ⟨w.heap.size + 1, 0, none⟩ = some (.int .i64 p) := fun w' h => h.keep (ka4 _ hk0)
    have kb5 : ∀ w' : World, Root wc w' → w'.cell? ⟨w.heap.size + 1, 1, none⟩ = some (.int .i64 q) := fun w' h => h.keep (ka5 _ hk0)
    have kb6 : ∀ w' : World, Root wc w' → w'.cell? ⟨w.heap.size + 1, 2, none⟩ = some (.int .i64 r) := fun w' h => h.keep (ka6 _ hk0)
    have kb7 : ∀ w' : World, Root wc w' → w'.cell? ⟨w.heap.size + 1, 3, none⟩ = some (.int .i64 s) := fun w' h => h.keep (ka7 _ hk0)
    clear ka0 ka1 ka2 ka3 ka4 ka5 ka6 ka7
    go_upto_region 2 with fail
    go_cut [7, 8] (fun s7 s8 wx => s8 = .bool ok ∧ Root wc wx ∧ ∃ g', s7 = .pointer (some ⟨g', 0, none⟩) ∧ BoxIn wx g' o0 o1 o2 o3)
    case first =>
      go_region_held3 (fun w' => Root wc w')
        (first | assumption | exact Root.trans (by assumption) hk | exact Root.drew (Root.refl _) | (repeat (first | exact Root.refl _ | assumption | refine Root.alloc ?_ _ | refine Root.drew ?_ | refine Root.setCell ?_ (by first | (simp; done) | (simp; omega) | omega | exact Root.size (by assumption)) _ | refine Root.trans ?_ (by assumption))))
        (first | (go_at_call 18; refine (toBox_any _ _ _ _ _).mono ?_; rintro e w1 ⟨rfl, hk⟩; (have hkr := Root.trans (by assumption) hk); (first | (have hkf := From.step (by assumption) hk; obtain ⟨hc, hf⟩ := hkf.cells) | (have hkf := From.start hk; obtain ⟨hc, hf⟩ := hkf.cells))) | (go_at_call 19; refine (hI.out _).mono ?_; rintro e w1 ⟨rfl, hk⟩; (have hkr := Root.trans (by assumption) hk); (first | (have hkf := From.step (by assumption) hk; obtain ⟨hc, hf⟩ := hkf.cells) | (have hkf := From.start hk; obtain ⟨hc, hf⟩ := hkf.cells))))
      all_goals go_wp2_with fail
      all_goals (go_meet; exact ⟨rfl, by first | assumption | exact Root.trans (by assumption) hk | exact Root.drew (Root.refl _) | (repeat (first | exact Root.refl _ | assumption | refine Root.alloc ?_ _ | refine Root.drew ?_ | refine Root.setCell ?_ (by first | (simp; done) | (simp; omega) | omega | exact Root.size (by assumption)) _ | refine Root.trans ?_ (by assumption))), _, rfl, by refine ⟨?_, ?_, ?_, ?_⟩ <;> simp [go_sem, *]⟩)
    case rest =>
      rename_i w2
      obtain ⟨rfl, hk1, g', rfl, hb'⟩ := hcut
      have hb0 := hb.kept hk1.kept
      obtain ⟨c0, c1, c2, c3⟩ := hb0
      obtain ⟨d0, d1, d2, d3⟩ := hb'
      have HK := Lib.hid (hk0.kept.trans hk1.kept)
      clear hb kb0 kb1 kb2 kb3 kb4 kb5 kb6 kb7 hk0 hk1 hS hI
      go_wp2_with (go_at_call 20; (with_reducible refine (eqBox_any _ _ _ _ _).mono ?_); rintro e w' ⟨rfl, hk⟩; (try have hkr := Root.trans (by assumption) hk); (first | (have hkf := From.step (by assumption) hk; obtain ⟨hc, hf⟩ := hkf.cells) | (have hkf := From.start hk; obtain ⟨hc, hf⟩ := hkf.cells)))
      go_ret
      exact ⟨rfl, by have hq := HK.out; (repeat (first | exact Kept.refl _ | assumption | refine Kept.alloc ?_ _ | refine Kept.drew ?_ | refine Kept.drewN ?_ _ | refine Kept.setCell ?_ (by first | (simp; done) | (simp; omega) | omega | exact Kept.size (by (repeat (first | exact Kept.refl _ | assumption | refine Kept.alloc ?_ _ | refine Kept.drew ?_ | refine Kept.drewN ?_ _ | refine Kept.trans ?_ (by assumption))))) _ | refine Kept.trans ?_ (by assumption)))⟩
end Go.Proofs.Ytnkofjfcioaaaaa
