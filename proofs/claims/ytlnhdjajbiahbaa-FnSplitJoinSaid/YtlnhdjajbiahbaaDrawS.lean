/-
  Contracts of the draws of texts.
  Conditions: none.
-/
import Derived.Test.YtlnhdjajbiahbaaCode
import Derived.Test.YtlnhdjajbiahbaaJoin
namespace Go.Proofs.Ytlnhdjajbiahbaa
open Go.ChangeShapes Go.WideShapes Go.ChangeAt Go.RowKit
set_option linter.unusedVariables false
set_option linter.unusedSimpArgs false

/-- A slice of texts that lies in a block of its own. -/
def StrsIn (w : World) (b : Nat) (xs : List ByteArray) : Prop := ∀ i, i < xs.length → w.cell? ⟨b, i, none⟩ = some (.string (XZ xs i))
theorem StrsIn.lit {w : World} {xs : List ByteArray} {t : TypeId} {n : Nat} {cs : Array Value} (hcs : cs = (xs.map Value.string).toArray) (hn : w.heap.size = n) : StrsIn (w.alloc (.cells cs t)) n xs := fun i hi => by
  subst hn
  rw [cell_of_row _ _ i _ t (0, 0) (heap_alloc_new w _), hcs]
  simp [XZ, List.getD_eq_getElem?_getD, hi]
theorem of_any (g b c : Nat) (k : Int) (xs : List ByteArray) (w : World) (hC : CurB w g k) (hk : k ≤ 900000) (hL : StrsIn w b xs) (hb : b ≠ g) (h0 : 0 < xs.length) (h1 : xs.length ≤ 1000) : Calls Try.prog 27 #[.pointer (some ⟨g, 0, none⟩), .slice (some ⟨b, 0, none⟩) xs.length c] w fun e w' => ∃ s : ByteArray, e = .returned (.string s) ∧ s ∈ xs ∧ CurB w' g (k + 2) ∧ Stir g w w' := by
  have HC := Lib.hid hC
  have HL := Lib.hid hL
  clear hC hL
  go_enter Try.func27, Try.ntmps27
  go_wp2_with fail
  refine (pick_any g k _ _ HC.out hk (by omega)).mono ?_
  rintro e w1 ⟨x, rfl, ⟨x0, x1⟩, hc1, hg1⟩
  obtain ⟨i, rfl⟩ : ∃ i : Nat, x = (i : Int) := ⟨x.toNat, by omega⟩
  have hi : i < xs.length := by omega
  have d0 := hg1.keep (p := ⟨b, i, none⟩) hb (HL.out i hi)
  have hm : XZ xs i ∈ xs := by simp [XZ, List.getD_eq_getElem?_getD, hi]
  generalize XZ xs i = s at d0 hm
  have HM := Lib.hid hm
  have HC1 := Lib.hid hc1
  have HG1 := Lib.hid hg1
  clear hc1 hg1 x1 hm
  go_wp2_with fail
  go_ret
  exact ⟨_, rfl, HM.out, HC1.out, HG1.out⟩
def anyL : List ByteArray := [⟨#[]⟩, ⟨#[97]⟩, ⟨#[97, 44, 98]⟩, ⟨#[115, 111, 109, 101, 32, 119, 111, 114, 100, 115]⟩, ⟨#[120, 35, 121]⟩, ⟨#[45, 49, 50]⟩, ⟨#[0, 255]⟩, ⟨#[44, 44]⟩, ⟨#[48]⟩]
theorem anyL_size : ∀ s ∈ anyL, s.size ≤ 10 := by
  intro s hs
  simp only [anyL, List.mem_cons, List.not_mem_nil, or_false] at hs
  rcases hs with rfl | rfl | rfl | rfl | rfl | rfl | rfl | rfl | rfl <;> decide
theorem any1_any (g : Nat) (k : Int) (w : World) (hC : CurB w g k) (hk : k ≤ 800000) : Calls Try.prog 26 #[.pointer (some ⟨g, 0, none⟩)] w fun e w' => ∃ s : ByteArray, e = .returned (.string s) ∧ s.size ≤ 10 ∧ CurB w' g (k + 2) ∧ Stir g w w' := by
  have hg := hC.lt
  have HC := Lib.hid hC
  clear hC
  go_enter Try.func26, Try.ntmps26
  go_wp2_with fail
  refine (of_any g _ 9 k anyL _ (HC.out.kept (Kept.alloc (Kept.refl _) _)) (by omega) (by exact StrsIn.lit (by rfl) (by simp)) (by first | (simp; done) | (simp; omega) | omega) (by decide) (by decide)).mono ?_
  rintro e w1 ⟨s, rfl, hm, hc1, hs1⟩
  have HM := Lib.hid (anyL_size s hm)
  have C1 := Lib.hid hc1
  have S1 := Lib.hid ((Stir.kept (Kept.alloc (Kept.refl _) _)).trans hs1)
  clear hm hc1 hs1
  go_wp2_with fail
  go_ret
  exact ⟨_, rfl, HM.out, C1.out, S1.out⟩
theorem sizes_le {xs : List ByteArray} {n : Nat} (h : ∀ s ∈ xs, s.size ≤ n) {s : ByteArray} (hs : s ∈ xs) : s.size ≤ n := h s hs
set_option maxHeartbeats 1000000 in
theorem drawLessString_any (v : Value) (w : World) (hc : CodeW w v) : Calls Try.prog 18 #[v] w fun e w' => ∃ a b : ByteArray, e = .returned (.tuple #[.string a, .string b]) ∧ a.size ≤ 10 ∧ b.size ≤ 10 ∧ Kept w w' := by
  obtain ⟨A, len, cap, rfl, hc⟩ := hc
  have HC := Lib.hid hc
  clear hc
  go_enter Try.func18, Try.ntmps18
  have C0 := Lib.hid (CurB.new (W := w) (g := w.heap.size) rfl HC.out 46)
  have K0 : Hid (Kept w (w.alloc (.cells #[.slice A len cap, .int .i64 0, .int .u64 0] 46))) := Lib.hid (Kept.alloc (Kept.refl _) _)
  go_wp2_with fail
  refine (any1_any w.heap.size 0 _ C0.out (by omega)).mono ?_
  rintro e w1 ⟨a, rfl, ha, hc1, hs1⟩
  have C1 := Lib.hid hc1
  have K1 := Lib.hid (Stir.out K0.out hs1 (Nat.le_refl _))
  clear hc1 hs1
  go_wp2_with fail
  refine (any1_any w.heap.size (0 + 2) _ C1.out (by omega)).mono ?_
  rintro e w2 ⟨b, rfl, hb, -, hs2⟩
  have K2 := Lib.hid (Stir.out K1.out hs2 (Nat.le_refl _))
  clear hs2
  go_wp2_with fail
  go_ret2
  exact ⟨_, _, rfl, ha, hb, K2.out⟩
def sepL : List ByteArray := [⟨#[44]⟩, ⟨#[44]⟩, ⟨#[32]⟩, ⟨#[]⟩, ⟨#[44, 44]⟩]
def sepL2 : List ByteArray := [⟨#[44]⟩, ⟨#[59]⟩, ⟨#[59]⟩, ⟨#[]⟩, ⟨#[97, 98]⟩]
theorem sepL_size : ∀ s ∈ sepL, s.size ≤ 2 := by
  intro s hs
  simp only [sepL, List.mem_cons, List.not_mem_nil, or_false] at hs
  rcases hs with rfl | rfl | rfl | rfl | rfl <;> decide
theorem sepL2_size : ∀ s ∈ sepL2, s.size ≤ 2 := by
  intro s hs
  simp only [sepL2, List.mem_cons, List.not_mem_nil, or_false] at hs
  rcases hs with rfl | rfl | rfl | rfl | rfl <;> decide
set_option maxHeartbeats 1000000 in
theorem drawSplitString_any (v : Value) (w : World) (hc : CodeW w v) : Calls Try.prog 16 #[v] w fun e w' => ∃ a b : ByteArray, e = .returned (.tuple #[.string a, .string b]) ∧ a.size ≤ 10 ∧ b.size ≤ 2 ∧ Kept w w' := by
  obtain ⟨A, len, cap, rfl, hc⟩ := hc
  have HC := Lib.hid hc
  clear hc
  go_enter Try.func16, Try.ntmps16
  have C0 := Lib.hid (CurB.new (W := w) (g := w.heap.size) rfl HC.out 46)
  have K0 : Hid (Kept w (w.alloc (.cells #[.slice A len cap, .int .i64 0, .int .u64 0] 46))) := Lib.hid (Kept.alloc (Kept.refl _) _)
  go_wp2_with fail
  refine (any1_any w.heap.size 0 _ C0.out (by omega)).mono ?_
  rintro e w1 ⟨a, rfl, ha, hc1, hs1⟩
  have C1 := Lib.hid hc1
  have z1 := hs1.size
  simp only [World.size_alloc] at z1
  have K1 := Lib.hid (Stir.out K0.out hs1 (Nat.le_refl _))
  clear hc1 hs1
  go_wp2_with fail
  refine (of_any w.heap.size _ 5 (0 + 2) sepL _ (C1.out.kept (Kept.alloc (Kept.refl _) _)) (by omega) (by exact StrsIn.lit (by rfl) (by simp)) (by omega) (by decide) (by decide)).mono ?_
  rintro e w2 ⟨b, rfl, hm, -, hs2⟩
  have HM := Lib.hid (sepL_size b hm)
  have K2 := Lib.hid (Stir.out (K1.out.trans (Kept.alloc (Kept.refl _) _)) hs2 (Nat.le_refl _))
  clear hs2 hm
  go_wp2_with fail
  go_ret2
  exact ⟨_, _, rfl, ha, HM.out, K2.out⟩
end Go.Proofs.Ytlnhdjajbiahbaa
