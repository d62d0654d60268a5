/-
  Contracts of the draws of the Door's statements, and of vAt.
  Conditions: none.
-/
import Derived.Test.YtlnhdjajbiahbaaDoorCode
import Derived.Test.YtlnhdjajbiahbaaDoorDBad
import Derived.Deep.OwnRows
namespace Go.Proofs.YtlnhdjajbiahbaaDoor
open Go.ChangeShapes Go.WideShapes Go.ChangeAt Go.RowKit
set_option linter.unusedVariables false
set_option linter.unusedSimpArgs false

def XZ (xs : List ByteArray) (i : Nat) : ByteArray := xs.getD i ByteArray.empty
/-- A slice of texts that lies in a block of its own. -/
def StrsIn (w : World) (b : Nat) (xs : List ByteArray) : Prop := ∀ i, i < xs.length → w.cell? ⟨b, i, none⟩ = some (.string (XZ xs i))
theorem StrsIn.lit {w : World} {xs : List ByteArray} {t : TypeId} {n : Nat} {cs : Array Value} (hcs : cs = (xs.map Value.string).toArray) (hn : w.heap.size = n) : StrsIn (w.alloc (.cells cs t)) n xs := fun i hi => by
  subst hn
  rw [cell_of_row _ _ i _ t (0, 0) (heap_alloc_new w _), hcs]
  simp [XZ, List.getD_eq_getElem?_getD, hi]
theorem of_any (g b c : Nat) (k : Int) (xs : List ByteArray) (w : World) (hC : CurB w g k) (hk : k ≤ 900000) (hL : StrsIn w b xs) (hb : b ≠ g) (h0 : 0 < xs.length) (h1 : xs.length ≤ 1000) : Calls Tryd.prog 30 #[.pointer (some ⟨g, 0, none⟩), .slice (some ⟨b, 0, none⟩) xs.length c] w fun e w' => ∃ s : ByteArray, e = .returned (.string s) ∧ s ∈ xs ∧ CurB w' g (k + 2) ∧ Stir g w w' := by
  have HC := Lib.hid hC
  have HL := Lib.hid hL
  clear hC hL
  go_enter Tryd.func30, Tryd.ntmps30
  go_wp2_with fail
  refine (pick_any g k _ _ HC.out hk (by omega)).mono ?_
  rintro e w1 ⟨x, rfl, ⟨x0, x1⟩, hc1, hg1⟩
  obtain ⟨i, rfl⟩ : ∃ i : Nat, x = (i : Int) := ⟨x.toNat, by omega⟩
  have hi : i < xs.length := by omega
  have d0 := hg1.keep (p := ⟨b, i, none⟩) hb (HL.out i hi)
  have hm : XZ xs i ∈ xs := by simp [XZ, List.getD_eq_getElem?_getD, hi]
  generalize XZ xs i = s at d0 hm
  have HM := Lib.hid hm
  have HC1 := Lib.hid hc1
  have HG1 := Lib.hid hg1
  clear hc1 hg1 x1 hm
  go_wp2_with fail
  go_ret
  exact ⟨_, rfl, HM.out, HC1.out, HG1.out⟩
def anyL : List ByteArray := [⟨#[]⟩, ⟨#[97]⟩, ⟨#[97, 44, 98]⟩, ⟨#[115, 111, 109, 101, 32, 119, 111, 114, 100, 115]⟩, ⟨#[120, 35, 121]⟩, ⟨#[45, 49, 50]⟩, ⟨#[0, 255]⟩, ⟨#[44, 44]⟩, ⟨#[48]⟩]
theorem anyL_size : ∀ s ∈ anyL, s.size ≤ 10 := by
  intro s hs
  simp only [anyL, List.mem_cons, List.not_mem_nil, or_false] at hs
  rcases hs with rfl | rfl | rfl | rfl | rfl | rfl | rfl | rfl | rfl <;> decide
theorem any1_any (g : Nat) (k : Int) (w : World) (hC : CurB w g k) (hk : k ≤ 800000) : Calls Tryd.prog 31 #[.pointer (some ⟨g, 0, none⟩)] w fun e w' => ∃ s : ByteArray, e = .returned (.string s) ∧ s.size ≤ 10 ∧ CurB w' g (k + 2) ∧ Stir g w w' := by
  have hg := hC.lt
  have HC := Lib.hid hC
  clear hC
  go_enter Tryd.func31, Tryd.ntmps31
  go_wp2_with fail
  refine (of_any g _ 9 k anyL _ (HC.out.kept (Kept.alloc (Kept.refl _) _)) (by omega) (by exact StrsIn.lit (by rfl) (by simp)) (by first | (simp; done) | (simp; omega) | omega) (by decide) (by decide)).mono ?_
  rintro e w1 ⟨s, rfl, hm, hc1, hs1⟩
  have HM := Lib.hid (anyL_size s hm)
  have C1 := Lib.hid hc1
  have S1 := Lib.hid ((Stir.kept (Kept.alloc (Kept.refl _) _)).trans hs1)
  clear hm hc1 hs1
  go_wp2_with fail
  go_ret
  exact ⟨_, rfl, HM.out, C1.out, S1.out⟩
def zb (n : Nat) : ByteArray := ⟨(List.replicate n (0 : UInt8)).toArray⟩
theorem zb_size (n : Nat) : (zb n).size = n := by simp [zb, ByteArray.size]
theorem infoByte : (Tryd.prog.info? 5).map (fun i => (i.zero, i.size, i.bytes)) = some (some (.int .u8 0), 1, 1) := by kernel_rfl
theorem run_zeros (W : World) (n : Nat) : (convert 25 9 (.slice (some ⟨W.heap.size, 0, none⟩) n n)).run Tryd.prog (W.alloc (.cells (madeCells #[.int .u8 0] n) 5)) = .ok (.string (zb n)) (W.alloc (.cells (madeCells #[.int .u8 0] n) 5)) := by
  have hrow := World.rowIs_made W (.int .u8 0) n 5
  have h := run_convert_bytes_back (P := Tryd.prog) (W.alloc (.cells (madeCells #[.int .u8 0] n) 5)) 25 9 5 ⟨W.heap.size, 0, none⟩ n (List.replicate n (0 : UInt8)) Tryd.underlying25 Tryd.underlying5 Tryd.underlying9 (fun j hj => by
    have hj' : j < n := by simpa using hj
    rw [Go.WideShapes.add_plain, Nat.zero_add]
    rw [hrow.cell hj']
    simp)
  rw [List.length_replicate] at h
  exact h

set_option maxHeartbeats 1000000 in
theorem drawFormatInt_any (v : Value) (w : World) (hc : CodeW w v) : Calls Tryd.prog 11 #[v] w fun e w' => ∃ n : Int, e = .returned (.int .i64 n) ∧ Kept w w' := by
  obtain ⟨A, len, cap, rfl, hc⟩ := hc
  have HC := Lib.hid hc
  clear hc
  go_enter Tryd.func11, Tryd.ntmps11
  have C0 := Lib.hid (CurB.new (W := w) (g := w.heap.size) rfl HC.out 43)
  have K0 : Hid (Kept w (w.alloc (.cells #[.slice A len cap, .int .i64 0, .int .u64 0] 43))) := Lib.hid (Kept.alloc (Kept.refl _) _)
  go_wp2_with fail
  refine (pick_any w.heap.size 0 1000 _ C0.out (by omega) (by omega)).mono ?_
  rintro e w1 ⟨x, rfl, ⟨x0, x1⟩, hc1, hs1⟩
  have C1 := Lib.hid hc1
  have z1 := hs1.size
  simp only [World.size_alloc] at z1
  have K1 := Lib.hid (Stir.out K0.out hs1 (Nat.le_refl _))
  clear hc1 hs1
  go_wp2_with fail
  refine (among_any w.heap.size _ 9 (0 + 2) [0, 1, -1, 10, 999999, -999999, 1000000, -1000000, x - 500] _ (C1.out.kept (Kept.alloc (Kept.refl _) _)) (by omega) (by exact NumsIn.lit (by rfl) (by simp)) (by omega) (by simp) (by simp)).mono ?_
  rintro e w2 ⟨y, rfl, -, -, hs2⟩
  have K2 := Lib.hid (Stir.out (K1.out.trans (Kept.alloc (Kept.refl _) _)) hs2 (Nat.le_refl _))
  clear hs2
  go_wp2_with fail
  go_ret
  exact ⟨_, rfl, K2.out⟩
def numL : List ByteArray := [⟨#[]⟩, ⟨#[45]⟩, ⟨#[45, 48]⟩, ⟨#[48, 48]⟩, ⟨#[48, 49]⟩, ⟨#[45, 45, 49]⟩, ⟨#[49, 120]⟩, ⟨#[57, 57, 57, 57, 57, 57]⟩, ⟨#[49, 48, 48, 48, 48, 48, 48]⟩, ⟨#[45, 57, 57, 57, 57, 57, 57]⟩, ⟨#[49, 56, 52, 52, 54, 55, 52, 52, 48, 55, 51, 55, 48, 57, 53, 53, 49, 54, 49, 55]⟩]
theorem numL_size : ∀ s ∈ numL, s.size ≤ 30 := by
  intro s hs
  simp only [numL, List.mem_cons, List.not_mem_nil, or_false] at hs
  rcases hs with rfl | rfl | rfl | rfl | rfl | rfl | rfl | rfl | rfl | rfl | rfl <;> decide
set_option maxHeartbeats 1000000 in
theorem drawParseInt_any (v : Value) (w : World) (hc : CodeW w v) : Calls Tryd.prog 14 #[v] w fun e w' => ∃ s : ByteArray, e = .returned (.string s) ∧ s.size ≤ 30 ∧ Kept w w' := by
  obtain ⟨A, len, cap, rfl, hc⟩ := hc
  have HC := Lib.hid hc
  clear hc
  go_enter Tryd.func14, Tryd.ntmps14
  have C0 := Lib.hid (CurB.new (W := w) (g := w.heap.size) rfl HC.out 43)
  have K0 : Hid (Kept w (w.alloc (.cells #[.slice A len cap, .int .i64 0, .int .u64 0] 43))) := Lib.hid (Kept.alloc (Kept.refl _) _)
  go_wp2_with fail
  refine (one_any w.heap.size 0 2 _ C0.out (by omega) (by omega)).mono ?_
  rintro e w1 ⟨b, rfl, hc1, hs1⟩
  have C1 := Lib.hid hc1
  have z1 := hs1.size
  simp only [World.size_alloc] at z1
  have K1 := Lib.hid (Stir.out K0.out hs1 (Nat.le_refl _))
  clear hc1 hs1
  cases b
  · go_wp2_with fail
    refine (pick_any w.heap.size (0 + 2) 2000 _ C1.out (by omega) (by omega)).mono ?_
    rintro e w2 ⟨x, rfl, ⟨x0, x1⟩, hc2, hs2⟩
    have K2 := Lib.hid (Stir.out K1.out hs2 (Nat.le_refl _))
    clear hc2 hs2
    have hq := itx_size (n := x - 1000) (by omega) (by omega)
    have HN := Lib.hid fun W => l1Num_any (x - 1000) (by omega) (by omega) W
    generalize itx (x - 1000) = q at HN hq
    go_wp2_with fail
    refine (HN.out _).mono ?_
    rintro e w3 ⟨rfl, k3⟩
    go_wp2_with fail
    go_ret
    exact ⟨_, rfl, by omega, K2.out.trans k3⟩
  · go_wp2_with fail
    refine (of_any w.heap.size _ 11 (0 + 2) numL _ (C1.out.kept (Kept.alloc (Kept.refl _) _)) (by omega) (by exact StrsIn.lit (by rfl) (by simp)) (by omega) (by decide) (by decide)).mono ?_
    rintro e w2 ⟨s, rfl, hm, -, hs2⟩
    have HM := Lib.hid (numL_size s hm)
    have K2 := Lib.hid (Stir.out (K1.out.trans (Kept.alloc (Kept.refl _) _)) hs2 (Nat.le_refl _))
    clear hs2 hm
    go_wp2_with fail
    go_ret
    exact ⟨_, rfl, HM.out, K2.out⟩
set_option maxRecDepth 100000 in
set_option maxHeartbeats 1000000 in
theorem drawAppendChecksum_any (v : Value) (w : World) (hc : CodeW w v) : Calls Tryd.prog 15 #[v] w fun e w' => ∃ s : ByteArray, e = .returned (.string s) ∧ s.size ≤ 4000 ∧ Kept w w' := by
  obtain ⟨j0, hj0, hy0, hy1, hy2⟩ := info_parts infoByte
  obtain ⟨A, len, cap, rfl, hc⟩ := hc
  have HC := Lib.hid hc
  clear hc
  go_enter Tryd.func15, Tryd.ntmps15
  have C0 := Lib.hid (CurB.new (W := w) (g := w.heap.size) rfl HC.out 43)
  have K0 : Hid (Kept w (w.alloc (.cells #[.slice A len cap, .int .i64 0, .int .u64 0] 43))) := Lib.hid (Kept.alloc (Kept.refl _) _)
  go_wp2_with fail
  refine (one_any w.heap.size 0 20 _ C0.out (by omega) (by omega)).mono ?_
  rintro e w1 ⟨b, rfl, hc1, hs1⟩
  have C1 := Lib.hid hc1
  have z1 := hs1.size
  simp only [World.size_alloc] at z1
  have K1 := Lib.hid (Stir.out K0.out hs1 (Nat.le_refl _))
  clear hc1 hs1
  cases b
  · go_wp2_with fail
    refine (any1_any w.heap.size (0 + 2) _ C1.out (by omega)).mono ?_
    rintro e w2 ⟨s, rfl, hs10, -, hs2⟩
    have K2 := Lib.hid (Stir.out K1.out hs2 (Nat.le_refl _))
    clear hs2
    go_wp2_with fail
    go_ret
    exact ⟨_, rfl, by omega, K2.out⟩
  · go_wp2_with fail
    refine (pick_any w.heap.size (0 + 2) 10 _ C1.out (by omega) (by omega)).mono ?_
    rintro e w2 ⟨q0, rfl, ⟨q00, q01⟩, -, hs2⟩
    obtain ⟨q, rfl⟩ : ∃ q : Nat, q0 = (q : Int) := ⟨q0.toNat, by omega⟩
    have hq : q < 10 := by omega
    have K2 := Lib.hid (Stir.out K1.out hs2 (Nat.le_refl _))
    have hmk : ∀ W : World, (Instr.makeSlice 25 (.int .i64 (3990 + (q : Int))) (.int .i64 (3990 + (q : Int)))).run Tryd.prog W = .ok (.slice (some ⟨W.heap.size, 0, none⟩) (3990 + q) (3990 + q)) (W.alloc (.cells (madeCells #[.int .u8 0] (3990 + q)) 5)) := fun W => by
      have h := run_make_rowN (P := Tryd.prog) 25 5 j0 _ Tryd.underlying25 hj0 hy0 .i64 .i64 (3990 + q) (3990 + q) (Nat.le_refl _) (by rw [hy2]; omega) (by omega) W
      rw [hy1, Nat.mul_one, show ((3990 + q : Nat) : Int) = 3990 + (q : Int) by omega] at h
      exact h
    have hcv := run_zeros w2 (3990 + q)
    have hzs := zb_size (3990 + q)
    clear hs2 q00 q01
    generalize zb (3990 + q) = zt at hcv hzs
    go_wp2_with fail
    go_ret
    exact ⟨_, rfl, by omega, K2.out.trans (Kept.alloc (Kept.refl _) _)⟩
theorem wrap_u8_small {x : Int} (h0 : 0 ≤ x) (h1 : x < 256) : 0 ≤ x ∧ x < 256 := ⟨h0, h1⟩
/-- vAt's number at a place: the same in every later world. -/
theorem vAt_at {w : World} {A : Option Addr} {len cap : Nat} (hc : CodeW w (.slice A len cap)) (i : Nat) (hi : i ≤ 1000) : ∃ x : Int, 0 ≤ x ∧ x < 256 ∧ ∀ W, Kept w W → Calls Tryd.prog 19 #[.slice A len cap, .int .i64 (i : Int)] W fun e w' => e = .returned (.int .i64 x) ∧ W = w' := by
  obtain ⟨A', len', cap', e, hl, hcap, hcell⟩ := hc
  injection e with e1 e2 e3
  subst e1 e2 e3
  unfold maxLen at hcap
  by_cases hlt : i < len
  · obtain ⟨b, off, rfl, hb, hx⟩ := hcell (by omega)
    obtain ⟨x, x0, x1, hx⟩ := hx i hlt
    refine ⟨x, x0, x1, fun W k => ?_⟩
    have d0 := k.keep hx
    have k0 : (i : Int) < (len : Int) := by omega
    have k1 : (0 : Int) ≤ (i : Int) := by omega
    clear hx k hcell
    go_enter Tryd.func19, Tryd.ntmps19
    go_wp2_with fail
    go_ret
    exact ⟨rfl, rfl⟩
  · refine ⟨((i : Int) * 7 + (len : Int)) % 256, Int.emod_nonneg _ (by omega), Int.emod_lt_of_pos _ (by omega), fun W k => ?_⟩
    have k0 : ¬ ((i : Int) < (len : Int)) := by omega
    clear k hcell
    go_enter Tryd.func19, Tryd.ntmps19
    go_wp2_with fail
    go_ret
    exact ⟨rfl, rfl⟩
end Go.Proofs.YtlnhdjajbiahbaaDoor
