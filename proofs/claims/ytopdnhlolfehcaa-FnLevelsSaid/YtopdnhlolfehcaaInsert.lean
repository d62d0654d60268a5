/-
  The contract of slices.Insert, one reading into a row of readings in memory of its own.
  Conditions: none.
-/
import Derived.Test.YtopdnhlolfehcaaShift3
import Derived.Lib.Overlaps
import Derived.Lib.AppendZerosOnto
import Derived.Shelf.Spec.SlicesInsert
namespace Go.Proofs.Ytopdnhlolfehcaa
open Go.ChangeShapes Go.WideShapes Go.ChangeAt Go.RowKit
set_option linter.unusedVariables false
set_option linter.unusedSimpArgs false

/-- A list with values put in from a place on. -/
def setL (xs : List Value) : Nat → List Value → List Value
  | _, [] => xs
  | o, v :: r => setL (xs.set o v) (o + 1) r
theorem setL_eq : ∀ (vs : List Value) (o : Nat) (xs : List Value), o + vs.length ≤ xs.length → setL xs o vs = xs.take o ++ vs ++ xs.drop (o + vs.length)
  | [], o, xs, _ => by simp [setL]
  | v :: r, o, xs, h => by
    simp only [List.length_cons] at h
    rw [setL, setL_eq r (o + 1) (xs.set o v) (by simp; omega)]
    have h1 : (xs.set o v).take (o + 1) = xs.take o ++ [v] := by
      rw [List.take_succ_eq_append_getElem (by simp; omega)]
      simp
      rw [List.take_set, List.set_eq_of_length_le (by simp; omega)]
    have h2 : (xs.set o v).drop (o + 1 + r.length) = xs.drop (o + (v :: r).length) := by
      rw [List.drop_set_of_lt (by omega)]
      rw [List.length_cons]
      congr 1
      omega
    rw [h1, h2]
    simp
theorem own_setCells {base : Nat} {e : TypeId} {size g cap n : Nat} : ∀ (vs : List Value) (o : Nat) (xs : List Value) (w : World), w.ownsRow base e size (.slice (some ⟨g, 0, none⟩) n cap) n xs → (w.setCells g o vs).ownsRow base e size (.slice (some ⟨g, 0, none⟩) n cap) n (setL xs o vs) ∧ w.grownBy (w.setCells g o vs) (some g)
  | [], o, xs, w, h => ⟨h, World.grownBy.refl _ _⟩
  | v :: r, o, xs, w, h => by
    obtain ⟨h1, h2⟩ := h.stored o v
    obtain ⟨h3, h4⟩ := own_setCells r (o + 1) (xs.set o v) _ h1
    exact ⟨h3, grown_trans' h2 h4⟩
theorem own_wide {base : Nat} {e : TypeId} {size g cap n : Nat} {xs : List Value} {w : World} (h : w.ownsRow base e size (.slice (some ⟨g, 0, none⟩) n cap) n xs) (hc : n + 1 ≤ cap) : ∃ js : List Value, js.length = size ∧ w.ownsRow base e size (.slice (some ⟨g, 0, none⟩) (n + 1) cap) (n + 1) (xs ++ js) := by
  rcases h.2 with ⟨h', _⟩ | ⟨g', cap', cur, h', hb, hg, hnc, hcm, hcs, htake⟩
  · simp at h'
  · simp only [Value.slice.injEq, Option.some.injEq, Addr.mk.injEq, and_true, true_and] at h'
    obtain ⟨rfl, rfl⟩ := h'
    have hle : n * size + size ≤ cur.toList.length := by
      rw [Array.length_toList, hcs, ← Nat.succ_mul]
      exact Nat.mul_le_mul_right _ hc
    refine ⟨(cur.toList.drop (n * size)).take size, by rw [List.length_take, List.length_drop]; omega, ?_, .inr ⟨g, cap, cur, rfl, hb, hg, hc, hcm, hcs, ?_⟩⟩
    · rw [List.length_append, h.1, List.length_take, List.length_drop, Nat.succ_mul]
      omega
    · rw [Nat.succ_mul, List.take_add, htake]
theorem oneCell_cells {v : Value} (h : v.oneCell' = true) : v.oneCell' = true := h
/-- copy(d, s) of elements of two cells. -/
theorem run_copy_two {P : Program} (w : World) (dT sT ty elem : TypeId) (b o dLen dCap : Nat) (a : Addr) (sLen sCap : Nat) (cs : List Value)
    (hu : P.underlying dT = some (.slice elem)) (hs : (P.info? elem).map (·.size) = some 2) (m : Nat) (hm : Nat.min sLen dLen = m) (hn : cs.length = m * 2)
    (hsrc : ∀ j v, cs[j]? = some v → w.cell? (a.add j) = some v) (hc : ∀ j, j < cs.length → (w.cell? ⟨b, o + j, none⟩).isSome = true) (hf : ∀ j, j < cs.length → w.frozen? ⟨b, o + j, none⟩ = false) (h1 : ∀ v ∈ cs, v.oneCell' = true) :
    (Builtin.copy_ #[dT, sT] ty #[.slice (some ⟨b, o, none⟩) dLen dCap, .slice (some a) sLen sCap]).run P w = .ok (goInt m) (w.setCells b o cs) := by
  have hl := run_loadCells_list (P := P) w a cs hsrc
  have hst := run_storeCells_cells (P := P) b o cs 0 w (by simpa using hc) (by simpa using hf) h1
  cases hq : P.info? elem with
  | none => simp [hq] at hs
  | some i =>
    have hi : i.size = 2 := by simpa [hq] using hs
    simp [Builtin.copy_, run_underlying hu, Builtin.lenOf, Builtin.firstCells, sizeOf, typeInfo, hq, hi, hm, ← hn, hl, hst]
theorem info_size2 : (Try.prog.info? 28).map (·.size) = some 2 := by kernel_rfl
theorem run_sizeOf2 (w : World) : (Go.sizeOf 28).run Try.prog w = .ok 2 w := by
  obtain ⟨i0, hi0, hz0, hz1, hz2⟩ := info_parts infoReading
  simp [sizeOf, typeInfo, hi0, hz1]
theorem own_some {base : Nat} {e : TypeId} {size g cap n : Nat} {xs : List Value} {w : World} (h : w.ownsRow base e size (.slice (some ⟨g, 0, none⟩) n cap) n xs) : ∀ k, k < cap * size → (w.cell? ⟨g, k, none⟩).isSome = true := by
  intro k hk
  rcases h.2 with ⟨h', _⟩ | ⟨g', cap', cur, h', hb, hg, hnc, hcm, hcs, htake⟩
  · simp at h'
  · simp only [Value.slice.injEq, Option.some.injEq, Addr.mk.injEq, and_true, true_and] at h'
    obtain ⟨rfl, rfl⟩ := h'
    rw [cell_of_row w g k cur e (0, 0) hg, Array.getElem?_eq_getElem (by omega)]
    rfl
theorem own_shape {base : Nat} {e : TypeId} {size g cap n : Nat} {xs : List Value} {w : World} (h : w.ownsRow base e size (.slice (some ⟨g, 0, none⟩) n cap) n xs) : w.shape? g = some (e, cap * size) := by
  rcases h.2 with ⟨h', _⟩ | ⟨g', cap', cur, h', hb, hg, hnc, hcm, hcs, htake⟩
  · simp at h'
  · simp only [Value.slice.injEq, Option.some.injEq, Addr.mk.injEq, and_true, true_and] at h'
    obtain ⟨rfl, rfl⟩ := h'
    simp [World.shape?, hg, hcs]
set_option maxHeartbeats 4000000 in
set_option maxRecDepth 100000 in
theorem insert_shift (base g n c i gv : Nat) (r0 r1 : Value) (zs : List Value) (w : World) (hown : w.ownsRow base 28 2 (.slice (some ⟨g, 0, none⟩) n c) n zs) (hi : i < n) (hroom : n + 1 ≤ c) (hcm : c ≤ maxLen) (hvb : gv ≠ g)
    (hblk : w.heap[gv]? = some (.cells #[r0, r1] 28 (0, 0))) (h1c : ∀ v ∈ zs, v.oneCell' = true) (h10 : r0.oneCell' = true) (h11 : r1.oneCell' = true) :
    Calls Try.prog 70 #[.slice (some ⟨g, 0, none⟩) n c, .int .i64 (i : Int), .slice (some ⟨gv, 0, none⟩) 1 1] w fun e w' =>
      e = .returned (.slice (some ⟨g, 0, none⟩) (n + 1) c) ∧ w' = (w.drew.setCells g ((i + 1) * 2) (zs.drop (i * 2))).setCells g (i * 2) [r0, r1] := by
  have hzl := hown.1
  unfold maxLen at hcm
  have hcs : ∀ j v, zs[j]? = some v → w.cell? ⟨g, j, none⟩ = some v := fun j v hj => by
    have := (List.getElem?_eq_some_iff.1 hj).1
    rw [hown.cellAt j (by omega)]
    exact hj
  have hsp := own_some hown
  have hfz := hown.frozenAt
  have hvs : ∀ j v, [r0, r1][j]? = some v → w.cell? ⟨gv, j, none⟩ = some v := fun j v hj => by
    rw [cell_of_row w gv j _ _ _ hblk]
    simpa using hj
  have hsa : w.shape? gv = some (28, 2) := by simp [World.shape?, hblk]
  have hfa : ∀ k, w.frozen? ⟨gv, k, none⟩ = false := fun k => frozen_of_row w gv k _ _ hblk
  have hov : ∀ lb cb, (callFunc 101 #[.slice (some ⟨gv, 0, none⟩) 1 1, .slice (some ⟨g, (i + 1) * 2, none⟩) lb cb]).run Try.prog w = .ok (.value (.bool false)) w := fun lb cb => by
    rw [run_callFunc_extern Try.func101 (by kernel_rfl) (by kernel_rfl) (by kernel_rfl) (e := Extern.SlicesOverlaps.overlaps #[24, 24] #[4]) (by kernel_rfl),
      Lib.run_overlaps_apart w 24 4 28 Try.underlying24 2 run_sizeOf2 ⟨gv, 0, none⟩ ⟨g, (i + 1) * 2, none⟩ 1 1 lb cb hvb _ _ _ _ hsa (own_shape hown) (by omega) (hfa 0) (hfa 2)]
    rfl
  have hdl : (zs.drop (i * 2)).length = (n - i) * 2 := by rw [List.length_drop, hzl]; omega
  have h1v : ∀ v ∈ [r0, r1], v.oneCell' = true := by
    intro v hv
    simp only [List.mem_cons, List.not_mem_nil, or_false] at hv
    rcases hv with rfl | rfl
    · exact h10
    · exact h11
  have hcp1 : ∀ ty dc sc, (Builtin.copy_ #[24, 24] ty #[.slice (some ⟨g, (i + 1) * 2, none⟩) (n - i) dc, .slice (some ⟨g, i * 2, none⟩) (n + 1 - i) sc]).run Try.prog w.drew = .ok (goInt ((n - i : Nat) : Int)) (w.drew.setCells g ((i + 1) * 2) (zs.drop (i * 2))) := fun ty dc sc =>
    run_copy_two w.drew _ _ ty 28 g ((i + 1) * 2) (n - i) dc ⟨g, i * 2, none⟩ (n + 1 - i) sc (zs.drop (i * 2)) Try.underlying24 info_size2 (n - i) (by simp only [Nat.min_def]; split <;> omega) hdl
      (fun j v hj => by rw [Addr.add_lit]; exact hcs (i * 2 + j) v (by rwa [List.getElem?_drop] at hj))
      (fun j hj => hsp _ (by omega)) (fun j hj => hfz _) (fun v hv => h1c v (List.mem_of_mem_drop hv))
  obtain ⟨W1, hW1⟩ : ∃ W1, W1 = w.drew.setCells g ((i + 1) * 2) (zs.drop (i * 2)) := ⟨_, rfl⟩
  have hsp1 : ∀ k, k < c * 2 → (W1.cell? ⟨g, k, none⟩).isSome = true := fun k hk => by
    rw [hW1]
    exact isSome_setCells g (zs.drop (i * 2)) ((i + 1) * 2) w.drew (fun j hj => hsp ((i + 1) * 2 + j) (by omega)) k (hsp k hk)
  have hcp2 : ∀ (W : World), (∀ x, W.cell? x = W1.cell? x) → (∀ x, W.frozen? x = W1.frozen? x) → ∀ ty dc, (Builtin.copy_ #[24, 24] ty #[.slice (some ⟨g, i * 2, none⟩) (n + 1 - i) dc, .slice (some ⟨gv, 0, none⟩) 1 1]).run Try.prog W = .ok (goInt 1) (W.setCells g (i * 2) [r0, r1]) := fun W hWc hWf ty dc =>
    run_copy_two W _ _ ty 28 g (i * 2) (n + 1 - i) dc ⟨gv, 0, none⟩ 1 1 [r0, r1] Try.underlying24 info_size2 1 (by simp only [Nat.min_def]; split <;> omega) rfl
      (fun j v hj => by
        rw [Addr.add_lit, Nat.zero_add, hWc, hW1, World.cell?_setCells_out g _ _ _ _ (fun h _ => absurd h hvb)]
        exact hvs j v hj)
      (fun j hj => by
        have : j < 2 := hj
        rw [hWc]; exact hsp1 _ (by omega)) (fun j hj => by rw [hWf, hW1, World.frozen?_setCells]; exact hfz _) h1v
  rw [← hW1] at hcp1
  have mixed : Try.prog.follows .mixedOrders = true := by kernel_rfl
  have hz2 : ¬ ((i : Int) = (n : Int)) := by omega
  have hz3 : ((i : Int) == (n : Int)) = false := by simp; omega
  have hw1 : IntKind.i64.wrap ((i : Int) + 1) = (i : Int) + 1 := by rw [IntKind.wrap_i64]; omega
  have hw2 : IntKind.i64.wrap ((n : Int) + 1) = (n : Int) + 1 := by rw [IntKind.wrap_i64]; omega
  have hb1 : (0 : Int) ≤ (i : Int) + 1 := by omega
  have hin : (i : Int) ≤ (n : Int) := by omega
  have hb0 : (0 : Int) ≤ (i : Int) := by omega
  have htn : ((i : Int) + 1).toNat = i + 1 := by omega
  have htn2 : ((n : Int) + 1).toNat = n + 1 := by omega
  have htn3 : ((i : Int)).toNat = i := by omega
  have hb2 : ¬ (c = i + 1) := by omega
  have hb3 : (i : Int) ≤ (n : Int) + 1 := by omega
  have hb4 : ¬ (c = i) := by omega
  have hb5 : (i : Int) + 1 ≤ (n : Int) + 1 := by omega
  have hb6 : (n : Int) + 1 ≤ (c : Int) := by omega
  have hb7 : ¬ ((c : Int) < (n : Int) + 1) := by omega
  clear hown hcs hsp hfz hvs hsa hfa hblk hdl hsp1 h1c h1v
  go_enter Try.func70, Try.ntmps70
  go_wp2_with (simp only [hov])
  go_region_law_o (refine step_copy_runI rfl _ _ 24 24 rfl _ _ (by simp [Act.eval, Act.put]) (by simp [Act.eval, Act.put]) (hcp1 _ _ _) ?_)
  go_wp2_with (at_builtin; refine wpList_copy_runI _ rfl _ _ 24 24 rfl _ _ rfl rfl (hcp2 _ (fun _ => rfl) (fun _ => rfl) _ _) ?_)
  go_ret
  first | exact ⟨rfl, rfl⟩ | exact ⟨rfl, by rw [hW1]⟩
set_option maxHeartbeats 4000000 in
set_option maxRecDepth 100000 in
theorem insert_end (base n gv : Nat) (r0 r1 : Value) (s : Value) (zs : List Value) (w : World) (hbase : base ≤ w.heap.size) (hown : w.ownsRow base 28 2 s n zs) (hn : n ≤ 1048576)
    (hblk : w.heap[gv]? = some (.cells #[r0, r1] 28 (0, 0))) (h10 : r0.oneCell' = true) (h11 : r1.oneCell' = true) :
    Calls Try.prog 70 #[s, .int .i64 (n : Int), .slice (some ⟨gv, 0, none⟩) 1 1] w fun e w' =>
      ∃ u, e = .returned u ∧ w'.ownsRow base 28 2 u (n + 1) (zs ++ [r0, r1]) ∧ w.grownBy w' s.ownBlock := by
  obtain ⟨i0, hi0, hz0, hz1, hz2⟩ := info_parts infoReading
  have hvs : ∀ j v, [r0, r1][j]? = some v → w.cell? ((⟨gv, 0, none⟩ : Addr).add j) = some v := fun j v hj => by
    rw [Addr.add_lit, Nat.zero_add, cell_of_row w gv j _ _ _ hblk]
    simpa using hj
  have h1v : ∀ v ∈ [r0, r1], v.oneCell' = true := by
    intro v hv
    simp only [List.mem_cons, List.not_mem_nil, or_false] at hv
    rcases hv with rfl | rfl
    · exact h10
    · exact h11
  have HO := Lib.hid hown
  obtain ⟨A, c, rfl, hnc, hcm, hA⟩ := own_form hown
  unfold maxLen at hcm
  have hw1 : ((n : Int)).toNat = n := by omega
  have mixed : Try.prog.follows .mixedOrders = true := by kernel_rfl
  clear hown hblk
  by_cases h0 : 0 < n
  · obtain ⟨g, rfl, -, -⟩ := hA h0
    clear hA
    by_cases hc : c = n
    · subst hc
      go_enter Try.func70, Try.ntmps70
      go_wp2_with (at_builtin; refine wpList_append_own_at _ rfl (.tmp 23) (.tmp 24) _ rfl base 28 i0 _ 2 16 Try.underlying24 hi0 hz0 hz1 hz2 rfl (by decide) _ c _ rfl HO.out ⟨gv, 0, none⟩ 1 1 [r0, r1] rfl rfl hvs h1v (by unfold maxLen; omega) (by omega) hbase ?_; intro v1 w1 hown1 hgrow1 _ _)
      go_ret
      exact ⟨_, rfl, hown1, hgrow1⟩
    · go_enter Try.func70, Try.ntmps70
      go_wp2_with (at_builtin; refine wpList_append_own_at _ rfl (.tmp 23) (.tmp 24) _ rfl base 28 i0 _ 2 16 Try.underlying24 hi0 hz0 hz1 hz2 rfl (by decide) _ n _ rfl HO.out ⟨gv, 0, none⟩ 1 1 [r0, r1] rfl rfl hvs h1v (by unfold maxLen; omega) (by omega) hbase ?_; intro v1 w1 hown1 hgrow1 _ _)
      go_ret
      exact ⟨_, rfl, hown1, hgrow1⟩
  · obtain rfl : n = 0 := by omega
    clear hA
    cases A with
    | none =>
      go_enter Try.func70, Try.ntmps70
      go_wp2_with (at_builtin; refine wpList_append_own_at _ rfl (.tmp 23) (.tmp 24) _ rfl base 28 i0 _ 2 16 Try.underlying24 hi0 hz0 hz1 hz2 rfl (by decide) _ 0 _ rfl HO.out ⟨gv, 0, none⟩ 1 1 [r0, r1] rfl rfl hvs h1v (by unfold maxLen; omega) (by omega) hbase ?_; intro v1 w1 hown1 hgrow1 _ _)
      go_ret
      exact ⟨_, rfl, hown1, hgrow1⟩
    | some a =>
      obtain ⟨ab, ao, asp⟩ := a
      by_cases hc : c = 0
      · subst hc
        go_enter Try.func70, Try.ntmps70
        go_wp2_with (at_builtin; refine wpList_append_own_at _ rfl (.tmp 23) (.tmp 24) _ rfl base 28 i0 _ 2 16 Try.underlying24 hi0 hz0 hz1 hz2 rfl (by decide) _ 0 _ rfl HO.out ⟨gv, 0, none⟩ 1 1 [r0, r1] rfl rfl hvs h1v (by unfold maxLen; omega) (by omega) hbase ?_; intro v1 w1 hown1 hgrow1 _ _)
        go_ret
        exact ⟨_, rfl, hown1, hgrow1⟩
      · go_enter Try.func70, Try.ntmps70
        go_wp2_with (at_builtin; refine wpList_append_own_at _ rfl (.tmp 23) (.tmp 24) _ rfl base 28 i0 _ 2 16 Try.underlying24 hi0 hz0 hz1 hz2 rfl (by decide) _ 0 _ rfl HO.out ⟨gv, 0, none⟩ 1 1 [r0, r1] rfl rfl hvs h1v (by unfold maxLen; omega) (by omega) hbase ?_; intro v1 w1 hown1 hgrow1 _ _)
        go_ret
        exact ⟨_, rfl, hown1, hgrow1⟩
set_option maxHeartbeats 4000000 in
set_option maxRecDepth 100000 in
theorem insert_grow (base g n c i gv : Nat) (r0 r1 : Value) (zs : List Value) (w : World) (hown : w.ownsRow base 28 2 (.slice (some ⟨g, 0, none⟩) n c) n zs) (hn : n ≤ 1048576) (hi : i < n) (hroom : c < n + 1) (hnc : n ≤ c)
    (hblk : w.heap[gv]? = some (.cells #[r0, r1] 28 (0, 0))) (h1c : ∀ v ∈ zs, v.oneCell' = true) (h10 : r0.oneCell' = true) (h11 : r1.oneCell' = true) :
    Calls Try.prog 70 #[.slice (some ⟨g, 0, none⟩) n c, .int .i64 (i : Int), .slice (some ⟨gv, 0, none⟩) 1 1] w fun e w' =>
      ∃ G ROW, e = .returned (.slice (some ⟨w.heap.size, 0, none⟩) (n + 1) G) ∧ n + 1 ≤ G ∧ G ≤ maxLen ∧ ROW.size = G * 2 ∧ ROW.toList.take (i * 2) = zs.take (i * 2) ∧
        w' = (((w.alloc (.cells ROW 28)).drew.setCells w.heap.size (i * 2) [r0, r1]).drew).setCells w.heap.size ((i + 1) * 2) (zs.drop (i * 2)) := by
  obtain ⟨i0, hi0, hz0, hzs, hzb⟩ := info_parts infoReading
  have hzl := hown.1
  have hcs : ∀ j v, zs[j]? = some v → w.cell? ⟨g, j, none⟩ = some v := fun j v hj => by
    have := (List.getElem?_eq_some_iff.1 hj).1
    rw [hown.cellAt j (by omega)]
    exact hj
  have hvs : ∀ j v, [r0, r1][j]? = some v → w.cell? ⟨gv, j, none⟩ = some v := fun j v hj => by
    rw [cell_of_row w gv j _ _ _ hblk]
    simpa using hj
  have h1v : ∀ v ∈ [r0, r1], v.oneCell' = true := by
    intro v hv
    simp only [List.mem_cons, List.not_mem_nil, or_false] at hv
    rcases hv with rfl | rfl
    · exact h10
    · exact h11
  have mixed : Try.prog.follows .mixedOrders = true := by kernel_rfl
  have hz1 : ((i : Int) == (n : Int)) = false := by simp; omega
  have hz2 : ¬ ((i : Int) = (n : Int)) := by omega
  have hz3 : (c : Int) < (n : Int) + 1 := by omega
  have hbw : g < w.heap.size := by
    have := World.block_lt_of_cell? w _ (hcs 0 _ (List.getElem?_eq_getElem (by omega)))
    simpa using this
  have hvw : gv < w.heap.size := (Array.getElem?_eq_some_iff.1 hblk).1
  have hkk : (n : Int) + 1 - (i : Int) = ((n + 1 - i : Nat) : Int) := by omega
  have hik : i + (n + 1 - i) = n + 1 := by omega
  have hold : (Builtin.firstCells i0.size i (.slice (some ⟨g, 0, none⟩) i c)).run Try.prog w.drew = .ok (zs.take (i * 2)).toArray w.drew := by
    rw [hzs]
    exact run_firstCells_some w.drew 2 i ⟨g, 0, none⟩ i c (zs.take (i * 2)) (by rw [List.length_take]; omega) (fun j v hj => by
      rw [Addr.add_lit, Nat.zero_add]
      rw [List.getElem?_take] at hj
      split at hj
      · exact hcs j v hj
      · cases hj)
  have hrz : ∀ ty, (Builtin.append_ #[24, 3] ty #[.slice (some ⟨g, 0, none⟩) i c, .int .i64 ((n : Int) + 1 - (i : Int))]).run Try.prog w =
      .ok (.slice (some ⟨w.heap.size, 0, none⟩) (n + 1) (grownCap w (n + 1) c 28)) (w.drew.alloc (.cells ((zs.take (i * 2)).toArray ++ Builtin.zeroCells (Value.agg #[Value.int IntKind.i64 0, Value.int IntKind.i64 0]).cells (n + 1 - i) ++ Builtin.zeroCells (Value.agg #[Value.int IntKind.i64 0, Value.int IntKind.i64 0]).cells (grownCap w (n + 1) c 28 - (n + 1))) 28)) := fun ty => by
    have h := Lib.run_append_grow_zeros w 24 3 ty 28 i0 _ .i64 .i64 Try.underlying24 Try.underlying3 hi0 hz0 (some ⟨g, 0, none⟩) i c (zs.take (i * 2)) hold (n + 1 - i) (by omega) (by omega) (by omega) (by omega) (by rw [hzb]; omega) (by rw [hzb, hik]; exact growslice_fits hroom (by omega))
    rw [hik] at h
    rw [hkk]
    exact h
  obtain ⟨G, hG⟩ : ∃ G, G = grownCap w (n + 1) c 28 := ⟨_, rfl⟩
  obtain ⟨ROW, hROW⟩ : ∃ ROW : Array Value, ROW = (zs.take (i * 2)).toArray ++ Builtin.zeroCells (Value.agg #[Value.int IntKind.i64 0, Value.int IntKind.i64 0]).cells (n + 1 - i) ++ Builtin.zeroCells (Value.agg #[Value.int IntKind.i64 0, Value.int IntKind.i64 0]).cells (G - (n + 1)) := ⟨_, rfl⟩
  rw [← hG] at hrz
  rw [← hROW] at hrz
  have hGn : n + 1 ≤ G := by rw [hG]; exact grownCap_ge w _ _ _
  have hzc : (Value.agg #[Value.int IntKind.i64 0, Value.int IntKind.i64 0]).cells.size = 2 := rfl
  have hRl : ROW.size = G * 2 := by
    rw [hROW]
    simp [Builtin.zeroCells, hzl, hzc]
    omega
  have hRt : ROW.toList.take (i * 2) = zs.take (i * 2) := by
    have hl : i * 2 ≤ (zs.take (i * 2)).length := by rw [List.length_take]; omega
    rw [hROW]
    simp only [Array.toList_append, List.append_assoc]
    rw [List.take_append_of_le_length hl, List.take_take, Nat.min_self]
  have hGm : G ≤ maxLen := by
    rw [hG]
    exact grownCap_le_maxLen w (n + 1) c 28 (by unfold maxLen; omega)
  obtain ⟨W1, hW1⟩ : ∃ W1, W1 = w.drew.alloc (.cells ROW 28) := ⟨_, rfl⟩
  rw [← hW1] at hrz
  have hN : ∀ j, j < G * 2 → (W1.cell? ⟨w.heap.size, j, none⟩).isSome = true := fun j hj => by
    rw [hW1, World.cell?_alloc_at (w := w.drew) ROW _ w.heap.size j rfl, Array.getElem?_eq_getElem (by omega)]; rfl
  have hNf : ∀ j, W1.frozen? ⟨w.heap.size, j, none⟩ = false := fun j => by rw [hW1]; exact World.frozen?_alloc_at (w := w.drew) ROW _ w.heap.size j rfl
  have hOb : ∀ j v, w.cell? ⟨g, j, none⟩ = some v → W1.cell? ⟨g, j, none⟩ = some v := fun j v h => by rw [hW1, World.cell?_alloc_past (w := w.drew) _ g j hbw]; exact h
  have hOv : ∀ j v, w.cell? ⟨gv, j, none⟩ = some v → W1.cell? ⟨gv, j, none⟩ = some v := fun j v h => by rw [hW1, World.cell?_alloc_past (w := w.drew) _ gv j hvw]; exact h
  have hcpA : ∀ (W : World), (∀ x, W.cell? x = W1.cell? x) → (∀ x, W.frozen? x = W1.frozen? x) → ∀ ty dc, (Builtin.copy_ #[24, 24] ty #[.slice (some ⟨w.heap.size, i * 2, none⟩) (n + 1 - i) dc, .slice (some ⟨gv, 0, none⟩) 1 1]).run Try.prog W = .ok (goInt 1) (W.setCells w.heap.size (i * 2) [r0, r1]) := fun W hWc hWf ty dc =>
    run_copy_two W _ _ ty 28 w.heap.size (i * 2) (n + 1 - i) dc ⟨gv, 0, none⟩ 1 1 [r0, r1] Try.underlying24 info_size2 1 (by simp only [Nat.min_def]; split <;> omega) rfl
      (fun j v hj => by rw [Addr.add_lit, Nat.zero_add, hWc]; exact hOv _ v (hvs j v hj))
      (fun j hj => by
        have : j < 2 := hj
        rw [hWc]; exact hN _ (by omega)) (fun j hj => by rw [hWf]; exact hNf _) h1v
  have hG63 : G ≤ 9223372036854775807 := by
    have := hGm
    unfold maxLen at this
    omega
  have hGi : ¬ (G = i) := by omega
  have hGim : ¬ (G = i + 1) := by omega
  have hci : ¬ (c = i) := by omega
  have hbN : g ≠ w.heap.size := by omega
  have hdl : (zs.drop (i * 2)).length = (n - i) * 2 := by rw [List.length_drop, hzl]; omega
  have hcpB : ∀ (W : World), (∀ x, W.cell? x = (W1.setCells w.heap.size (i * 2) [r0, r1]).cell? x) → (∀ x, W.frozen? x = (W1.setCells w.heap.size (i * 2) [r0, r1]).frozen? x) → ∀ ty dc sc, (Builtin.copy_ #[24, 24] ty #[.slice (some ⟨w.heap.size, (i + 1) * 2, none⟩) (n - i) dc, .slice (some ⟨g, i * 2, none⟩) (n - i) sc]).run Try.prog W = .ok (goInt ((n - i : Nat) : Int)) (W.setCells w.heap.size ((i + 1) * 2) (zs.drop (i * 2))) := fun W hWc hWf ty dc sc =>
    run_copy_two W _ _ ty 28 w.heap.size ((i + 1) * 2) (n - i) dc ⟨g, i * 2, none⟩ (n - i) sc (zs.drop (i * 2)) Try.underlying24 info_size2 (n - i) (by simp only [Nat.min_def]; split <;> omega) hdl
      (fun j v hj => by
        rw [Addr.add_lit, hWc, World.cell?_setCells_out _ _ _ _ _ (fun h _ => absurd h hbN)]
        exact hOb _ v (hcs (i * 2 + j) v (by rwa [List.getElem?_drop] at hj)))
      (fun j hj => by
        rw [hWc]
        exact isSome_setCells w.heap.size [r0, r1] (i * 2) W1 (fun t ht => by
          have : t < 2 := ht
          exact hN _ (by omega)) _ (hN _ (by omega)))
      (fun j hj => by rw [hWf, World.frozen?_setCells]; exact hNf _) (fun v hv => h1c v (List.mem_of_mem_drop hv))
  subst hW1
  have hE1 : ∀ x, ((w.alloc (.cells ROW 28)).drew).cell? x = (w.drew.alloc (.cells ROW 28)).cell? x := fun x => rfl
  have hE2 : ∀ x, ((w.alloc (.cells ROW 28)).drew).frozen? x = (w.drew.alloc (.cells ROW 28)).frozen? x := fun x => rfl
  have hF1 : ∀ x, (((w.alloc (.cells ROW 28)).drew.setCells w.heap.size (i * 2) [r0, r1]).drew).cell? x = ((w.drew.alloc (.cells ROW 28)).setCells w.heap.size (i * 2) [r0, r1]).cell? x := fun x => rfl
  have hF2 : ∀ x, (((w.alloc (.cells ROW 28)).drew.setCells w.heap.size (i * 2) [r0, r1]).drew).frozen? x = ((w.drew.alloc (.cells ROW 28)).setCells w.heap.size (i * 2) [r0, r1]).frozen? x := fun x => rfl
  have hw1 : IntKind.i64.wrap ((i : Int) + 1) = (i : Int) + 1 := by rw [IntKind.wrap_i64]; omega
  have hw2 : IntKind.i64.wrap ((n : Int) + 1) = (n : Int) + 1 := by rw [IntKind.wrap_i64]; omega
  have hw3 : IntKind.i64.wrap ((n : Int) + 1 - (i : Int)) = (n : Int) + 1 - (i : Int) := by rw [IntKind.wrap_i64]; omega
  have hb0 : (0 : Int) ≤ (i : Int) := by omega
  have hb1 : (0 : Int) ≤ (i : Int) + 1 := by omega
  have hin : (i : Int) ≤ (n : Int) := by omega
  have htn : ((i : Int) + 1).toNat = i + 1 := by omega
  have htn3 : ((i : Int)).toNat = i := by omega
  have hb3 : (i : Int) ≤ (n : Int) + 1 := by omega
  have hb5 : (i : Int) + 1 ≤ (n : Int) + 1 := by omega
  have hb6 : (i : Int) ≤ (c : Int) := by omega
  clear hkk hik hold hROW hG hN hNf hOb hOv hcs hvs hown hblk hdl h1v h1c hzc
  go_enter Try.func70, Try.ntmps70
  go_wp2_with (first
    | (at_builtin; refine Lib.wpList_append_run _ rfl _ _ _ _ rfl _ _ rfl rfl _ _ (hrz _) ?_)
    | (at_builtin; refine wpList_copy_runI _ rfl _ _ 24 24 rfl _ _ rfl rfl (hcpA _ hE1 hE2 _ _) ?_)
    | (at_builtin; refine wpList_copy_runI _ rfl _ _ 24 24 rfl _ _ rfl rfl (hcpB _ (fun _ => rfl) (fun _ => rfl) _ _ _) ?_))
  go_region_law_o (refine step_copy_runI rfl _ _ 24 24 rfl (.slice (some ⟨w.heap.size, (i + 1) * 2, none⟩) (n - i) (G - (i + 1))) (.slice (some ⟨g, i * 2, none⟩) (n - i) (c - i)) (by simp [Act.eval, Act.put]) (by simp [Act.eval, Act.put]) (hcpB _ hF1 hF2 3 (G - (i + 1)) (c - i)) ?_)
  go_wp2
  go_ret
  exact ⟨G, ROW, rfl, hGn, hGm, hRl, hRt, rfl⟩
theorem grown_drew {a b : World} {r : Option Nat} (h : a.grownBy b r) : a.grownBy b.drew r := grown_trans' h (grown_of_kept (Kept.drew (Kept.refl b)))
theorem grown_none {a b : World} {r : Option Nat} (h : a.grownBy b none) : a.grownBy b r := ⟨h.os, h.tape, h.output, h.size, fun k hk _ => h.block k hk (by simp)⟩
/-- slices.Insert of one reading into a row of its own. -/
theorem insert_any (base n i gv : Nat) (r0 r1 : Value) (s : Value) (zs : List Value) (w : World) (hbase : base ≤ w.heap.size) (hown : w.ownsRow base 28 2 s n zs) (hn : n ≤ 1048576) (hi : i ≤ n) (hgv : some gv ≠ s.ownBlock)
    (hblk : w.heap[gv]? = some (.cells #[r0, r1] 28 (0, 0))) (h1c : ∀ v ∈ zs, v.oneCell' = true) (h10 : r0.oneCell' = true) (h11 : r1.oneCell' = true) :
    Calls Try.prog 70 #[s, .int .i64 (i : Int), .slice (some ⟨gv, 0, none⟩) 1 1] w fun e w' =>
      ∃ u, e = .returned u ∧ w'.ownsRow base 28 2 u (n + 1) (zs.take (i * 2) ++ [r0, r1] ++ zs.drop (i * 2)) ∧ w.grownBy w' s.ownBlock := by
  have hzl := hown.1
  by_cases he : i = n
  · subst he
    refine (insert_end base i gv r0 r1 s zs w hbase hown hn hblk h10 h11).mono ?_
    rintro e w' ⟨u, rfl, h1, h2⟩
    refine ⟨u, rfl, ?_, h2⟩
    rw [List.take_of_length_le (by omega), List.drop_of_length_le (by omega), List.append_nil]
    exact h1
  have hin : i < n := by omega
  obtain ⟨A, c, rfl, hnc, hcm, hA⟩ := own_form hown
  obtain ⟨g, rfl, hg1, hg2⟩ := hA (by omega)
  have hne : gv ≠ g := fun e => hgv (by rw [e]; rfl)
  by_cases hroom : n + 1 ≤ c
  · refine (insert_shift base g n c i gv r0 r1 zs w hown hin hroom hcm hne hblk h1c h10 h11).mono ?_
    rintro e w' ⟨rfl, rfl⟩
    obtain ⟨js, hjs, hw⟩ := own_wide hown.drew hroom
    obtain ⟨a1, a2⟩ := own_setCells (zs.drop (i * 2)) ((i + 1) * 2) _ _ hw
    obtain ⟨b1, b2⟩ := own_setCells [r0, r1] (i * 2) _ _ a1
    refine ⟨_, rfl, ?_, grown_trans' (grown_trans' (grown_of_kept (Kept.drew (Kept.refl w))) a2) b2⟩
    have e1 : setL (setL (zs ++ js) ((i + 1) * 2) (zs.drop (i * 2))) (i * 2) [r0, r1] = zs.take (i * 2) ++ [r0, r1] ++ zs.drop (i * 2) := by
      have l1 : (zs.drop (i * 2)).length = n * 2 - i * 2 := by rw [List.length_drop, hzl]
      rw [setL_eq (zs.drop (i * 2)) _ _ (by rw [l1, List.length_append, hzl, hjs]; omega)]
      have d1 : (zs ++ js).drop ((i + 1) * 2 + (zs.drop (i * 2)).length) = [] := List.drop_of_length_le (by rw [l1, List.length_append, hzl, hjs]; omega)
      rw [d1, List.append_nil]
      have l2 : ((zs ++ js).take ((i + 1) * 2)).length = (i + 1) * 2 := by rw [List.length_take, List.length_append, hzl, hjs]; omega
      rw [setL_eq [r0, r1] _ _ (by rw [List.length_append, l2]; simp; omega)]
      have t1 : ((zs ++ js).take ((i + 1) * 2) ++ zs.drop (i * 2)).take (i * 2) = zs.take (i * 2) := by
        rw [List.take_append_of_le_length (by omega), List.take_take, Nat.min_eq_left (by omega), List.take_append_of_le_length (by omega)]
      have t2 : ((zs ++ js).take ((i + 1) * 2) ++ zs.drop (i * 2)).drop (i * 2 + [r0, r1].length) = zs.drop (i * 2) := by
        rw [show i * 2 + [r0, r1].length = ((zs ++ js).take ((i + 1) * 2)).length by rw [l2]; simp; omega, List.drop_left]
      rw [t1, t2]
    rw [← e1]
    exact b1
  · refine (insert_grow base g n c i gv r0 r1 zs w hown hn hin (by omega) hnc hblk h1c h10 h11).mono ?_
    rintro e w' ⟨G, ROW, rfl, hG1, hG2, hR, hRt, rfl⟩
    have hl : (n + 1) * 2 ≤ ROW.toList.length := by rw [Array.length_toList, hR]; omega
    have hnew : (w.alloc (.cells ROW 28)).drew.ownsRow base 28 2 (.slice (some ⟨w.heap.size, 0, none⟩) (n + 1) G) (n + 1) (ROW.toList.take ((n + 1) * 2)) :=
      World.ownsRow.drew ⟨by rw [List.length_take]; omega, .inr ⟨w.heap.size, G, ROW, rfl, hbase, heap_alloc_new w _, hG1, hG2, hR, rfl⟩⟩
    obtain ⟨a1, a2⟩ := own_setCells [r0, r1] (i * 2) _ _ hnew
    obtain ⟨b1, b2⟩ := own_setCells (zs.drop (i * 2)) ((i + 1) * 2) _ _ a1.drew
    have k1 : w.grownBy (w.alloc (.cells ROW 28)).drew (some w.heap.size) := grown_of_kept (Kept.drew (Kept.alloc (Kept.refl w) _))
    have k2 := grown_trans' (grown_drew (grown_trans' k1 a2)) b2
    refine ⟨_, rfl, ?_, ⟨k2.os, k2.tape, k2.output, k2.size, fun k hk _ => k2.block k hk (fun e => by injection e with e; omega)⟩⟩
    have e1 : setL (setL (ROW.toList.take ((n + 1) * 2)) (i * 2) [r0, r1]) ((i + 1) * 2) (zs.drop (i * 2)) = zs.take (i * 2) ++ [r0, r1] ++ zs.drop (i * 2) := by
      have l1 : (zs.drop (i * 2)).length = n * 2 - i * 2 := by rw [List.length_drop, hzl]
      have l3 : (ROW.toList.take ((n + 1) * 2)).length = (n + 1) * 2 := by rw [List.length_take]; omega
      rw [setL_eq [r0, r1] _ _ (by rw [l3]; simp; omega)]
      have t0 : (ROW.toList.take ((n + 1) * 2)).take (i * 2) = zs.take (i * 2) := by rw [List.take_take, Nat.min_eq_left (by omega)]; exact hRt
      rw [t0]
      have l4 : (zs.take (i * 2) ++ [r0, r1]).length = (i + 1) * 2 := by rw [List.length_append, List.length_take, hzl]; simp; omega
      have l5 : ((ROW.toList.take ((n + 1) * 2)).drop (i * 2 + [r0, r1].length)).length = n * 2 - i * 2 := by rw [List.length_drop, l3]; simp; omega
      generalize (ROW.toList.take ((n + 1) * 2)).drop (i * 2 + [r0, r1].length) = Y at l5
      generalize zs.take (i * 2) ++ [r0, r1] = X at l4
      rw [setL_eq (zs.drop (i * 2)) _ _ (by rw [List.length_append, l4, l5, l1]; omega)]
      rw [List.drop_of_length_le (l := X ++ Y) (by rw [List.length_append, l4, l5, l1]; omega), List.append_nil, ← l4, List.take_left]
    rw [← e1]
    exact b1
end Go.Proofs.Ytopdnhlolfehcaa
