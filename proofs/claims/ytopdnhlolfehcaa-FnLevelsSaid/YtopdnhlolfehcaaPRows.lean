/-
  Slices of rows of two numbers: compared, marked, and looked at whether the marks are held.
  Conditions: none.
-/
import Derived.Test.YtopdnhlolfehcaaMark
namespace Go.Proofs.Ytopdnhlolfehcaa
open Go.ChangeShapes Go.WideShapes Go.ChangeAt Go.RowKit
set_option linter.unusedVariables false
set_option linter.unusedSimpArgs false

def rowV (b : Nat) : Value := .slice (some ⟨b, 0, none⟩) 2 2
/-- The slice u has rows of two values each, in the blocks bs, of the call's own. -/
structure PRows (w : World) (B : Nat) (E I : TypeId) (u : Value) (bs : List Nat) (ps : List (Value × Value)) : Prop where
  len : bs.length = ps.length
  out : w.ownsRow B E 1 u ps.length (bs.map rowV)
  nd : bs.Nodup
  row : ∀ (i b : Nat) (p : Value × Value), bs[i]? = some b → ps[i]? = some p → B ≤ b ∧ u.ownBlock ≠ some b ∧ w.heap[b]? = some (.cells #[p.1, p.2] I (0, 0))
theorem lt_of_heap {w : World} {b : Nat} {o : Obj} (h : w.heap[b]? = some o) : b < w.heap.size := (Array.getElem?_eq_some_iff.1 h).1
section
variable {w w' : World} {B : Nat} {E I : TypeId} {u v : Value} {bs : List Nat} {ps : List (Value × Value)}
theorem PRows.kept (h : PRows w B E I u bs ps) (k : Kept w w') : PRows w' B E I u bs ps :=
  ⟨h.len, own_kept h.out k, h.nd, fun i b p hb hp => let ⟨h1, h2, h3⟩ := h.row i b p hb hp; ⟨h1, h2, (Below.block k b (lt_of_heap h3)).trans h3⟩⟩
theorem PRows.grown {r : Option Nat} (h : PRows w B E I u bs ps) (k : w.grownBy w' r) (hr : ∀ g, r = some g → g < B) : PRows w' B E I u bs ps := by
  refine ⟨h.len, h.out.kept k ?_, h.nd, fun i b p hb hp => ?_⟩
  · cases hu : u.ownBlock with
    | none => exact .inl rfl
    | some g =>
      right
      intro e
      have := (h.out.lt g hu).1
      have := hr g e.symm
      omega
  · obtain ⟨h1, h2, h3⟩ := h.row i b p hb hp
    refine ⟨h1, h2, (k.block b (lt_of_heap h3) ?_).trans h3⟩
    intro e
    have := hr b e.symm
    omega
theorem PRows.nil (w : World) (B : Nat) (E I : TypeId) {u : Value} (h : w.ownsRow B E 1 u 0 []) : PRows w B E I u [] [] := ⟨rfl, h, List.nodup_nil, fun i b p hb => by simp at hb⟩
theorem PRows.push {W2 : World} {x y : Value} (h : PRows w B E I u bs ps) (hB : B ≤ w.heap.size) (hk : Kept w W2) (hn : W2.heap[w.heap.size]? = some (.cells #[x, y] I (0, 0)))
    (hown : w'.ownsRow B E 1 v (ps.length + 1) (bs.map rowV ++ [rowV w.heap.size])) (hg : W2.grownBy w' u.ownBlock) (hb : v.ownBlock = u.ownBlock ∨ ∃ k, v.ownBlock = some k ∧ w.heap.size < k) :
    PRows w' B E I v (bs ++ [w.heap.size]) (ps ++ [(x, y)]) := by
  have hlt : ∀ b ∈ bs, b < w.heap.size := by
    intro b hb
    obtain ⟨i, hi, rfl⟩ := List.getElem_of_mem hb
    have hi' : i < ps.length := by rw [← h.len]; exact hi
    exact lt_of_heap (h.row i _ _ (List.getElem?_eq_getElem hi) (List.getElem?_eq_getElem hi')).2.2
  have hul : ∀ g, u.ownBlock = some g → g < w.heap.size := fun g e => (h.out.lt g e).2
  refine ⟨by simp [h.len], by simpa using hown, ?_, ?_⟩
  · rw [List.nodup_append]
    refine ⟨h.nd, by simp, ?_⟩
    intro a ha b hb
    simp at hb
    subst hb
    have := hlt a ha
    omega
  · intro i b p hbi hpi
    by_cases hi : i < bs.length
    · rw [List.getElem?_append_left hi] at hbi
      rw [List.getElem?_append_left (by rw [← h.len]; exact hi)] at hpi
      obtain ⟨h1, h2, h3⟩ := h.row i b p hbi hpi
      have hbl := lt_of_heap h3
      refine ⟨h1, ?_, ?_⟩
      · rcases hb with e | ⟨k, e, hk⟩
        · rw [e]; exact h2
        · rw [e]; intro e'; injection e' with e'; omega
      · have := (Below.block hk b hbl).trans h3
        exact (hg.block b (lt_of_heap this) (fun e => h2 e.symm)).trans this
    · have hl := h.len
      have hi2 : i = bs.length := by
        have := (List.getElem?_eq_some_iff.1 hbi).1
        simp at this
        omega
      subst hi2
      rw [List.getElem?_append_right (by omega)] at hbi
      rw [List.getElem?_append_right (by omega)] at hpi
      simp [hl] at hbi hpi
      subst hbi hpi
      refine ⟨hB, ?_, ?_⟩
      · rcases hb with e | ⟨k, e, hk⟩
        · rw [e]; intro e'; have := hul _ e'; omega
        · rw [e]; intro e'; injection e' with e'; omega
      · exact (hg.block _ (lt_of_heap hn) (fun e => by have := hul _ e.symm; omega)).trans hn
/-- One row as a slice of the call's own. -/
theorem PRows.at (h : PRows w B E I u bs ps) {i b : Nat} {p : Value × Value} (hb : bs[i]? = some b) (hp : ps[i]? = some p) : w.ownsRow B I 1 (rowV b) 2 [p.1, p.2] := by
  obtain ⟨h1, h2, h3⟩ := h.row i b p hb hp
  exact ⟨rfl, .inr ⟨b, 2, _, rfl, h1, h3, Nat.le_refl _, by decide, rfl, rfl⟩⟩
/-- One row turned. -/
theorem PRows.set {p q : Value × Value} {i b : Nat} (h : PRows w B E I u bs ps) (hb : bs[i]? = some b) (hp : ps[i]? = some p) (hown : w'.ownsRow B I 1 (rowV b) 2 [q.1, q.2]) (hg : w.grownBy w' (some b)) : PRows w' B E I u bs (ps.set i q) := by
  have hbu := (h.row i b p hb hp).2.1
  refine ⟨by simp [h.len], by rw [List.length_set]; exact h.out.kept hg (.inr hbu), h.nd, fun j c r hc hr => ?_⟩
  by_cases e : j = i
  · subst e
    have hl := (List.getElem?_eq_some_iff.1 hp).1
    rw [List.getElem?_set_self hl] at hr
    rw [hb] at hc
    injection hc with hc
    injection hr with hr
    subst hc hr
    refine ⟨(h.row j b p hb hp).1, hbu, ?_⟩
    rcases hown.2 with ⟨e, _⟩ | ⟨g, cap, cur, e, hg', hh, hn, hm, hs, ht⟩
    · simp [rowV] at e
    · simp only [rowV, Value.slice.injEq, Option.some.injEq, Addr.mk.injEq] at e
      obtain ⟨⟨rfl, -, -⟩, -, rfl⟩ := e
      rw [hh]
      have : cur.toList = [q.1, q.2] := by
        rw [← ht, List.take_of_length_le]
        simp [hs]
      rw [show cur = #[q.1, q.2] from by apply Array.toList_inj.1; simpa using this]
  · rw [List.getElem?_set_ne (by omega)] at hr
    obtain ⟨h1, h2, h3⟩ := h.row j c r hc hr
    refine ⟨h1, h2, (hg.block c (lt_of_heap h3) ?_).trans h3⟩
    intro e'
    injection e' with e'
    subst e'
    have hi' := (List.getElem?_eq_some_iff.1 hb)
    have hj' := (List.getElem?_eq_some_iff.1 hc)
    obtain ⟨hi1, hi2⟩ := hi'
    obtain ⟨hj1, hj2⟩ := hj'
    have hpw := List.pairwise_iff_getElem.1 h.nd
    rcases Nat.lt_or_gt_of_ne e with hlt | hlt
    · exact hpw j i hj1 hi1 hlt (hj2.trans hi2.symm)
    · exact hpw i j hi1 hj1 hlt (hi2.trans hj2.symm)
theorem PRows.cell {k b : Nat} {A : Option Addr} {n c : Nat} (h : PRows w B E I (.slice A n c) bs ps) (hb : bs[k]? = some b) : ∃ g, A = some ⟨g, 0, none⟩ ∧ w.cell? ⟨g, k, none⟩ = some (rowV b) := by
  have hl : k < ps.length := by rw [← h.len]; exact (List.getElem?_eq_some_iff.1 hb).1
  obtain ⟨A', c', e, -, -, hA⟩ := own_form h.out
  injection e with e1 e2 e3
  subst e1 e2 e3
  obtain ⟨g, rfl, -, -⟩ := hA (by omega)
  refine ⟨g, rfl, ?_⟩
  rw [h.out.cellAt k (by omega)]
  simp [hb]
end
/-- Pairs of numbers as pairs of values. -/
def prs (L : List (Int × Int)) : List (Value × Value) := L.map fun p => (.int .i64 p.1, .int .i64 p.2)
theorem prs_len (L : List (Int × Int)) : (prs L).length = L.length := by simp [prs]
/-- The marks from 1 on, two a row. -/
def mkR (k : Nat) (ps : List (Value × Value)) : List (Value × Value) := (List.range k).map (fun i => (.int .i64 (1 + 2 * (i : Int)), .int .i64 (1 + 2 * (i : Int) + 1))) ++ ps.drop k
theorem mkR_zero (ps : List (Value × Value)) : mkR 0 ps = ps := by simp [mkR]
theorem mkR_len {k : Nat} {ps : List (Value × Value)} (h : k ≤ ps.length) : (mkR k ps).length = ps.length := by simp [mkR]; omega
theorem mkR_at {k : Nat} {ps : List (Value × Value)} : (mkR k ps)[k]? = ps[k]? := by
  unfold mkR
  rw [List.getElem?_append_right (by simp)]
  simp
theorem mkR_set {k : Nat} {ps : List (Value × Value)} (h : k < ps.length) : (mkR k ps).set k (.int .i64 (1 + 2 * (k : Int)), .int .i64 (1 + 2 * (k : Int) + 1)) = mkR (k + 1) ps := by
  unfold mkR
  rw [List.set_append_right _ _ (by simp), List.range_succ, List.map_append, List.append_assoc]
  congr 1
  rw [List.drop_eq_getElem_cons h]
  simp only [List.length_map, List.length_range, Nat.sub_self, List.set_cons_zero, List.map_cons, List.map_nil, List.cons_append, List.nil_append]
theorem mkR_lt {j n : Nat} {ps : List (Value × Value)} (h : j < n) : (mkR n ps)[j]? = some (.int .i64 (1 + 2 * (j : Int)), .int .i64 (1 + 2 * (j : Int) + 1)) := by
  unfold mkR
  rw [List.getElem?_append_left (by simpa using h)]
  simp [h]

theorem markInt2_any (B : Nat) (E : TypeId) (b : Nat) (x y : Value) (s : Int) (h0 : 0 ≤ s) (h1 : s ≤ 10000000) (w : World) (hu : w.ownsRow B E 1 (rowV b) 2 [x, y]) : Calls Try.prog 57 #[rowV b, .int .i64 s] w fun e w' => e = .returned (.int .i64 (s + 2)) ∧ w'.ownsRow B E 1 (rowV b) 2 [.int .i64 s, .int .i64 (s + 1)] ∧ w.grownBy w' (some b) := by
  unfold rowV at hu ⊢
  have HU := Lib.hid hu
  clear hu
  go_enter Try.func57, Try.ntmps57
  go_wp2
  go_loopw [1, 5] (fun kk i wr => ∃ k : Nat, k ≤ 2 ∧ i = .int .i64 k ∧ kk = .int .i64 (s + (k : Int)) ∧ w.grownBy wr (some b) ∧ ∃ ys, wr.ownsRow B E 1 (.slice (some ⟨b, 0, none⟩) 2 2) 2 ys ∧ (∀ j : Nat, j < k → ys[j]? = some (.int .i64 (s + (j : Int))))) (fun _ i _ => 2 - (intOf i).toNat)
  case atStart => exact ⟨0, Nat.zero_le _, rfl, by simp, World.grownBy.refl _ _, _, HU.out, fun j h => absurd h (by omega)⟩
  case round =>
    obtain ⟨k, hk, rfl, rfl, hgr, ys, hown, hys⟩ := hrel
    have HY := Lib.hid hys
    have HO := Lib.hid hown
    have HG := Lib.hid hgr
    clear hys hown hgr
    by_cases hlt : k < 2
    · obtain ⟨u0, -, d0, f0⟩ := own_cell HO.out (j := k) (by omega)
      go_wp2
      go_roundw
      case rel =>
        refine ⟨k + 1, by omega, by go_num, by go_num, grown_trans' HG.out (HO.out.stored k _).2, _, (HO.out.stored k _).1, ?_⟩
        intro j hj
        by_cases e : j = k
        · subst e
          rw [List.getElem?_set_self (by rw [HO.out.1]; omega)]
        · rw [List.getElem?_set_ne (by omega)]
          exact HY.out j (by omega)
      case measure => simp [intOf]; omega
    · have e : k = 2 := by omega
      subst e
      have HF := Lib.hid (show ys = [.int .i64 s, .int .i64 (s + 1)] by
        have hl := HO.out.1
        have y0 := HY.out 0 (by omega)
        have y1 := HY.out 1 (by omega)
        match ys, hl with
        | [a, b], _ => simp at y0 y1; rw [y0, y1])
      go_wp2
      go_ret
      exact ⟨by simp, by rw [← HF.out]; exact HO.out, HG.out⟩
theorem heldInt2_any (B : Nat) (E : TypeId) (b : Nat) (s : Int) (h0 : 0 ≤ s) (h1 : s ≤ 10000000) (w : World) (hu : w.ownsRow B E 1 (rowV b) 2 [.int .i64 s, .int .i64 (s + 1)]) : Calls Try.prog 58 #[rowV b, .int .i64 s] w fun e w' => e = .returned (.int .i64 (s + 2)) ∧ w = w' := by
  unfold rowV at hu ⊢
  have d0 := hu.cellAt 0 (by omega)
  have d1 := hu.cellAt 1 (by omega)
  simp only [List.getElem?_cons_zero, List.getElem?_cons_succ] at d0 d1
  clear hu
  go_enter Try.func58, Try.ntmps58
  go_wp2
  go_loop [1, 5] (fun kk i => ∃ k : Nat, k ≤ 2 ∧ i = .int .i64 k ∧ kk = .int .i64 (s + (k : Int))) (fun _ i => 2 - (intOf i).toNat)
  case atStart => exact ⟨0, Nat.zero_le _, rfl, by simp⟩
  case round =>
    obtain ⟨k, hk, rfl, rfl⟩ := hrel
    by_cases hlt : k < 2
    · have hc : w.cell? ⟨b, k, none⟩ = some (.int .i64 (s + (k : Int))) := by
        match k, hlt with
        | 0, _ => simpa using d0
        | 1, _ => simpa using d1
      clear d0 d1
      go_wp2
      go_round
      case rel => exact ⟨k + 1, by omega, by go_num, by go_num⟩
      case measure => simp [intOf]; omega
    · have e : k = 2 := by omega
      subst e
      go_wp2
      go_ret
      exact ⟨by simp, rfl⟩
theorem markIntSS_any (B : Nat) (E I : TypeId) (u : Value) (bs : List Nat) (ps : List (Value × Value)) (w : World) (hu : PRows w B E I u bs ps) (hn : ps.length ≤ 1000) : Calls Try.prog 50 #[u, .int .i64 1] w fun e w' => e = .returned (.int .i64 (1 + 2 * (ps.length : Int))) ∧ PRows w' B E I u bs (mkR ps.length ps) ∧ Below B w w' := by
  obtain ⟨A, c, rfl, hlc, hcm, hA⟩ := own_form hu.out
  have HU := Lib.hid hu
  have hbl := hu.len
  have HL := Lib.hid hbl
  clear hu hbl hA
  go_enter Try.func50, Try.ntmps50
  go_wp2
  go_loopw [1, 5] (fun kk i wr => ∃ k : Nat, k ≤ ps.length ∧ i = .int .i64 k ∧ kk = .int .i64 (1 + 2 * (k : Int)) ∧ Below B w wr ∧ PRows wr B E I (.slice A ps.length c) bs (mkR k ps)) (fun _ i _ => ps.length - (intOf i).toNat)
  case atStart => exact ⟨0, Nat.zero_le _, rfl, rfl, Below.refl _ _, by rw [mkR_zero]; exact HU.out⟩
  case round =>
    obtain ⟨k, hk, rfl, rfl, hgr, hown⟩ := hrel
    have HO := Lib.hid hown
    have HG := Lib.hid hgr
    clear hown hgr
    by_cases hlt : k < ps.length
    · obtain ⟨b, hb⟩ : ∃ b, bs[k]? = some b := ⟨bs[k]'(by rw [HL.out]; exact hlt), List.getElem?_eq_getElem _⟩
      have hp : (mkR k ps)[k]? = some ps[k] := by rw [mkR_at]; exact List.getElem?_eq_getElem hlt
      obtain ⟨g, rfl, d0⟩ := HO.out.cell hb
      have HB := Lib.hid hb
      have HP := Lib.hid hp
      have HR := Lib.hid (HO.out.at hb hp)
      clear hb hp
      go_wp2_with fail
      refine (markInt2_any B I b _ _ _ (by omega) (by omega) _ HR.out).mono ?_
      rintro e w1 ⟨rfl, ho1, hg1⟩
      have HS := Lib.hid (HO.out.set (q := (.int .i64 (1 + 2 * (k : Int)), .int .i64 (1 + 2 * (k : Int) + 1))) HB.out HP.out ho1 hg1)
      have HG1 := Lib.hid (show Below B w w1 from HG.out.trans (by
        have hbB := (HO.out.row k b _ HB.out HP.out).1
        exact ⟨hg1.os, hg1.tape, hg1.output, hg1.size, fun j hj => by
          by_cases hjl : j < wr.heap.size
          · exact hg1.block j hjl (by intro e; injection e with e; omega)
          · have := lt_of_heap (HO.out.row k b _ HB.out HP.out).2.2
            omega⟩))
      clear ho1 hg1
      go_wp2
      go_roundw
      case rel => exact ⟨k + 1, by omega, by go_num, by go_num, HG1.out, by rw [← mkR_set hlt]; exact HS.out⟩
      case measure => simp [intOf]; omega
    · have e : k = ps.length := by omega
      subst e
      go_wp2
      go_ret
      exact ⟨rfl, HO.out, HG.out⟩
theorem heldIntSS_any (B : Nat) (E I : TypeId) (u : Value) (bs : List Nat) (ps : List (Value × Value)) (n : Nat) (w : World) (hn0 : ps.length = n) (hu : PRows w B E I u bs (mkR n ps)) (hn : n ≤ 1000) : Calls Try.prog 51 #[u, .int .i64 1] w fun e w' => e = .returned (.int .i64 (1 + 2 * (n : Int))) ∧ w = w' := by
  obtain ⟨A, c, rfl, hlc, hcm, hA⟩ := own_form hu.out
  have hml : (mkR n ps).length = n := by rw [mkR_len (by omega)]; exact hn0
  have HU := Lib.hid hu
  have hbl : bs.length = n := hu.len.trans hml
  have HL := Lib.hid hbl
  clear hu hbl hA
  rw [hml]
  rw [hml] at hlc
  clear hml hn0
  go_enter Try.func51, Try.ntmps51
  go_wp2
  go_loop [1, 5] (fun kk i => ∃ k : Nat, k ≤ n ∧ i = .int .i64 k ∧ kk = .int .i64 (1 + 2 * (k : Int))) (fun _ i => n - (intOf i).toNat)
  case atStart => exact ⟨0, Nat.zero_le _, rfl, rfl⟩
  case round =>
    obtain ⟨k, hk, rfl, rfl⟩ := hrel
    by_cases hlt : k < n
    · obtain ⟨b, hb⟩ : ∃ b, bs[k]? = some b := ⟨bs[k]'(by rw [HL.out]; exact hlt), List.getElem?_eq_getElem _⟩
      obtain ⟨g, rfl, d0⟩ := HU.out.cell hb
      have HR := Lib.hid (HU.out.at hb (mkR_lt hlt))
      clear hb
      go_wp2_with fail
      refine (heldInt2_any B I b _ (by omega) (by omega) _ HR.out).mono ?_
      rintro e w1 ⟨rfl, rfl⟩
      go_wp2
      go_round
      case rel => exact ⟨k + 1, by omega, by go_num, by go_num⟩
      case measure => simp [intOf]; omega
    · have e : k = n := by omega
      subst e
      go_wp2
      go_ret
      exact ⟨rfl, rfl⟩
theorem lies_row {w : World} {B : Nat} {E I : TypeId} {u : Value} {bs : List Nat} {L : List (Int × Int)} {k b : Nat} {p : Int × Int} (h : PRows w B E I u bs (prs L)) (hb : bs[k]? = some b) (hp : L[k]? = some p) : Lies w 1 intC (rowV b) [p.1, p.2] := by
  have := h.at hb (p := (.int .i64 p.1, .int .i64 p.2)) (by simp [prs, hp])
  exact ints_own (xs := [p.1, p.2]) this
theorem eqIntSS_any (B B' : Nat) (E I E' I' : TypeId) (u v : Value) (bs bs' : List Nat) (L : List (Int × Int)) (w : World) (hU : PRows w B E I u bs (prs L)) (hV : PRows w B' E' I' v bs' (prs L)) : Calls Try.prog 49 #[u, v] w fun e w' => e = .returned (.bool true) ∧ Kept w w' := by
  obtain ⟨A, c, rfl, hlc, hcm, hA⟩ := own_form hU.out
  obtain ⟨A', c', rfl, hlc', hcm', hA'⟩ := own_form hV.out
  have HU := Lib.hid hU
  have HV := Lib.hid hV
  have HL := Lib.hid (hU.len.trans (prs_len L))
  have HL' := Lib.hid (hV.len.trans (prs_len L))
  rw [prs_len] at *
  unfold maxLen at hcm
  clear hU hV hA hA'
  go_enter Try.func49, Try.ntmps49
  go_wp2
  go_loopw [5] (fun i wr => ∃ k : Nat, k ≤ L.length ∧ i = .int .i64 k ∧ Kept w wr) (fun i _ => L.length - (intOf i).toNat)
  case atStart => exact ⟨0, Nat.zero_le _, rfl, Kept.refl _⟩
  case round =>
    obtain ⟨k, hk, rfl, hkw⟩ := hrel
    by_cases hlt : k < L.length
    · obtain ⟨b, hb⟩ : ∃ b, bs[k]? = some b := ⟨bs[k]'(by rw [HL.out]; exact hlt), List.getElem?_eq_getElem _⟩
      obtain ⟨b', hb'⟩ : ∃ b, bs'[k]? = some b := ⟨bs'[k]'(by rw [HL'.out]; exact hlt), List.getElem?_eq_getElem _⟩
      have hp : L[k]? = some L[k] := List.getElem?_eq_getElem hlt
      obtain ⟨g, rfl, d0⟩ := (HU.out.kept hkw).cell hb
      obtain ⟨g', rfl, d1⟩ := (HV.out.kept hkw).cell hb'
      have HR := Lib.hid (lies_row (HU.out.kept hkw) hb hp)
      have HR' := Lib.hid (lies_row (HV.out.kept hkw) hb' hp)
      clear hb hb' hp
      go_wp2_with fail
      have kf1_0 : ∀ w' : World, Root (wr) w' → w'.cell? ⟨g, k, none⟩ = some (rowV b) := fun w' h => h.keep (by first | assumption | exact (Kept.alloc (Kept.refl _) _).keep (by assumption) | (simp [go_sem]; done) | (simp [go_sem, *]; done))
      have kf1_1 : ∀ w' : World, Root (wr) w' → w'.cell? ⟨g', k, none⟩ = some (rowV b') := fun w' h => h.keep (by first | assumption | exact (Kept.alloc (Kept.refl _) _).keep (by assumption) | (simp [go_sem]; done) | (simp [go_sem, *]; done))
      go_region_held3 (fun w' => Root (wr) w')
        (first | assumption | exact Root.trans (by assumption) hk | exact Root.drew (Root.refl _) | (repeat (first | exact Root.refl _ | assumption | refine Root.alloc ?_ _ | refine Root.drew ?_ | refine Root.setCell ?_ (by first | (simp; done) | (simp; omega) | omega | exact Root.size (by assumption)) _ | refine Root.trans ?_ (by assumption))))
        (first | (go_at_call 55; refine (eqIntS_any _ _ _ _ (HR.out.kept (by (repeat (first | exact Kept.refl _ | assumption | refine Kept.alloc ?_ _ | refine Kept.drew ?_ | refine Kept.drewN ?_ _ | refine Kept.setCell ?_ (by first | (simp; done) | (simp; omega) | omega | exact Kept.size (by (repeat (first | exact Kept.refl _ | assumption | refine Kept.alloc ?_ _ | refine Kept.drew ?_ | refine Kept.drewN ?_ _ | refine Kept.trans ?_ (by assumption))))) _ | refine Kept.trans ?_ (by assumption))))) (HR'.out.kept (by (repeat (first | exact Kept.refl _ | assumption | refine Kept.alloc ?_ _ | refine Kept.drew ?_ | refine Kept.drewN ?_ _ | refine Kept.setCell ?_ (by first | (simp; done) | (simp; omega) | omega | exact Kept.size (by (repeat (first | exact Kept.refl _ | assumption | refine Kept.alloc ?_ _ | refine Kept.drew ?_ | refine Kept.drewN ?_ _ | refine Kept.trans ?_ (by assumption))))) _ | refine Kept.trans ?_ (by assumption)))))).mono ?_; rintro e w1 ⟨rfl, hk⟩; (have hkr := Root.trans (by assumption) hk); (first | (have hkf := From.step (by assumption) hk; obtain ⟨hc, hf⟩ := hkf.cells) | (have hkf := From.start hk; obtain ⟨hc, hf⟩ := hkf.cells))))
      go_wp2
      go_roundw
      case rel => exact ⟨k + 1, by omega, by go_num, by (repeat (first | exact Kept.refl _ | assumption | refine Kept.alloc ?_ _ | refine Kept.drew ?_ | refine Kept.drewN ?_ _ | refine Kept.setCell ?_ (by first | (simp; done) | (simp; omega) | omega | exact Kept.size (by (repeat (first | exact Kept.refl _ | assumption | refine Kept.alloc ?_ _ | refine Kept.drew ?_ | refine Kept.drewN ?_ _ | refine Kept.trans ?_ (by assumption))))) _ | refine Kept.trans ?_ (by assumption)))⟩
      case measure => simp [intOf]; omega
    · go_wp2
      go_ret
      exact ⟨rfl, by (repeat (first | exact Kept.refl _ | assumption | refine Kept.alloc ?_ _ | refine Kept.drew ?_ | refine Kept.drewN ?_ _ | refine Kept.setCell ?_ (by first | (simp; done) | (simp; omega) | omega | exact Kept.size (by (repeat (first | exact Kept.refl _ | assumption | refine Kept.alloc ?_ _ | refine Kept.drew ?_ | refine Kept.drewN ?_ _ | refine Kept.trans ?_ (by assumption))))) _ | refine Kept.trans ?_ (by assumption)))⟩
end Go.Proofs.Ytopdnhlolfehcaa
