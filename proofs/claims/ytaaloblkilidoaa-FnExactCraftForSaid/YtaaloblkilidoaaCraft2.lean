/-
  Lists of craft: how they lie in memory, copied, compared, measured; AreCraft.
  Conditions: none.
-/
import Derived.Test.YtaaloblkilidoaaCraft
import Derived.Test.YtaaloblkilidoaaOpen
namespace Go.Proofs.Ytaaloblkilidoaa
open Go.ChangeShapes Go.WideShapes Go.ChangeAt Go.RowKit Go.Joins Go.Deep
set_option linter.unusedVariables false

/-- A craft. -/
structure Cz where
  id : Int
  nm : ByteArray
  dr : Int
  ah : Int
  be : Int
  sp : Int
  fu : Int
def Cz0 : Cz := ⟨0, ByteArray.empty, 0, 0, 0, 0, 0⟩
def craftC (c : Cz) : List Value := [.int .i64 c.id, .string c.nm, .int .i64 c.dr, .int .i64 c.ah, .int .i64 c.be, .int .i64 c.sp, .int .i64 c.fu]
def CZ (cs : List Cz) (i : Nat) : Cz := cs.getD i Cz0
theorem CZ_at {cs : List Cz} {i : Nat} (h : i < cs.length) : CZ cs i = cs[i] := by simp [CZ, List.getD_eq_getElem?_getD, h]
theorem crafts_own {w : World} {base : Nat} {e : TypeId} {v : Value} {cs : List Cz} (h : w.ownsRow base e 7 v cs.length (cs.flatMap craftC)) : Lies w 7 craftC v cs := Lies.of_own (g := craftC) (fun _ => rfl) h
/-- The seven cells of the i-th craft. -/
structure At7 (w : World) (b o : Nat) (c : Cz) : Prop where
  c0 : w.cell? ⟨b, o, none⟩ = some (.int .i64 c.id)
  c1 : w.cell? ⟨b, o + 1, none⟩ = some (.string c.nm)
  c2 : w.cell? ⟨b, o + 2, none⟩ = some (.int .i64 c.dr)
  c3 : w.cell? ⟨b, o + 3, none⟩ = some (.int .i64 c.ah)
  c4 : w.cell? ⟨b, o + 4, none⟩ = some (.int .i64 c.be)
  c5 : w.cell? ⟨b, o + 5, none⟩ = some (.int .i64 c.sp)
  c6 : w.cell? ⟨b, o + 6, none⟩ = some (.int .i64 c.fu)
theorem At7.kept {w w' : World} {b o : Nat} {c : Cz} (h : At7 w b o c) (k : Kept w w') : At7 w' b o c := ⟨k.keep h.c0, k.keep h.c1, k.keep h.c2, k.keep h.c3, k.keep h.c4, k.keep h.c5, k.keep h.c6⟩
theorem lies_crafts {w : World} {v : Value} {cs : List Cz} (h : Lies w 7 craftC v cs) : ∃ A c, v = .slice A cs.length c ∧ cs.length ≤ c ∧ c ≤ maxLen ∧ (0 < cs.length → ∃ b off, A = some ⟨b, off, none⟩ ∧ ∀ i, i < cs.length → At7 w b (off + i * 7) (CZ cs i)) := by
  obtain ⟨A, c, e, h1, h2, h3⟩ := h
  refine ⟨A, c, e, h1, h2, fun h0 => ?_⟩
  obtain ⟨b, off, ea, hc⟩ := h3 h0
  refine ⟨b, off, ea, fun i hi => ?_⟩
  rw [CZ_at hi]
  exact ⟨hc i hi 0 _ rfl, hc i hi 1 _ rfl, hc i hi 2 _ rfl, hc i hi 3 _ rfl, hc i hi 4 _ rfl, hc i hi 5 _ rfl, hc i hi 6 _ rfl⟩
/-- All names are of a possible size. -/
def Sized (cs : List Cz) : Prop := ∀ i, i < cs.length → (CZ cs i).nm.size ≤ maxLen
/-- A list of craft that came in. -/
theorem lies_crafts_arg {H : Type} {enc : TypeId × Value → H} {P : Program} {w : World} {base : Nat} {spare : Nat → Bool} {held : Bool} {r : Reach} {b0 : Nat} {t e : TypeId} {f0 f1 f2 f3 f4 f5 f6 : Field} {v : Value} {d : DataW H} {p : List MemPlace}
    (ht : P.underlying t = some (.slice e)) (he : P.underlying e = some (.struct #[f0, f1, f2, f3, f4, f5, f6])) (hone : oneCellFields P #[f0, f1, f2, f3, f4, f5, f6] = true) (hC : P.cellsOf e = 7) (h0 : P.underlying f0.type = some (.int .i64)) (h1 : P.underlying f1.type = some .string) (h2 : P.underlying f2.type = some (.int .i64)) (h3 : P.underlying f3.type = some (.int .i64)) (h4 : P.underlying f4.type = some (.int .i64)) (h5 : P.underlying f5.type = some (.int .i64)) (h6 : P.underlying f6.type = some (.int .i64))
    (hv : Value.okWide P w r b0 t v) (h : DataW.Trod enc P w base spare held t v d p) : ∃ cs : List Cz, Lies w 7 craftC v cs ∧ Sized cs := by
  obtain ⟨a0, len, cap, rfl⟩ := okWide_slice ht hv
  obtain ⟨fuel, hf⟩ := h
  rcases open_slice_fields ht he hone hC hf with ⟨hcs, -⟩ | ⟨a, len', cap', m, D, Pl, hcs, -, hl, hm, hmm, -, hx⟩
  · simp [Value.cells] at hcs
    obtain ⟨rfl, rfl, rfl⟩ := hcs
    exact ⟨[], Lies.nil _ _ _, fun i hi => absurd hi (by simp)⟩
  · simp [Value.cells] at hcs
    obtain ⟨rfl, rfl, rfl⟩ := hcs
    have hlm : len ≤ m := by rw [hmm]; split <;> omega
    have each : ∀ i, i < len → ∃ q : Cz, (∀ j u, (craftC q)[j]? = some u → w.cell? (a.add (i * 7 + j)) = some u) ∧ q.nm.size ≤ maxLen := by
      intro i hi
      obtain ⟨ys, n, -, -, -, hf⟩ := hx i (by omega)
      obtain ⟨v0, y0, c0, -, t0⟩ := hf 0 f0 rfl
      obtain ⟨v1, y1, c1, -, t1⟩ := hf 1 f1 rfl
      obtain ⟨v2, y2, c2, -, t2⟩ := hf 2 f2 rfl
      obtain ⟨v3, y3, c3, -, t3⟩ := hf 3 f3 rfl
      obtain ⟨v4, y4, c4, -, t4⟩ := hf 4 f4 rfl
      obtain ⟨v5, y5, c5, -, t5⟩ := hf 5 f5 rfl
      obtain ⟨v6, y6, c6, -, t6⟩ := hf 6 f6 rfl
      obtain ⟨x0, rfl⟩ := cell_int h0 t0
      obtain ⟨x1, rfl, hs⟩ := cell_string h1 t1
      obtain ⟨x2, rfl⟩ := cell_int h2 t2
      obtain ⟨x3, rfl⟩ := cell_int h3 t3
      obtain ⟨x4, rfl⟩ := cell_int h4 t4
      obtain ⟨x5, rfl⟩ := cell_int h5 t5
      obtain ⟨x6, rfl⟩ := cell_int h6 t6
      refine ⟨⟨x0, x1, x2, x3, x4, x5, x6⟩, fun j u hu => ?_, hs⟩
      match j, hu with
      | 0, hu => simp [craftC] at hu; rw [← hu]; exact c0
      | 1, hu => simp [craftC] at hu; rw [← hu]; exact c1
      | 2, hu => simp [craftC] at hu; rw [← hu]; exact c2
      | 3, hu => simp [craftC] at hu; rw [← hu]; exact c3
      | 4, hu => simp [craftC] at hu; rw [← hu]; exact c4
      | 5, hu => simp [craftC] at hu; rw [← hu]; exact c5
      | 6, hu => simp [craftC] at hu; rw [← hu]; exact c6
      | j + 7, hu => simp [craftC] at hu
    obtain ⟨q, hq⟩ : ∃ q : Nat → Cz, ∀ i, i < len → (∀ j u, (craftC (q i))[j]? = some u → w.cell? (a.add (i * 7 + j)) = some u) ∧ (q i).nm.size ≤ maxLen := by
      refine ⟨fun i => if h : i < len then (each i h).choose else Cz0, fun i hi => ?_⟩
      simp only [hi, dite_true]
      exact (each i hi).choose_spec
    refine ⟨(List.range len).map q, ⟨some a, cap, by simp, by simpa using hl, hm, fun hn => ?_⟩, fun i hi => ?_⟩
    · simp at hn
      obtain ⟨b, off, spot⟩ := a
      have hspot : spot = none := by simpa [Addr.add] using World.cell?_spot ((hq 0 hn).1 0 _ rfl)
      subst hspot
      refine ⟨b, off, rfl, fun i hi j u hu => ?_⟩
      simp at hi
      have h2 := (hq i hi).1
      simp only [List.getElem_map, List.getElem_range] at hu
      have := h2 j u hu
      rw [Go.WideShapes.add_plain] at this
      simpa [Nat.add_assoc] using this
    · rw [CZ_at hi]
      simp at hi
      simpa using (hq i hi).2
/-- Rows of cells that are all known. -/
theorem flat_all {α : Type} {g : α → List Value} {size : Nat} (hs : ∀ y, (g y).length = size) : ∀ (xs : List α) (ys : List Value), ys.length = xs.length * size → (∀ i (h : i < xs.length) j u, (g xs[i])[j]? = some u → ys[i * size + j]? = some u) → ys = xs.flatMap g
  | [], ys, hl, _ => by simpa using hl
  | x :: xs, ys, hl, h => by
    have hl' : ys.length = xs.length * size + size := by rw [hl, List.length_cons, Nat.succ_mul]
    have h1 : ys.take size = g x := by
      apply List.ext_getElem?
      intro j
      by_cases hj : j < size
      · have hg : j < (g x).length := by rw [hs]; exact hj
        have h0 := h 0 (by simp) j (g x)[j] (by simp [hg])
        rw [List.getElem?_take_of_lt hj, List.getElem?_eq_getElem hg]
        simpa using h0
      · rw [List.getElem?_eq_none (by rw [List.length_take]; omega), List.getElem?_eq_none (by rw [hs]; omega)]
    have h2 : ys.drop size = xs.flatMap g := flat_all hs xs (ys.drop size) (by rw [List.length_drop, hl']; omega) (fun i hi j u hu => by
      have := h (i + 1) (by simpa using hi) j u (by simpa using hu)
      rw [List.getElem?_drop]
      rw [← this]
      congr 1
      rw [Nat.succ_mul]
      omega)
    rw [List.flatMap_cons, ← h1, ← h2, List.take_append_drop]
/-- The first k rows of seven cells are laid. -/
def Filled (cs : List Cz) (ys : List Value) (k : Nat) : Prop := ∀ i, i < k → ∀ j u, (craftC (CZ cs i))[j]? = some u → ys[i * 7 + j]? = some u
theorem filled_set {cs : List Cz} {ys : List Value} {k : Nat} (hk : k < cs.length) (hl : ys.length = cs.length * 7) (h : Filled cs ys k) :
    Filled cs (((((((ys.set (k * 7) (.int .i64 (CZ cs k).id)).set (k * 7 + 1) (.string (CZ cs k).nm)).set (k * 7 + 2) (.int .i64 (CZ cs k).dr)).set (k * 7 + 3) (.int .i64 (CZ cs k).ah)).set (k * 7 + 4) (.int .i64 (CZ cs k).be)).set (k * 7 + 5) (.int .i64 (CZ cs k).sp)).set (k * 7 + 6) (.int .i64 (CZ cs k).fu)) (k + 1) := by
  intro i hi j u hu
  have hj : j < 7 := (List.getElem?_eq_some_iff.1 hu).1
  by_cases e : i = k
  · subst e
    match j, hu with
    | 0, hu =>
      simp [craftC] at hu
      subst hu
      show _[i * 7]? = _
      repeat (first | rw [List.getElem?_set_ne (by omega)] | rw [List.getElem?_set_self (by (try simp only [List.length_set]); omega)])
    | 1, hu | 2, hu | 3, hu | 4, hu | 5, hu | 6, hu =>
      simp [craftC] at hu
      subst hu
      repeat (first | rw [List.getElem?_set_ne (by omega)] | rw [List.getElem?_set_self (by (try simp only [List.length_set]); omega)])
    | j + 7, _ => omega
  · have h0 := h i (by omega) j u hu
    rw [← h0]
    repeat rw [List.getElem?_set_ne (by omega)]
theorem filled_all {cs : List Cz} {ys : List Value} (hl : ys.length = cs.length * 7) (h : Filled cs ys cs.length) : ys = cs.flatMap craftC :=
  flat_all (g := craftC) (size := 7) (fun _ => rfl) cs ys hl (fun i hi j u hu => h i hi j u (by rw [CZ_at hi]; exact hu))
theorem szCraft_left (id : Int) (nm : ByteArray) (dr ah be sp fu l : Int) (hs : nm.size ≤ maxLen) (h0 : 0 ≤ l) (h1 : l ≤ 1048576) (w : World) : Calls Try.prog 10 #[.agg #[.int .i64 id, .string nm, .int .i64 dr, .int .i64 ah, .int .i64 be, .int .i64 sp, .int .i64 fu], .int .i64 l] w fun e w' => ∃ r : Int, e = .returned (.int .i64 r) ∧ -1 ≤ r ∧ r ≤ l ∧ Kept w w' := by
  unfold maxLen at hs
  by_cases h : (nm.size : Int) ≤ l
  · go_enter Try.func10, Try.ntmps10
    go_wp2
    go_ret
    exact ⟨_, rfl, by omega, by omega, by (repeat (first | exact Kept.refl _ | assumption | refine Kept.alloc ?_ _ | refine Kept.drew ?_ | refine Kept.drewN ?_ _ | refine Kept.setCell ?_ (by first | (simp; done) | (simp; omega) | omega | exact Kept.size (by (repeat (first | exact Kept.refl _ | assumption | refine Kept.alloc ?_ _ | refine Kept.drew ?_ | refine Kept.drewN ?_ _ | refine Kept.trans ?_ (by assumption))))) _ | refine Kept.trans ?_ (by assumption)))⟩
  · go_enter Try.func10, Try.ntmps10
    go_wp2
    go_ret
    exact ⟨_, rfl, by omega, by omega, by (repeat (first | exact Kept.refl _ | assumption | refine Kept.alloc ?_ _ | refine Kept.drew ?_ | refine Kept.drewN ?_ _ | refine Kept.setCell ?_ (by first | (simp; done) | (simp; omega) | omega | exact Kept.size (by (repeat (first | exact Kept.refl _ | assumption | refine Kept.alloc ?_ _ | refine Kept.drew ?_ | refine Kept.drewN ?_ _ | refine Kept.trans ?_ (by assumption))))) _ | refine Kept.trans ?_ (by assumption)))⟩
theorem szCraftS_any (v : Value) (cs : List Cz) (w : World) (hL : Lies w 7 craftC v cs) (hz : Sized cs) : Calls Try.prog 20 #[v, .int .i64 1048576] w fun e w' => ∃ r : Int, e = .returned (.int .i64 r) ∧ (0 ≤ r → cs.length ≤ 1048576) ∧ Kept w w' := by
  have hm := hL.len
  unfold maxLen at hm
  obtain ⟨A, c, rfl, hlc, hcm, hA⟩ := lies_crafts hL
  clear hL
  by_cases hn : cs.length ≤ 1048576
  · go_enter Try.func20, Try.ntmps20
    go_wp2
    go_loopw [1, 5] (fun l i wr => ∃ (k : Nat) (x : Int), k ≤ cs.length ∧ i = .int .i64 k ∧ l = .int .i64 x ∧ 0 ≤ x ∧ x ≤ 1048576 ∧ Kept w wr) (fun _ i _ => cs.length - (intOf i).toNat)
    case atStart => exact ⟨0, _, by omega, rfl, rfl, by omega, by omega, Kept.refl _⟩
    case round =>
      obtain ⟨k, x, hk, rfl, rfl, x0, x1, hkw⟩ := hrel
      by_cases hlt : k < cs.length
      · obtain ⟨b, off, rfl, hc⟩ := hA (by omega)
        obtain ⟨c0, c1, c2, c3, c4, c5, c6⟩ := (hc k hlt).kept hkw
        have hs := hz k hlt
        clear hc hA hz
        go_wp2_with (go_at_call 10; refine (szCraft_left _ _ _ _ _ _ _ _ hs x0 x1 _).mono ?_; rintro e w1 ⟨r, rfl, r0, r1, hk1⟩)
        · go_ret
          exact ⟨_, rfl, fun h => absurd h (by omega), by (repeat (first | exact Kept.refl _ | assumption | refine Kept.alloc ?_ _ | refine Kept.drew ?_ | refine Kept.drewN ?_ _ | refine Kept.setCell ?_ (by first | (simp; done) | (simp; omega) | omega | exact Kept.size (by (repeat (first | exact Kept.refl _ | assumption | refine Kept.alloc ?_ _ | refine Kept.drew ?_ | refine Kept.drewN ?_ _ | refine Kept.trans ?_ (by assumption))))) _ | refine Kept.trans ?_ (by assumption)))⟩
        · go_roundw
          case rel => exact ⟨k + 1, r, by omega, by go_num, rfl, by omega, by omega, by (repeat (first | exact Kept.refl _ | assumption | refine Kept.alloc ?_ _ | refine Kept.drew ?_ | refine Kept.drewN ?_ _ | refine Kept.setCell ?_ (by first | (simp; done) | (simp; omega) | omega | exact Kept.size (by (repeat (first | exact Kept.refl _ | assumption | refine Kept.alloc ?_ _ | refine Kept.drew ?_ | refine Kept.drewN ?_ _ | refine Kept.trans ?_ (by assumption))))) _ | refine Kept.trans ?_ (by assumption)))⟩
          case measure => simp [intOf]; omega
      · go_wp2
        go_ret
        exact ⟨_, rfl, fun _ => hn, by (repeat (first | exact Kept.refl _ | assumption | refine Kept.alloc ?_ _ | refine Kept.drew ?_ | refine Kept.drewN ?_ _ | refine Kept.setCell ?_ (by first | (simp; done) | (simp; omega) | omega | exact Kept.size (by (repeat (first | exact Kept.refl _ | assumption | refine Kept.alloc ?_ _ | refine Kept.drew ?_ | refine Kept.drewN ?_ _ | refine Kept.trans ?_ (by assumption))))) _ | refine Kept.trans ?_ (by assumption)))⟩
  · clear hA
    go_enter Try.func20, Try.ntmps20
    go_wp2
    go_ret
    exact ⟨_, rfl, fun h => absurd h (by omega), by (repeat (first | exact Kept.refl _ | assumption | refine Kept.alloc ?_ _ | refine Kept.drew ?_ | refine Kept.drewN ?_ _ | refine Kept.setCell ?_ (by first | (simp; done) | (simp; omega) | omega | exact Kept.size (by (repeat (first | exact Kept.refl _ | assumption | refine Kept.alloc ?_ _ | refine Kept.drew ?_ | refine Kept.drewN ?_ _ | refine Kept.trans ?_ (by assumption))))) _ | refine Kept.trans ?_ (by assumption)))⟩
theorem infoCraft : (Try.prog.info? 26).map (fun i => (i.zero, i.size, i.bytes)) = some (some (.agg #[.int .i64 0, .string ByteArray.empty, .int .i64 0, .int .i64 0, .int .i64 0, .int .i64 0, .int .i64 0]), 7, 64) := by kernel_rfl
theorem toCraftS_any (v : Value) (cs : List Cz) (w : World) (hL : Lies w 7 craftC v cs) (hn : cs.length ≤ 1048576) : Calls Try.prog 22 #[v] w fun e w' => ∃ u, e = .returned u ∧ w'.ownsRow w.heap.size 26 7 u cs.length (cs.flatMap craftC) ∧ Kept w w' := by
  obtain ⟨A, c, rfl, hlc, hcm, hA⟩ := lies_crafts hL
  clear hL
  obtain ⟨i0, hi0, hz0, hz1, hz2⟩ := info_parts infoCraft
  have hmk := fun W => run_make_rowN (P := Try.prog) 38 26 i0 _ Try.underlying38 hi0 hz0 .i64 .i64 cs.length cs.length (Nat.le_refl _) (by rw [hz2]; omega) (by omega) W
  rw [hz1] at hmk
  go_enter Try.func22, Try.ntmps22
  go_wp2
  go_loopw [4] (fun i wr => ∃ k : Nat, k ≤ cs.length ∧ i = .int .i64 k ∧ Kept w wr ∧ ∃ ys, wr.ownsRow w.heap.size 26 7 (.slice (some ⟨w.heap.size, 0, none⟩) cs.length cs.length) cs.length ys ∧ Filled cs ys k) (fun i _ => cs.length - (intOf i).toNat)
  case atStart => exact ⟨0, Nat.zero_le _, rfl, (Kept.refl _).alloc _, _, World.ownsRow_lit w _ _ (Nat.le_refl _) (by omega) (by simp [size_madeCells]), fun i h => absurd h (by omega)⟩
  case round =>
    clear hmk
    obtain ⟨k, hk, rfl, hkw, ys, hown, hys⟩ := hrel
    have HY := Lib.hid hys
    have HO := Lib.hid hown
    have HK := Lib.hid hkw
    clear hys hown hkw
    by_cases hlt : k < cs.length
    · obtain ⟨b, off, rfl, hc⟩ := hA (by omega)
      obtain ⟨c0, c1, c2, c3, c4, c5, c6⟩ := (hc k hlt).kept HK.out
      clear hc hA
      go_wp2_with (go_at_call 12; refine (toCraft_any _ _ _ _ _ _ _ _).mono ?_; rintro e w1 ⟨rfl, hk1⟩; have HO1 := Lib.hid (own_kept HO.out hk1); obtain ⟨u0, -, d0, f0⟩ := own_cell HO1.out (j := k * 7) (by omega); obtain ⟨u1, -, d1, f1⟩ := own_cell HO1.out (j := k * 7 + 1) (by omega); obtain ⟨u2, -, d2, f2⟩ := own_cell HO1.out (j := k * 7 + 2) (by omega); obtain ⟨u3, -, d3, f3⟩ := own_cell HO1.out (j := k * 7 + 3) (by omega); obtain ⟨u4, -, d4, f4⟩ := own_cell HO1.out (j := k * 7 + 4) (by omega); obtain ⟨u5, -, d5, f5⟩ := own_cell HO1.out (j := k * 7 + 5) (by omega); obtain ⟨u6, -, d6, f6⟩ := own_cell HO1.out (j := k * 7 + 6) (by omega))
      go_roundw
      case rel =>
        refine ⟨k + 1, by omega, by go_num, ?_, _, ((((((HO1.out.stored (k * 7) _).1.stored (k * 7 + 1) _).1.stored (k * 7 + 2) _).1.stored (k * 7 + 3) _).1.stored (k * 7 + 4) _).1.stored (k * 7 + 5) _).1.stored (k * 7 + 6) _ |>.1, filled_set hlt HO.out.1 HY.out⟩
        exact (((((((HK.out.trans hk1).setCell (by simp) _).setCell (by simp) _).setCell (by simp) _).setCell (by simp) _).setCell (by simp) _).setCell (by simp) _).setCell (by simp) _
      case measure => simp [intOf]; omega
    · have e : k = cs.length := by omega
      have HF := Lib.hid (filled_all HO.out.1 (by rw [← e]; exact HY.out))
      clear e hA
      go_wp2
      go_ret
      exact ⟨_, rfl, by rw [← HF.out]; exact HO.out, HK.out⟩
theorem eqCraft_any (id : Int) (nm : ByteArray) (dr ah be sp fu : Int) (w : World) : Calls Try.prog 43 #[.agg #[.int .i64 id, .string nm, .int .i64 dr, .int .i64 ah, .int .i64 be, .int .i64 sp, .int .i64 fu], .agg #[.int .i64 id, .string nm, .int .i64 dr, .int .i64 ah, .int .i64 be, .int .i64 sp, .int .i64 fu]] w fun e w' => e = .returned (.bool true) ∧ Kept w w' := by
  go_enter Try.func43, Try.ntmps43
  go_wp2
  go_ret
  exact ⟨rfl, by (repeat (first | exact Kept.refl _ | assumption | refine Kept.alloc ?_ _ | refine Kept.drew ?_ | refine Kept.drewN ?_ _ | refine Kept.setCell ?_ (by first | (simp; done) | (simp; omega) | omega | exact Kept.size (by (repeat (first | exact Kept.refl _ | assumption | refine Kept.alloc ?_ _ | refine Kept.drew ?_ | refine Kept.drewN ?_ _ | refine Kept.trans ?_ (by assumption))))) _ | refine Kept.trans ?_ (by assumption)))⟩
theorem eqCraftS_any (u v : Value) (cs : List Cz) (w : World) (hU : Lies w 7 craftC u cs) (hV : Lies w 7 craftC v cs) : Calls Try.prog 24 #[u, v] w fun e w' => e = .returned (.bool true) ∧ Kept w w' := by
  have hm := hU.len
  unfold maxLen at hm
  obtain ⟨A, c, rfl, hlc, hcm, hA⟩ := lies_crafts hU
  obtain ⟨A', c', rfl, hlc', hcm', hA'⟩ := lies_crafts hV
  clear hU hV
  go_enter Try.func24, Try.ntmps24
  go_wp2
  go_loopw [5] (fun i wr => ∃ k : Nat, k ≤ cs.length ∧ i = .int .i64 k ∧ Kept w wr) (fun i _ => cs.length - (intOf i).toNat)
  case atStart => exact ⟨0, Nat.zero_le _, rfl, Kept.refl _⟩
  case round =>
    obtain ⟨k, hk, rfl, hkw⟩ := hrel
    by_cases hlt : k < cs.length
    · obtain ⟨b, off, rfl, hc⟩ := hA (by omega)
      obtain ⟨b', off', rfl, hc'⟩ := hA' (by omega)
      obtain ⟨c0, c1, c2, c3, c4, c5, c6⟩ := (hc k hlt).kept hkw
      obtain ⟨d0, d1, d2, d3, d4, d5, d6⟩ := (hc' k hlt).kept hkw
      clear hc hc' hA hA'
      go_wp2_with fail
      have kf1_0 : ∀ w' : World, Root (wr) w' → w'.cell? ⟨b, off + k * 7, none⟩ = some (.int .i64 (CZ cs k).id) := fun w' h => h.keep (by first | assumption | exact (Kept.alloc (Kept.refl _) _).keep (by assumption) | (simp [go_sem]; done) | (simp [go_sem, *]; done))
      have kf1_1 : ∀ w' : World, Root (wr) w' → w'.cell? ⟨b, off + k * 7 + 1, none⟩ = some (.string (CZ cs k).nm) := fun w' h => h.keep (by first | assumption | exact (Kept.alloc (Kept.refl _) _).keep (by assumption) | (simp [go_sem]; done) | (simp [go_sem, *]; done))
      have kf1_2 : ∀ w' : World, Root (wr) w' → w'.cell? ⟨b, off + k * 7 + 2, none⟩ = some (.int .i64 (CZ cs k).dr) := fun w' h => h.keep (by first | assumption | exact (Kept.alloc (Kept.refl _) _).keep (by assumption) | (simp [go_sem]; done) | (simp [go_sem, *]; done))
      have kf1_3 : ∀ w' : World, Root (wr) w' → w'.cell? ⟨b, off + k * 7 + 3, none⟩ = some (.int .i64 (CZ cs k).ah) := fun w' h => h.keep (by first | assumption | exact (Kept.alloc (Kept.refl _) _).keep (by assumption) | (simp [go_sem]; done) | (simp [go_sem, *]; done))
      have kf1_4 : ∀ w' : World, Root (wr) w' → w'.cell? ⟨b, off + k * 7 + 4, none⟩ = some (.int .i64 (CZ cs k).be) := fun w' h => h.keep (by first | assumption | exact (Kept.alloc (Kept.refl _) _).keep (by assumption) | (simp [go_sem]; done) | (simp [go_sem, *]; done))
      have kf1_5 : ∀ w' : World, Root (wr) w' → w'.cell? ⟨b, off + k * 7 + 5, none⟩ = some (.int .i64 (CZ cs k).sp) := fun w' h => h.keep (by first | assumption | exact (Kept.alloc (Kept.refl _) _).keep (by assumption) | (simp [go_sem]; done) | (simp [go_sem, *]; done))
      have kf1_6 : ∀ w' : World, Root (wr) w' → w'.cell? ⟨b, off + k * 7 + 6, none⟩ = some (.int .i64 (CZ cs k).fu) := fun w' h => h.keep (by first | assumption | exact (Kept.alloc (Kept.refl _) _).keep (by assumption) | (simp [go_sem]; done) | (simp [go_sem, *]; done))
      have kf1_7 : ∀ w' : World, Root (wr) w' → w'.cell? ⟨b', off' + k * 7, none⟩ = some (.int .i64 (CZ cs k).id) := fun w' h => h.keep (by first | assumption | exact (Kept.alloc (Kept.refl _) _).keep (by assumption) | (simp [go_sem]; done) | (simp [go_sem, *]; done))
      have kf1_8 : ∀ w' : World, Root (wr) w' → w'.cell? ⟨b', off' + k * 7 + 1, none⟩ = some (.string (CZ cs k).nm) := fun w' h => h.keep (by first | assumption | exact (Kept.alloc (Kept.refl _) _).keep (by assumption) | (simp [go_sem]; done) | (simp [go_sem, *]; done))
      have kf1_9 : ∀ w' : World, Root (wr) w' → w'.cell? ⟨b', off' + k * 7 + 2, none⟩ = some (.int .i64 (CZ cs k).dr) := fun w' h => h.keep (by first | assumption | exact (Kept.alloc (Kept.refl _) _).keep (by assumption) | (simp [go_sem]; done) | (simp [go_sem, *]; done))
      have kf1_10 : ∀ w' : World, Root (wr) w' → w'.cell? ⟨b', off' + k * 7 + 3, none⟩ = some (.int .i64 (CZ cs k).ah) := fun w' h => h.keep (by first | assumption | exact (Kept.alloc (Kept.refl _) _).keep (by assumption) | (simp [go_sem]; done) | (simp [go_sem, *]; done))
      have kf1_11 : ∀ w' : World, Root (wr) w' → w'.cell? ⟨b', off' + k * 7 + 4, none⟩ = some (.int .i64 (CZ cs k).be) := fun w' h => h.keep (by first | assumption | exact (Kept.alloc (Kept.refl _) _).keep (by assumption) | (simp [go_sem]; done) | (simp [go_sem, *]; done))
      have kf1_12 : ∀ w' : World, Root (wr) w' → w'.cell? ⟨b', off' + k * 7 + 5, none⟩ = some (.int .i64 (CZ cs k).sp) := fun w' h => h.keep (by first | assumption | exact (Kept.alloc (Kept.refl _) _).keep (by assumption) | (simp [go_sem]; done) | (simp [go_sem, *]; done))
      have kf1_13 : ∀ w' : World, Root (wr) w' → w'.cell? ⟨b', off' + k * 7 + 6, none⟩ = some (.int .i64 (CZ cs k).fu) := fun w' h => h.keep (by first | assumption | exact (Kept.alloc (Kept.refl _) _).keep (by assumption) | (simp [go_sem]; done) | (simp [go_sem, *]; done))
      go_region_held3 (fun w' => Root (wr) w')
        (first | assumption | exact Root.trans (by assumption) hk | exact Root.drew (Root.refl _) | (repeat (first | exact Root.refl _ | assumption | refine Root.alloc ?_ _ | refine Root.drew ?_ | refine Root.setCell ?_ (by first | (simp; done) | (simp; omega) | omega | exact Root.size (by assumption)) _ | refine Root.trans ?_ (by assumption))))
        (first | (go_at_call 43; refine (eqCraft_any _ _ _ _ _ _ _ _).mono ?_; rintro e w1 ⟨rfl, hk⟩; (have hkr := Root.trans (by assumption) hk); (first | (have hkf := From.step (by assumption) hk; obtain ⟨hc, hf⟩ := hkf.cells) | (have hkf := From.start hk; obtain ⟨hc, hf⟩ := hkf.cells))))
      go_wp2
      go_roundw
      case rel => exact ⟨k + 1, by omega, by go_num, by (repeat (first | exact Kept.refl _ | assumption | refine Kept.alloc ?_ _ | refine Kept.drew ?_ | refine Kept.drewN ?_ _ | refine Kept.setCell ?_ (by first | (simp; done) | (simp; omega) | omega | exact Kept.size (by (repeat (first | exact Kept.refl _ | assumption | refine Kept.alloc ?_ _ | refine Kept.drew ?_ | refine Kept.drewN ?_ _ | refine Kept.trans ?_ (by assumption))))) _ | refine Kept.trans ?_ (by assumption)))⟩
      case measure => simp [intOf]; omega
    · go_wp2
      go_ret
      exact ⟨rfl, by (repeat (first | exact Kept.refl _ | assumption | refine Kept.alloc ?_ _ | refine Kept.drew ?_ | refine Kept.drewN ?_ _ | refine Kept.setCell ?_ (by first | (simp; done) | (simp; omega) | omega | exact Kept.size (by (repeat (first | exact Kept.refl _ | assumption | refine Kept.alloc ?_ _ | refine Kept.drew ?_ | refine Kept.drewN ?_ _ | refine Kept.trans ?_ (by assumption))))) _ | refine Kept.trans ?_ (by assumption)))⟩
end Go.Proofs.Ytaaloblkilidoaa
