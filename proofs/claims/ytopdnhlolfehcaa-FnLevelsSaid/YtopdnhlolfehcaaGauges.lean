/-
  Lists of gauges: how they lie in memory, copied, compared, measured.
  Conditions: none.
-/
import Derived.Test.YtopdnhlolfehcaaGauge
import Derived.Test.YtopdnhlolfehcaaOpen2
import Derived.Test.YtopdnhlolfehcaaFind
namespace Go.Proofs.Ytopdnhlolfehcaa
open Go.ChangeShapes Go.WideShapes Go.ChangeAt Go.RowKit Go.Joins Go.Deep
set_option linter.unusedVariables false
set_option linter.unusedSimpArgs false

/-- A gauge. -/
structure Gz where
  id : Int
  nm : ByteArray
  z : Int
  xs : List (Int × Int)
def Gz0 : Gz := ⟨0, ByteArray.empty, 0, []⟩
def GZ (gs : List Gz) (i : Nat) : Gz := gs.getD i Gz0
theorem GZ_at {gs : List Gz} {i : Nat} (h : i < gs.length) : GZ gs i = gs[i] := by simp [GZ, List.getD_eq_getElem?_getD, h]
/-- The four cells of a gauge. -/
structure AtG (w : World) (b o : Nat) (g : Gz) (v : Value) : Prop where
  c0 : w.cell? ⟨b, o, none⟩ = some (.int .i64 g.id)
  c1 : w.cell? ⟨b, o + 1, none⟩ = some (.string g.nm)
  c2 : w.cell? ⟨b, o + 2, none⟩ = some (.int .i64 g.z)
  c3 : w.cell? ⟨b, o + 3, none⟩ = some v
  ls : Lies w 2 pairC v g.xs
theorem AtG.kept {w w' : World} {b o : Nat} {g : Gz} {v : Value} (h : AtG w b o g v) (k : Kept w w') : AtG w' b o g v := ⟨k.keep h.c0, k.keep h.c1, k.keep h.c2, k.keep h.c3, h.ls.kept k⟩
/-- The slice value v holds the gauges gs. -/
def GLies (w : World) (v : Value) (gs : List Gz) : Prop := ∃ A c, v = .slice A gs.length c ∧ gs.length ≤ c ∧ c ≤ maxLen ∧ (0 < gs.length → ∃ b off, A = some ⟨b, off, none⟩ ∧ ∀ i, i < gs.length → ∃ u, AtG w b (off + i * 4) (GZ gs i) u)
theorem GLies.kept {w w' : World} {v : Value} {gs : List Gz} (h : GLies w v gs) (k : Kept w w') : GLies w' v gs := by
  obtain ⟨A, c, e, h1, h2, h3⟩ := h
  refine ⟨A, c, e, h1, h2, fun h0 => ?_⟩
  obtain ⟨b, off, ea, hc⟩ := h3 h0
  exact ⟨b, off, ea, fun i hi => let ⟨u, hu⟩ := hc i hi; ⟨u, hu.kept k⟩⟩
theorem GLies.len {w : World} {v : Value} {gs : List Gz} (h : GLies w v gs) : gs.length ≤ maxLen := by
  obtain ⟨A, c, e, h1, h2, h3⟩ := h
  omega
/-- All names are of a possible size. -/
def GSized (gs : List Gz) : Prop := ∀ i, i < gs.length → (GZ gs i).nm.size ≤ maxLen
/-- A list of gauges that came in. -/
theorem glies_arg {H : Type} {enc : TypeId × Value → H} {P : Program} {w : World} {base : Nat} {spare : Nat → Bool} {held : Bool} {r : Reach} {b0 : Nat} {t e e3 : TypeId} {f0 f1 f2 f3 g0 g1 : Field} {v : Value} {d : DataW H} {p : List MemPlace}
    (ht : P.underlying t = some (.slice e)) (he : P.underlying e = some (.struct #[f0, f1, f2, f3])) (hone : oneCellFields P #[f0, f1, f2, f3] = true) (hC : P.cellsOf e = 4) (h0 : P.underlying f0.type = some (.int .i64)) (h1 : P.underlying f1.type = some .string) (h2 : P.underlying f2.type = some (.int .i64)) (h3 : P.underlying f3.type = some (.slice e3))
    (he3 : P.underlying e3 = some (.struct #[g0, g1])) (hone3 : oneCellFields P #[g0, g1] = true) (hC3 : P.cellsOf e3 = 2) (hg0 : P.underlying g0.type = some (.int .i64)) (hg1 : P.underlying g1.type = some (.int .i64))
    (hv : Value.okWide P w r b0 t v) (h : DataW.Trod enc P w base spare held t v d p) : ∃ gs : List Gz, GLies w v gs ∧ GSized gs := by
  obtain ⟨a0, len, cap, rfl⟩ := okWide_slice ht hv
  obtain ⟨fuel, hf⟩ := h
  rcases open_slice_fields ht he hone hC hf with ⟨hcs, -⟩ | ⟨a, len', cap', m, D, Pl, hcs, -, hl, hm, hmm, -, hx⟩
  · simp [Value.cells] at hcs
    obtain ⟨rfl, rfl, rfl⟩ := hcs
    exact ⟨[], ⟨none, 0, rfl, Nat.le_refl _, by simp [maxLen], fun h => absurd h (by simp)⟩, fun i hi => absurd hi (by simp)⟩
  · simp [Value.cells] at hcs
    obtain ⟨rfl, rfl, rfl⟩ := hcs
    have hlm : len ≤ m := by rw [hmm]; split <;> omega
    have each : ∀ i, i < len → ∃ (q : Gz) (u : Value), (w.cell? (a.add (i * 4)) = some (.int .i64 q.id) ∧ w.cell? (a.add (i * 4 + 1)) = some (.string q.nm) ∧ w.cell? (a.add (i * 4 + 2)) = some (.int .i64 q.z) ∧ w.cell? (a.add (i * 4 + 3)) = some u ∧ Lies w 2 pairC u q.xs) ∧ q.nm.size ≤ maxLen := by
      intro i hi
      obtain ⟨ys, n, -, -, -, hf⟩ := hx i (by omega)
      obtain ⟨v0, y0, c0, -, t0⟩ := hf 0 f0 rfl
      obtain ⟨v1, y1, c1, -, t1⟩ := hf 1 f1 rfl
      obtain ⟨v2, y2, c2, -, t2⟩ := hf 2 f2 rfl
      obtain ⟨v3, y3, c3, -, t3⟩ := hf 3 f3 rfl
      obtain ⟨x0, rfl⟩ := cell_int h0 t0
      obtain ⟨x1, rfl, hs⟩ := cell_string h1 t1
      obtain ⟨x2, rfl⟩ := cell_int h2 t2
      obtain ⟨xs, hl3⟩ := cell_pairs h3 he3 hone3 hC3 hg0 hg1 t3
      exact ⟨⟨x0, x1, x2, xs⟩, v3, ⟨c0, c1, c2, c3, hl3⟩, hs⟩
    obtain ⟨q, hq⟩ : ∃ q : Nat → Gz, ∀ i, i < len → ∃ u : Value, (w.cell? (a.add (i * 4)) = some (.int .i64 (q i).id) ∧ w.cell? (a.add (i * 4 + 1)) = some (.string (q i).nm) ∧ w.cell? (a.add (i * 4 + 2)) = some (.int .i64 (q i).z) ∧ w.cell? (a.add (i * 4 + 3)) = some u ∧ Lies w 2 pairC u (q i).xs) ∧ (q i).nm.size ≤ maxLen := by
      refine ⟨fun i => if h : i < len then (each i h).choose else Gz0, fun i hi => ?_⟩
      simp only [hi, dite_true]
      exact (each i hi).choose_spec
    refine ⟨(List.range len).map q, ⟨some a, cap, by simp, by simpa using hl, hm, fun hn => ?_⟩, fun i hi => ?_⟩
    · simp at hn
      obtain ⟨b, off, spot⟩ := a
      obtain ⟨u0, hu0, -⟩ := hq 0 hn
      have hspot : spot = none := by simpa [Addr.add] using World.cell?_spot hu0.1
      subst hspot
      refine ⟨b, off, rfl, fun i hi => ?_⟩
      have hi2 : i < len := by simpa using hi
      obtain ⟨u, ⟨k0, k1, k2, k3, kl⟩, -⟩ := hq i hi2
      rw [Go.WideShapes.add_plain] at k0 k1 k2 k3
      rw [GZ_at hi]
      simp only [List.getElem_map, List.getElem_range]
      exact ⟨u, k0, by simpa [Nat.add_assoc] using k1, by simpa [Nat.add_assoc] using k2, by simpa [Nat.add_assoc] using k3, kl⟩
    · rw [GZ_at hi]
      have hi2 : i < len := by simpa using hi
      obtain ⟨u, -, hs⟩ := hq i hi2
      simpa using hs
theorem szGaugeS_any (v : Value) (gs : List Gz) (w : World) (hL : GLies w v gs) (hz : GSized gs) : Calls Try.prog 43 #[v, .int .i64 1048576] w fun e w' => ∃ r : Int, e = .returned (.int .i64 r) ∧ (0 ≤ r → gs.length ≤ 1048576 ∧ ∀ i, i < gs.length → (GZ gs i).xs.length ≤ 1048576) ∧ Kept w w' := by
  have hm := hL.len
  unfold maxLen at hm
  obtain ⟨A, c, rfl, hlc, hcm, hA⟩ := hL
  by_cases hn : gs.length ≤ 1048576
  · go_enter Try.func43, Try.ntmps43
    go_wp2
    go_loopw [1, 5] (fun l i wr => ∃ (k : Nat) (x : Int), k ≤ gs.length ∧ i = .int .i64 k ∧ l = .int .i64 x ∧ 0 ≤ x ∧ x ≤ 1048576 ∧ Kept w wr ∧ ∀ i, i < k → (GZ gs i).xs.length ≤ 1048576) (fun _ i _ => gs.length - (intOf i).toNat)
    case atStart => exact ⟨0, _, by omega, rfl, rfl, by omega, by omega, Kept.refl _, fun i h => absurd h (by omega)⟩
    case round =>
      obtain ⟨k, x, hk, rfl, rfl, x0, x1, hkw, hall⟩ := hrel
      have HAL := Lib.hid hall
      clear hall
      by_cases hlt : k < gs.length
      · obtain ⟨b, off, rfl, hc⟩ := hA (by omega)
        obtain ⟨u, hu⟩ := hc k hlt
        obtain ⟨c0, c1, c2, c3, cl⟩ := hu.kept hkw
        have CL := Lib.hid cl
        obtain ⟨A2, n2, rfl, -, -, -⟩ := cl
        have hs := hz k hlt
        clear hc hA hz hu
        go_wp2_with fail
        refine (szGauge_left _ _ _ _ _ hs _ x0 x1 _ (CL.out.kept (by (repeat (first | exact Kept.refl _ | assumption | refine Kept.alloc ?_ _ | refine Kept.drew ?_ | refine Kept.drewN ?_ _ | refine Kept.setCell ?_ (by first | (simp; done) | (simp; omega) | omega | exact Kept.size (by (repeat (first | exact Kept.refl _ | assumption | refine Kept.alloc ?_ _ | refine Kept.drew ?_ | refine Kept.drewN ?_ _ | refine Kept.trans ?_ (by assumption))))) _ | refine Kept.trans ?_ (by assumption)))))).mono ?_
        rintro e w1 ⟨r, rfl, ⟨r0, r1, r2⟩, hk1⟩
        by_cases hneg : r < 0
        · clear r2
          go_wp2_with fail
          go_ret
          exact ⟨_, rfl, fun h => absurd h (by omega), by (repeat (first | exact Kept.refl _ | assumption | refine Kept.alloc ?_ _ | refine Kept.drew ?_ | refine Kept.drewN ?_ _ | refine Kept.setCell ?_ (by first | (simp; done) | (simp; omega) | omega | exact Kept.size (by (repeat (first | exact Kept.refl _ | assumption | refine Kept.alloc ?_ _ | refine Kept.drew ?_ | refine Kept.drewN ?_ _ | refine Kept.trans ?_ (by assumption))))) _ | refine Kept.trans ?_ (by assumption)))⟩
        · have HB := Lib.hid (upto_succ (p := fun i => (GZ gs i).xs.length ≤ 1048576) HAL.out (r2 (by omega)))
          clear r2
          go_wp2_with fail
          go_roundw
          case rel => exact ⟨k + 1, r, by omega, by go_num, rfl, by omega, by omega, by (repeat (first | exact Kept.refl _ | assumption | refine Kept.alloc ?_ _ | refine Kept.drew ?_ | refine Kept.drewN ?_ _ | refine Kept.setCell ?_ (by first | (simp; done) | (simp; omega) | omega | exact Kept.size (by (repeat (first | exact Kept.refl _ | assumption | refine Kept.alloc ?_ _ | refine Kept.drew ?_ | refine Kept.drewN ?_ _ | refine Kept.trans ?_ (by assumption))))) _ | refine Kept.trans ?_ (by assumption))), HB.out⟩
          case measure => simp [intOf]; omega
      · go_wp2
        go_ret
        exact ⟨_, rfl, fun _ => ⟨hn, fun i hi => HAL.out i (by omega)⟩, by (repeat (first | exact Kept.refl _ | assumption | refine Kept.alloc ?_ _ | refine Kept.drew ?_ | refine Kept.drewN ?_ _ | refine Kept.setCell ?_ (by first | (simp; done) | (simp; omega) | omega | exact Kept.size (by (repeat (first | exact Kept.refl _ | assumption | refine Kept.alloc ?_ _ | refine Kept.drew ?_ | refine Kept.drewN ?_ _ | refine Kept.trans ?_ (by assumption))))) _ | refine Kept.trans ?_ (by assumption)))⟩
  · clear hA
    go_enter Try.func43, Try.ntmps43
    go_wp2
    go_ret
    exact ⟨_, rfl, fun h => absurd h (by omega), by (repeat (first | exact Kept.refl _ | assumption | refine Kept.alloc ?_ _ | refine Kept.drew ?_ | refine Kept.drewN ?_ _ | refine Kept.setCell ?_ (by first | (simp; done) | (simp; omega) | omega | exact Kept.size (by (repeat (first | exact Kept.refl _ | assumption | refine Kept.alloc ?_ _ | refine Kept.drew ?_ | refine Kept.drewN ?_ _ | refine Kept.trans ?_ (by assumption))))) _ | refine Kept.trans ?_ (by assumption)))⟩
/-- The four values of the i-th gauge in a row of cells. -/
structure RowG (ys : List Value) (i : Nat) (g : Gz) (v : Value) : Prop where
  y0 : ys[i * 4]? = some (.int .i64 g.id)
  y1 : ys[i * 4 + 1]? = some (.string g.nm)
  y2 : ys[i * 4 + 2]? = some (.int .i64 g.z)
  y3 : ys[i * 4 + 3]? = some v
theorem RowG.new {ys : List Value} {k n : Nat} (hk : k < n) (hl : ys.length = n * 4) (g : Gz) (v : Value) : RowG ((((ys.set (k * 4) (.int .i64 g.id)).set (k * 4 + 1) (.string g.nm)).set (k * 4 + 2) (.int .i64 g.z)).set (k * 4 + 3) v) k g v := by
  constructor <;> (repeat (first | rw [List.getElem?_set_ne (by omega)] | rw [List.getElem?_set_self (by (try simp only [List.length_set]); omega)]))
theorem RowG.old {ys : List Value} {i k : Nat} {g : Gz} {v : Value} (h : RowG ys i g v) (hi : i ≠ k) (a b c d : Value) : RowG ((((ys.set (k * 4) a).set (k * 4 + 1) b).set (k * 4 + 2) c).set (k * 4 + 3) d) i g v := by
  obtain ⟨h0, h1, h2, h3⟩ := h
  constructor <;> (repeat rw [List.getElem?_set_ne (by omega)]) <;> assumption
/-- Slices of the call's own: a row of gauges, and each one's readings. -/
def GOwn (w : World) (B : Nat) (T R : TypeId) (u : Value) (gs : List Gz) : Prop := ∃ ys, w.ownsRow B T 4 u gs.length ys ∧ (∀ i, i < gs.length → (∃ v, RowG ys i (GZ gs i) v ∧ w.ownsRow (B + 1) R 2 v (GZ gs i).xs.length ((GZ gs i).xs.flatMap pairC))) ∧ ∀ g, u.ownBlock = some g → g = B
theorem GOwn.lies {w : World} {B : Nat} {T R : TypeId} {u : Value} {gs : List Gz} (h : GOwn w B T R u gs) : GLies w u gs := by
  obtain ⟨ys, ho, hr, -⟩ := h
  obtain ⟨A, c, rfl, h1, h2, h3⟩ := own_form ho
  refine ⟨A, c, rfl, h1, h2, fun h0 => ?_⟩
  obtain ⟨g, rfl, hg1, hg2⟩ := h3 h0
  refine ⟨g, 0, rfl, fun i hi => ?_⟩
  obtain ⟨v, ⟨y0, y1, y2, y3⟩, hv⟩ := hr i hi
  refine ⟨v, ?_, ?_, ?_, ?_, pairs_own hv⟩
  · rw [Nat.zero_add, ho.cellAt _ (by omega)]; exact y0
  · rw [Nat.zero_add, ho.cellAt _ (by omega)]; exact y1
  · rw [Nat.zero_add, ho.cellAt _ (by omega)]; exact y2
  · rw [Nat.zero_add, ho.cellAt _ (by omega)]; exact y3
theorem infoGauge : (Try.prog.info? 26).map (fun i => (i.zero, i.size, i.bytes)) = some (some (.agg #[.int .i64 0, .string ByteArray.empty, .int .i64 0, .slice none 0 0]), 4, 56) := by kernel_rfl
set_option maxHeartbeats 2000000 in
theorem toGaugeS_any (v : Value) (gs : List Gz) (w : World) (hL : GLies w v gs) (hn : gs.length ≤ 1048576) (hxs : ∀ i, i < gs.length → (GZ gs i).xs.length ≤ 1048576) : Calls Try.prog 45 #[v] w fun e w' => ∃ u, e = .returned u ∧ GOwn w' w.heap.size 26 28 u gs ∧ Kept w w' := by
  obtain ⟨A, c, rfl, hlc, hcm, hA⟩ := hL
  obtain ⟨i0, hi0, hz0, hz1, hz2⟩ := info_parts infoGauge
  have hmk := fun W => run_make_rowN (P := Try.prog) 62 26 i0 _ Try.underlying62 hi0 hz0 .i64 .i64 gs.length gs.length (Nat.le_refl _) (by rw [hz2]; omega) (by omega) W
  rw [hz1] at hmk
  have HA := Lib.hid hA
  have HX := Lib.hid hxs
  clear hA hxs
  go_enter Try.func45, Try.ntmps45
  go_wp2
  go_loopw [4] (fun i wr => ∃ k : Nat, k ≤ gs.length ∧ i = .int .i64 k ∧ Kept w wr ∧ ∃ ys, wr.ownsRow w.heap.size 26 4 (.slice (some ⟨w.heap.size, 0, none⟩) gs.length gs.length) gs.length ys ∧ ∀ i, i < k → ∃ v, RowG ys i (GZ gs i) v ∧ wr.ownsRow (w.heap.size + 1) 28 2 v (GZ gs i).xs.length ((GZ gs i).xs.flatMap pairC)) (fun i _ => gs.length - (intOf i).toNat)
  case atStart => exact ⟨0, Nat.zero_le _, rfl, (Kept.refl _).alloc _, _, World.ownsRow_lit w _ _ (Nat.le_refl _) (by omega) (by simp [size_madeCells]), fun i h => absurd h (by omega)⟩
  case round =>
    clear hmk
    obtain ⟨k, hk, rfl, hkw, ys, hown, hys⟩ := hrel
    have HY := Lib.hid hys
    have HO := Lib.hid hown
    have HK := Lib.hid hkw
    clear hys hown hkw
    by_cases hlt : k < gs.length
    · obtain ⟨b, off, rfl, hc⟩ := HA.out (by omega)
      obtain ⟨u, hu⟩ := hc k hlt
      obtain ⟨c0, c1, c2, c3, cl⟩ := hu.kept HK.out
      have CL := Lib.hid cl
      obtain ⟨A2, n2, rfl, -, -, -⟩ := cl
      have hx := HX.out k hlt
      clear hc hu
      go_wp2_with fail
      refine (toGauge_any _ _ _ _ _ _ CL.out hx).mono ?_
      rintro e w1 ⟨u1, rfl, hu1, hk1⟩
      obtain ⟨A1, n1, rfl, -, -, -⟩ := own_form hu1
      have HO1 := Lib.hid (own_kept HO.out hk1)
      have hsz : w.heap.size + 1 ≤ wr.heap.size := by
        have := (own_cell HO.out (j := k * 4) (by omega)).choose_spec.2.1
        have := World.block_lt_of_cell? wr _ this
        simp only [] at this
        omega
      have HU := Lib.hid (own_base hu1 hsz)
      obtain ⟨v0, -, d0, f0⟩ := own_cell HO1.out (j := k * 4) (by omega)
      obtain ⟨v1, -, d1, f1⟩ := own_cell HO1.out (j := k * 4 + 1) (by omega)
      obtain ⟨v2, -, d2, f2⟩ := own_cell HO1.out (j := k * 4 + 2) (by omega)
      obtain ⟨v3, -, d3, f3⟩ := own_cell HO1.out (j := k * 4 + 3) (by omega)
      have HK1 := Lib.hid (HK.out.trans hk1)
      have HK2 := Lib.hid hk1
      clear hu1 hk1 c0 c1 c2 c3
      go_wp2_with fail
      go_roundw
      case rel =>
        have hrow := (((HO1.out.stored (k * 4) (.int .i64 (GZ gs k).id)).1.stored (k * 4 + 1) (.string (GZ gs k).nm)).1.stored (k * 4 + 2) (.int .i64 (GZ gs k).z)).1.stored (k * 4 + 3) (.slice A1 (GZ gs k).xs.length n1) |>.1
        refine ⟨k + 1, by omega, by go_num, (((HK1.out.setCell (by simp) _).setCell (by simp) _).setCell (by simp) _).setCell (by simp) _, _, hrow, fun i hi => ?_⟩
        by_cases e : i = k
        · subst e
          exact ⟨_, RowG.new hlt HO.out.1 (GZ gs i) _, ownsRow_setCell_below (ownsRow_setCell_below (ownsRow_setCell_below (ownsRow_setCell_below HU.out (by simp) _) (by simp) _) (by simp) _) (by simp) _⟩
        · obtain ⟨x, hr, ho⟩ := HY.out i (by omega)
          exact ⟨x, hr.old e _ _ _ _, ownsRow_setCell_below (ownsRow_setCell_below (ownsRow_setCell_below (ownsRow_setCell_below (own_kept ho HK2.out) (by simp) _) (by simp) _) (by simp) _) (by simp) _⟩
      case measure => simp [intOf]; omega
    · have e : k = gs.length := by omega
      have HF : Hid (GOwn wr w.heap.size 26 28 (.slice (some ⟨w.heap.size, 0, none⟩) gs.length gs.length) gs) := ⟨ys, HO.out, fun i hi => HY.out i (by omega), fun g hg => by simpa [Value.ownBlock] using hg.symm⟩
      clear e
      go_wp2
      go_ret
      exact ⟨_, rfl, HF.out, HK.out⟩
set_option maxHeartbeats 2000000 in
theorem eqGaugeS_any (u v : Value) (gs : List Gz) (w : World) (hU : GLies w u gs) (hV : GLies w v gs) : Calls Try.prog 47 #[u, v] w fun e w' => e = .returned (.bool true) ∧ Kept w w' := by
  have hm := hU.len
  unfold maxLen at hm
  obtain ⟨A, c, rfl, hlc, hcm, hA⟩ := hU
  obtain ⟨A', c', rfl, hlc', hcm', hA'⟩ := hV
  have HA := Lib.hid hA
  have HB := Lib.hid hA'
  clear hA hA'
  go_enter Try.func47, Try.ntmps47
  go_wp2
  go_loopw [5] (fun i wr => ∃ k : Nat, k ≤ gs.length ∧ i = .int .i64 k ∧ Kept w wr) (fun i _ => gs.length - (intOf i).toNat)
  case atStart => exact ⟨0, Nat.zero_le _, rfl, Kept.refl _⟩
  case round =>
    obtain ⟨k, hk, rfl, hkw⟩ := hrel
    by_cases hlt : k < gs.length
    · obtain ⟨b, off, rfl, hc⟩ := HA.out (by omega)
      obtain ⟨b', off', rfl, hc'⟩ := HB.out (by omega)
      obtain ⟨x1, hx1⟩ := hc k hlt
      obtain ⟨x2, hx2⟩ := hc' k hlt
      obtain ⟨c0, c1, c2, c3, cl⟩ := hx1.kept hkw
      obtain ⟨d0, d1, d2, d3, dl⟩ := hx2.kept hkw
      have CL := Lib.hid cl
      have DL := Lib.hid dl
      obtain ⟨A2, n2, rfl, -, -, -⟩ := cl
      obtain ⟨A3, n3, rfl, -, -, -⟩ := dl
      clear hc hc' hx1 hx2
      go_wp2_with fail
      have kf1_0 : ∀ w' : World, Root (wr) w' → w'.cell? ⟨b, off + k * 4, none⟩ = some (.int .i64 (GZ gs k).id) := fun w' h => h.keep (by first | assumption | exact (Kept.alloc (Kept.refl _) _).keep (by assumption) | (simp [go_sem]; done) | (simp [go_sem, *]; done))
      have kf1_1 : ∀ w' : World, Root (wr) w' → w'.cell? ⟨b, off + k * 4 + 1, none⟩ = some (.string (GZ gs k).nm) := fun w' h => h.keep (by first | assumption | exact (Kept.alloc (Kept.refl _) _).keep (by assumption) | (simp [go_sem]; done) | (simp [go_sem, *]; done))
      have kf1_2 : ∀ w' : World, Root (wr) w' → w'.cell? ⟨b, off + k * 4 + 2, none⟩ = some (.int .i64 (GZ gs k).z) := fun w' h => h.keep (by first | assumption | exact (Kept.alloc (Kept.refl _) _).keep (by assumption) | (simp [go_sem]; done) | (simp [go_sem, *]; done))
      have kf1_3 : ∀ w' : World, Root (wr) w' → w'.cell? ⟨b, off + k * 4 + 3, none⟩ = some (.slice A2 (GZ gs k).xs.length n2) := fun w' h => h.keep (by first | assumption | exact (Kept.alloc (Kept.refl _) _).keep (by assumption) | (simp [go_sem]; done) | (simp [go_sem, *]; done))
      have kf1_4 : ∀ w' : World, Root (wr) w' → w'.cell? ⟨b', off' + k * 4, none⟩ = some (.int .i64 (GZ gs k).id) := fun w' h => h.keep (by first | assumption | exact (Kept.alloc (Kept.refl _) _).keep (by assumption) | (simp [go_sem]; done) | (simp [go_sem, *]; done))
      have kf1_5 : ∀ w' : World, Root (wr) w' → w'.cell? ⟨b', off' + k * 4 + 1, none⟩ = some (.string (GZ gs k).nm) := fun w' h => h.keep (by first | assumption | exact (Kept.alloc (Kept.refl _) _).keep (by assumption) | (simp [go_sem]; done) | (simp [go_sem, *]; done))
      have kf1_6 : ∀ w' : World, Root (wr) w' → w'.cell? ⟨b', off' + k * 4 + 2, none⟩ = some (.int .i64 (GZ gs k).z) := fun w' h => h.keep (by first | assumption | exact (Kept.alloc (Kept.refl _) _).keep (by assumption) | (simp [go_sem]; done) | (simp [go_sem, *]; done))
      have kf1_7 : ∀ w' : World, Root (wr) w' → w'.cell? ⟨b', off' + k * 4 + 3, none⟩ = some (.slice A3 (GZ gs k).xs.length n3) := fun w' h => h.keep (by first | assumption | exact (Kept.alloc (Kept.refl _) _).keep (by assumption) | (simp [go_sem]; done) | (simp [go_sem, *]; done))
      go_region_held3 (fun w' => Root (wr) w')
        (first | assumption | exact Root.trans (by assumption) hk | exact Root.drew (Root.refl _) | (repeat (first | exact Root.refl _ | assumption | refine Root.alloc ?_ _ | refine Root.drew ?_ | refine Root.setCell ?_ (by first | (simp; done) | (simp; omega) | omega | exact Root.size (by assumption)) _ | refine Root.trans ?_ (by assumption))))
        (first | (go_at_call 34; refine (eqGauge_any _ _ _ _ _ _ _ (by exact CL.out.kept (by (repeat (first | exact Kept.refl _ | assumption | refine Kept.alloc ?_ _ | refine Kept.drew ?_ | refine Kept.drewN ?_ _ | refine Kept.setCell ?_ (by first | (simp; done) | (simp; omega) | omega | exact Kept.size (by (repeat (first | exact Kept.refl _ | assumption | refine Kept.alloc ?_ _ | refine Kept.drew ?_ | refine Kept.drewN ?_ _ | refine Kept.trans ?_ (by assumption))))) _ | refine Kept.trans ?_ (by assumption))))) (by exact DL.out.kept (by (repeat (first | exact Kept.refl _ | assumption | refine Kept.alloc ?_ _ | refine Kept.drew ?_ | refine Kept.drewN ?_ _ | refine Kept.setCell ?_ (by first | (simp; done) | (simp; omega) | omega | exact Kept.size (by (repeat (first | exact Kept.refl _ | assumption | refine Kept.alloc ?_ _ | refine Kept.drew ?_ | refine Kept.drewN ?_ _ | refine Kept.trans ?_ (by assumption))))) _ | refine Kept.trans ?_ (by assumption)))))).mono ?_; rintro e w1 ⟨rfl, hk⟩; (have hkr := Root.trans (by assumption) hk); (first | (have hkf := From.step (by assumption) hk; obtain ⟨hc, hf⟩ := hkf.cells) | (have hkf := From.start hk; obtain ⟨hc, hf⟩ := hkf.cells))))
      go_wp2
      go_roundw
      case rel => exact ⟨k + 1, by omega, by go_num, by (repeat (first | exact Kept.refl _ | assumption | refine Kept.alloc ?_ _ | refine Kept.drew ?_ | refine Kept.drewN ?_ _ | refine Kept.setCell ?_ (by first | (simp; done) | (simp; omega) | omega | exact Kept.size (by (repeat (first | exact Kept.refl _ | assumption | refine Kept.alloc ?_ _ | refine Kept.drew ?_ | refine Kept.drewN ?_ _ | refine Kept.trans ?_ (by assumption))))) _ | refine Kept.trans ?_ (by assumption)))⟩
      case measure => simp [intOf]; omega
    · go_wp2
      go_ret
      exact ⟨rfl, by (repeat (first | exact Kept.refl _ | assumption | refine Kept.alloc ?_ _ | refine Kept.drew ?_ | refine Kept.drewN ?_ _ | refine Kept.setCell ?_ (by first | (simp; done) | (simp; omega) | omega | exact Kept.size (by (repeat (first | exact Kept.refl _ | assumption | refine Kept.alloc ?_ _ | refine Kept.drew ?_ | refine Kept.drewN ?_ _ | refine Kept.trans ?_ (by assumption))))) _ | refine Kept.trans ?_ (by assumption)))⟩
end Go.Proofs.Ytopdnhlolfehcaa
