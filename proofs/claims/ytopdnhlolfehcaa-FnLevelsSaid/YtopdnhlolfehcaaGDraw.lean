/-
  The draw of a gauge.
  Conditions: none.
-/
import Derived.Test.YtopdnhlolfehcaaCode
import Derived.Test.YtopdnhlolfehcaaAdd
import Derived.Deep.DeepCutAuto
import Derived.BigRegion
namespace Go.Proofs.Ytopdnhlolfehcaa
open Go.ChangeShapes Go.WideShapes Go.ChangeAt Go.RowKit
set_option linter.unusedVariables false
set_option linter.unusedSimpArgs false

def XZ (xs : List ByteArray) (i : Nat) : ByteArray := xs.getD i ByteArray.empty
/-- A slice of texts that lies in a block of its own. -/
def StrsIn (w : World) (b : Nat) (xs : List ByteArray) : Prop := ∀ i, i < xs.length → w.cell? ⟨b, i, none⟩ = some (.string (XZ xs i))
theorem StrsIn.lit {w : World} {xs : List ByteArray} {t : TypeId} {n : Nat} {cs : Array Value} (hcs : cs = (xs.map Value.string).toArray) (hn : w.heap.size = n) : StrsIn (w.alloc (.cells cs t)) n xs := fun i hi => by
  subst hn
  rw [cell_of_row _ _ i _ t (0, 0) (heap_alloc_new w _), hcs]
  simp [XZ, List.getD_eq_getElem?_getD, hi]
theorem of_any (g b c : Nat) (k : Int) (xs : List ByteArray) (w : World) (hC : CurB w g k) (hk : k ≤ 900000) (hL : StrsIn w b xs) (hb : b ≠ g) (h0 : 0 < xs.length) (h1 : xs.length ≤ 1000) : Calls Try.prog 99 #[.pointer (some ⟨g, 0, none⟩), .slice (some ⟨b, 0, none⟩) xs.length c] w fun e w' => ∃ s : ByteArray, e = .returned (.string s) ∧ s ∈ xs ∧ CurB w' g (k + 2) ∧ Stir g w w' := by
  have HC := Lib.hid hC
  have HL := Lib.hid hL
  clear hC hL
  go_enter Try.func99, Try.ntmps99
  go_wp2_with fail
  refine (pick_any g k _ _ HC.out hk (by omega)).mono ?_
  rintro e w1 ⟨x, rfl, ⟨x0, x1⟩, hc1, hg1⟩
  obtain ⟨i, rfl⟩ : ∃ i : Nat, x = (i : Int) := ⟨x.toNat, by omega⟩
  have hi : i < xs.length := by omega
  have d0 := hg1.keep (p := ⟨b, i, none⟩) hb (HL.out i hi)
  have hm : XZ xs i ∈ xs := by simp [XZ, List.getD_eq_getElem?_getD, hi]
  generalize XZ xs i = s at d0 hm
  have HM := Lib.hid hm
  have HC1 := Lib.hid hc1
  have HG1 := Lib.hid hg1
  clear hc1 hg1 x1 hm
  go_wp2_with fail
  go_ret
  exact ⟨_, rfl, HM.out, HC1.out, HG1.out⟩
theorem cell_of_grown {a b : World} {row : Option Nat} (h : a.grownBy b row) {p : Addr} {v : Value} (hp : ∀ k, row = some k → p.block ≠ k) (hc : a.cell? p = some v) : b.cell? p = some v :=
  h.cell hc (by intro e; exact hp _ e.symm rfl)
theorem free_of_grown {a b : World} {row : Option Nat} (h : a.grownBy b row) {p : Addr} {v : Value} (hp : ∀ k, row = some k → p.block ≠ k) (hc : a.cell? p = some v) (hf : a.frozen? p = false) : b.frozen? p = false :=
  (World.frozen?_of_block (h.block p.block (World.block_lt_of_cell? a _ hc) (by intro e; exact hp _ e.symm rfl))).trans hf
theorem Cur.grown {a b : World} {g : Nat} {n : Int} {row : Option Nat} (h : Cur a g n) (q : a.grownBy b row) (hr : ∀ k, row = some k → g < k) : Cur b g n := by
  obtain ⟨⟨A, len, cap, h0, hc⟩, h1, ⟨s, h2⟩, f1, f2, hpos⟩ := h
  have hn : ∀ k, row = some k → g ≠ k := fun k hk => Nat.ne_of_lt (hr k hk)
  refine ⟨⟨A, len, cap, cell_of_grown q hn h0, hc.1, hc.2.1, fun hl => ?_⟩, cell_of_grown q hn h1, ⟨s, cell_of_grown q hn h2⟩, free_of_grown q hn h1 f1, free_of_grown q hn h2 f2, hpos⟩
  obtain ⟨b', off, e, hb, hx⟩ := hc.2.2 hl
  refine ⟨b', off, e, hb, fun i hi => ?_⟩
  obtain ⟨x, x0, x1, hx⟩ := hx i hi
  exact ⟨x, x0, x1, cell_of_grown q (fun k hk => Nat.ne_of_lt (Nat.lt_trans hb (hr k hk))) hx⟩
theorem CurB.grown {a b : World} {g : Nat} {k : Int} {row : Option Nat} (h : CurB a g k) (q : a.grownBy b row) (hr : ∀ k, row = some k → g < k) : CurB b g k := let ⟨n, h1, h2⟩ := h; ⟨n, h1, h2.grown q hr⟩
theorem Stir.grown {g : Nat} {w a b : World} {row : Option Nat} (h : Stir g w a) (q : a.grownBy b row) (hr : ∀ k, row = some k → w.heap.size ≤ k) : Stir g w b :=
  ⟨q.os.trans h.by_.os, q.tape.trans h.by_.tape, q.output.trans h.by_.output, Nat.le_trans h.by_.size q.size, fun k hk hg =>
    (q.block k (Nat.lt_of_lt_of_le hk h.by_.size) (fun e => absurd (hr k e.symm) (by omega))).trans (h.by_.block k hk hg)⟩
theorem own_row_ge {a : World} {base size n : Nat} {e : TypeId} {v : Value} {xs : List Value} (ho : a.ownsRow base e size v n xs) : ∀ k, v.ownBlock = some k → base ≤ k := fun k hk => (ho.lt k hk).1

theorem Stir.setNew {g : Nat} {w a : World} (h : Stir g w a) {p : Addr} (hp : w.heap.size ≤ p.block) (v : Value) : Stir g w (a.setCell p v) :=
  ⟨h.by_.os, h.by_.tape, h.by_.output, by simpa using h.by_.size, fun k hk hg => (heap_setCell_other a p k v (fun e => by omega)).trans (h.by_.block k hk hg)⟩
theorem blk4_stir {g : Nat} {W W' : World} {b : Nat} {v0 v1 v2 v3 : Value} (k : Stir g W W') (hb : b ≠ g) (h : W.cell? ⟨b, 0, none⟩ = some v0 ∧ W.frozen? ⟨b, 0, none⟩ = false ∧ W.cell? ⟨b, 1, none⟩ = some v1 ∧ W.frozen? ⟨b, 1, none⟩ = false ∧ W.cell? ⟨b, 2, none⟩ = some v2 ∧ W.frozen? ⟨b, 2, none⟩ = false ∧ W.cell? ⟨b, 3, none⟩ = some v3 ∧ W.frozen? ⟨b, 3, none⟩ = false) : W'.cell? ⟨b, 0, none⟩ = some v0 ∧ W'.frozen? ⟨b, 0, none⟩ = false ∧ W'.cell? ⟨b, 1, none⟩ = some v1 ∧ W'.frozen? ⟨b, 1, none⟩ = false ∧ W'.cell? ⟨b, 2, none⟩ = some v2 ∧ W'.frozen? ⟨b, 2, none⟩ = false ∧ W'.cell? ⟨b, 3, none⟩ = some v3 ∧ W'.frozen? ⟨b, 3, none⟩ = false :=
  let ⟨h0, f0, h1, f1, h2, f2, h3, f3⟩ := h
  ⟨k.keep hb h0, k.free hb h0 f0, k.keep hb h1, k.free hb h1 f1, k.keep hb h2, k.free hb h2 f2, k.keep hb h3, k.free hb h3 f3⟩
theorem blk4_set {W : World} {b : Nat} {v0 v1 v2 v3 : Value} (p : Addr) (hp : p.block ≠ b) (v : Value) (h : W.cell? ⟨b, 0, none⟩ = some v0 ∧ W.frozen? ⟨b, 0, none⟩ = false ∧ W.cell? ⟨b, 1, none⟩ = some v1 ∧ W.frozen? ⟨b, 1, none⟩ = false ∧ W.cell? ⟨b, 2, none⟩ = some v2 ∧ W.frozen? ⟨b, 2, none⟩ = false ∧ W.cell? ⟨b, 3, none⟩ = some v3 ∧ W.frozen? ⟨b, 3, none⟩ = false) : (W.setCell p v).cell? ⟨b, 0, none⟩ = some v0 ∧ (W.setCell p v).frozen? ⟨b, 0, none⟩ = false ∧ (W.setCell p v).cell? ⟨b, 1, none⟩ = some v1 ∧ (W.setCell p v).frozen? ⟨b, 1, none⟩ = false ∧ (W.setCell p v).cell? ⟨b, 2, none⟩ = some v2 ∧ (W.setCell p v).frozen? ⟨b, 2, none⟩ = false ∧ (W.setCell p v).cell? ⟨b, 3, none⟩ = some v3 ∧ (W.setCell p v).frozen? ⟨b, 3, none⟩ = false := by
  obtain ⟨h0, f0, h1, f1, h2, f2, h3, f3⟩ := h
  have hx : ∀ o, (W.setCell p v).cell? ⟨b, o, none⟩ = W.cell? ⟨b, o, none⟩ := fun o => World.cell?_setCell_other W _ _ _ (fun e => hp (by rw [e]))
  have hf : ∀ o, (W.setCell p v).frozen? ⟨b, o, none⟩ = W.frozen? ⟨b, o, none⟩ := fun o => World.frozen?_setCell W _ _ _
  exact ⟨(hx 0).trans h0, (hf 0).trans f0, (hx 1).trans h1, (hf 1).trans f1, (hx 2).trans h2, (hf 2).trans f2, (hx 3).trans h3, (hf 3).trans f3⟩
/-- How the world stands while a gauge is drawn: block b holds it; it was asked at most k times; it has at most m readings. -/
structure GS (w wr : World) (g b : Nat) (k : Int) (m : Nat) : Prop where
  ex : ∃ (i z : Int) (nm : ByteArray) (A : Option Addr) (c : Nat) (xs : List (Int × Int)), nm.size ≤ 20 ∧ xs.length ≤ m ∧ (wr.cell? ⟨b, 0, none⟩ = some (.int .i64 i) ∧ wr.frozen? ⟨b, 0, none⟩ = false ∧ wr.cell? ⟨b, 1, none⟩ = some (.string nm) ∧ wr.frozen? ⟨b, 1, none⟩ = false ∧ wr.cell? ⟨b, 2, none⟩ = some (.int .i64 z) ∧ wr.frozen? ⟨b, 2, none⟩ = false ∧ wr.cell? ⟨b, 3, none⟩ = some (.slice A xs.length c) ∧ wr.frozen? ⟨b, 3, none⟩ = false) ∧ wr.ownsRow (b + 1) 28 2 (.slice A xs.length c) xs.length (xs.flatMap pairC)
  cur : CurB wr g k
  stir : Stir g w wr
  res : wr.cell? ⟨w.heap.size, 0, none⟩ = some (.int .i64 0) ∧ wr.frozen? ⟨w.heap.size, 0, none⟩ = false ∧ wr.cell? ⟨w.heap.size, 1, none⟩ = some (.string { data := #[] }) ∧ wr.frozen? ⟨w.heap.size, 1, none⟩ = false ∧ wr.cell? ⟨w.heap.size, 2, none⟩ = some (.int .i64 0) ∧ wr.frozen? ⟨w.heap.size, 2, none⟩ = false ∧ wr.cell? ⟨w.heap.size, 3, none⟩ = some (.slice none 0 0) ∧ wr.frozen? ⟨w.heap.size, 3, none⟩ = false
theorem GS.mono {w wr : World} {g b : Nat} {k k' : Int} {m m' : Nat} (h : GS w wr g b k m) (hk : k ≤ k') (hm : m ≤ m') : GS w wr g b k' m' := by
  obtain ⟨⟨i, z, nm, A, c, xs, h1, h2, h3, h4⟩, hc, hs, hr⟩ := h
  exact ⟨⟨i, z, nm, A, c, xs, h1, by omega, h3, h4⟩, hc.mono hk, hs, hr⟩
/-- A draw from the cursor, or a block more. -/
theorem GS.step {w wr w' : World} {g b : Nat} {k k' : Int} {m : Nat} (h : GS w wr g b k m) (hg : g < w.heap.size) (hb : w.heap.size < b) (hs : Stir g wr w') (hc : CurB w' g k') : GS w w' g b k' m := by
  obtain ⟨⟨i, z, nm, A, c, xs, h1, h2, h3, h4⟩, -, hs0, hr⟩ := h
  exact ⟨⟨i, z, nm, A, c, xs, h1, h2, blk4_stir hs (by omega) h3, hs.own h4 (by omega)⟩, hc, hs0.trans hs, blk4_stir hs (by omega) hr⟩
/-- A store into one of the first three fields. -/
theorem GS.set {w wr : World} {g b : Nat} {k : Int} {m : Nat} (h : GS w wr g b k m) (hg : g < w.heap.size) (hb : w.heap.size < b) (v : Value) (o : Nat) (ho : (o = 0 ∧ ∃ i, v = .int .i64 i) ∨ (o = 1 ∧ ∃ nm : ByteArray, nm.size ≤ 20 ∧ v = .string nm) ∨ (o = 2 ∧ ∃ i, v = .int .i64 i)) : GS w (wr.setCell ⟨b, o, none⟩ v) g b k m := by
  obtain ⟨⟨i, z, nm, A, c, xs, h1, h2, ⟨q0, f0, q1, f1, q2, f2, q3, f3⟩, h4⟩, hc, hs, hr⟩ := h
  refine ⟨?_, hc.set (p := ⟨b, o, none⟩) (by simp; omega) _, hs.setNew (by simp; omega) _, blk4_set _ (by simp; omega) _ hr⟩
  have h5 := ownsRow_setCell_below h4 (a := ⟨b, o, none⟩) (by simp) v
  rcases ho with ⟨rfl, j, rfl⟩ | ⟨rfl, s, hs20, rfl⟩ | ⟨rfl, j, rfl⟩
  · exact ⟨j, z, nm, A, c, xs, h1, h2, by simp [go_sem, *], h5⟩
  · exact ⟨i, z, s, A, c, xs, hs20, h2, by simp [go_sem, *], h5⟩
  · exact ⟨i, j, nm, A, c, xs, h1, h2, by simp [go_sem, *], h5⟩
def g1L : List ByteArray := [⟨#[110, 111, 114, 116, 104]⟩, ⟨#[112, 105, 101, 114]⟩, ⟨#[109, 111, 108, 101]⟩, ⟨#[108, 105, 103, 104, 116]⟩, ⟨#[102, 101, 114, 114, 121]⟩]
theorem g1L_size : ∀ s ∈ g1L, s.size ≤ 20 := by
  intro s hs
  simp only [g1L, List.mem_cons, List.not_mem_nil, or_false] at hs
  rcases hs with rfl | rfl | rfl | rfl | rfl <;> decide
def g2L : List ByteArray := [⟨#[]⟩, ⟨#[65]⟩, ⟨#[97, 98, 99, 100, 101, 102, 103, 104, 105, 106, 107]⟩]
theorem g2L_size : ∀ s ∈ g2L, s.size ≤ 20 := by
  intro s hs
  simp only [g2L, List.mem_cons, List.not_mem_nil, or_false] at hs
  rcases hs with rfl | rfl | rfl <;> decide

/-- append(own, r) as a step of a region that draws. -/
theorem step_append_own1 {P : Program} (w : World) {ops : Array Oper} {o : Oper} {a : Act} {K : Act → World → Prop} {Q : Exit → Act → World → Prop} {E : Prop} (hgd : o.guard = none) (s x : Operand) (t : TypeId)
    (ho : o.op = .call { callee := .builtin .append, args := #[s, x], argTypes := #[t, t] })
    (base : Nat) (e : TypeId) (i : TypeInfo) (z : Value) (bytes : Nat) (ht : P.underlying t = some (.slice e)) (hi : P.info? e = some i) (hz : i.zero = some z)
    (hsize : i.size = 2) (hby : i.bytes = bytes) (hzs : z.cells.size = 2)
    (v : Value) (n : Nat) (zs : List Value) (hs : a.eval s = v) (hown : w.ownsRow base e 2 v n zs)
    (gr : Nat) (r : Int × Int) (hx : a.eval x = .slice (some ⟨gr, 0, none⟩) 1 1) (hL : w.heap[gr]? = some (.cells #[.int .i64 r.1, .int .i64 r.2] e (0, 0)))
    (h63 : n + 1 ≤ maxLen) (hbytes : (n + 1) * bytes ≤ 140737488355328) (hbase : base ≤ w.heap.size)
    (h : ∀ A' c' w', w'.ownsRow base e 2 (.slice A' (n + 1) c') (n + 1) (zs ++ [r].flatMap pairC) → w.grownBy w' v.ownBlock → K (a.put o.dst (.slice A' (n + 1) c')) w') :
    if Region.wanted o (yielded ops a.tmps) = true then Oper.wp P o a w K Q else E := by
  have hw : Region.wanted o (yielded ops a.tmps) = true := by simp [Region.wanted, hgd]
  rw [if_pos hw]
  obtain ⟨v', w', hr, h2, h3, -, -⟩ := run_append_own_at (P := P) w base t o.type e i z 2 bytes ht hi hz hsize hby hzs (by decide) v n zs hown ⟨gr, 0, none⟩ 1 1 [.int .i64 r.1, .int .i64 r.2] rfl (fun j u hj => by
    rw [Addr.add_lit, Nat.zero_add, cell_of_row w gr j _ _ _ hL]
    simpa using hj) (by simp [Value.oneCell']) h63 hbytes hbase
  obtain ⟨A', c', rfl, -, -, -⟩ := own_form h2
  unfold Oper.wp execOp
  simp only [ho, resolve, invoke, builtin, Sem.run_bind, Sem.run_pure, Result.andThen_ok, List.map_toArray, List.map_cons, List.map_nil, hs, hx, hr]
  exact h A' c' w' h2 h3
set_option maxRecDepth 100000 in
set_option maxHeartbeats 8000000 in
theorem gauge_any (g : Nat) (k : Int) (id : Int) (w : World) (hC : CurB w g k) (hk : k ≤ 600000) : Calls Try.prog 66 #[.pointer (some ⟨g, 0, none⟩), .int .i64 id] w fun e w' => ∃ (i z : Int) (nm : ByteArray) (u : Value) (xs : List (Int × Int)), e = .returned (.agg #[.int .i64 i, .string nm, .int .i64 z, u]) ∧ nm.size ≤ 20 ∧ xs.length ≤ 40 ∧ w'.ownsRow w.heap.size 28 2 u xs.length (xs.flatMap pairC) ∧ CurB w' g (k + 200) ∧ Stir g w w' := by
  obtain ⟨i0, hi0, hz0, hz1, hz2⟩ := info_parts infoReading
  have hg := hC.lt
  have HC := Lib.hid hC
  clear hC
  go_enter Try.func66, Try.ntmps66
  go_wp2_with fail
  refine (of_any g _ 5 k g1L _ (HC.out.kept (Kept.alloc (Kept.alloc (Kept.refl _) _) _)) (by omega) (by exact StrsIn.lit (by rfl) (by simp)) (by first | (simp; done) | (simp; omega) | omega) (by decide) (by decide)).mono ?_
  rintro e w1 ⟨nm0, rfl, hm, hc1, hs1⟩
  have HM := Lib.hid (g1L_size nm0 hm)
  have C1 := Lib.hid hc1
  have R1 := Lib.hid (blk4_stir (b := w.heap.size) (v0 := .int .i64 0) (v1 := .string { data := #[] }) (v2 := .int .i64 0) (v3 := .slice none 0 0) hs1 (by omega) (by simp [go_sem]))
  have S1 := Lib.hid ((Stir.kept (g := g) (Kept.alloc (Kept.alloc (Kept.refl w) _) _)).trans hs1)
  have z1 := S1.out.size
  clear hm hc1 hs1
  go_wp2_with fail
  refine (among_any g _ 5 (k + 2) [0, -120, 35, 1000, -1000] _ (C1.out.kept (Kept.alloc (Kept.refl _) _)) (by omega) (by exact NumsIn.lit (by rfl) (by simp)) (by omega) (by decide) (by decide)).mono ?_
  rintro e w2 ⟨z0, rfl, -, hc2, hs2⟩
  have z2 := hs2.size
  have S2 := Lib.hid ((S1.out.alloc (.cells #[.int .i64 0, .int .i64 (-120), .int .i64 35, .int .i64 1000, .int .i64 (-1000)] 3)).trans hs2)
  have R2 := Lib.hid (blk4_stir hs2 (by omega) (blk4 (Kept.alloc (Kept.refl w1) _) R1.out))
  have C2 := Lib.hid hc2
  have z3 := World.block_lt_of_cell? _ _ R2.out.1
  clear hc2 hs2 R1 C1 S1
  go_upto_region 2 with fail
  have hbw : w.heap.size < w2.heap.size := by simpa using z3
  have G0 := Lib.hid (show GS w (w2.alloc (.cells #[.int .i64 id, .string nm0, .int .i64 z0, .slice none 0 0] 26)) g w2.heap.size (k + 2 + 2) 0 from
    ⟨⟨id, z0, nm0, none, 0, [], HM.out, by simp, by simp [go_sem], World.ownsRow_nil _ _ _ _⟩, C2.out.kept (Kept.alloc (Kept.refl _) _), S2.out.alloc _, blk4 (Kept.alloc (Kept.refl w2) _) R2.out⟩)
  clear z1 z2 z3 C2 S2 R2 HM HC
  generalize (w2.alloc (.cells #[.int .i64 id, .string nm0, .int .i64 z0, .slice none 0 0] 26)) = w3 at *
  generalize w2.heap.size = b at *
  go_wp2_with fail
  have hs3 := G0.out.stir.size
  refine (among_any g _ 4 (k + 2 + 2) [0, 10, 600, 9900] _ (G0.out.cur.kept (Kept.alloc (Kept.refl _) _)) (by omega) (by exact NumsIn.lit (by rfl) (by simp)) (by omega) (by decide) (by decide)).mono ?_
  rintro e w4 ⟨tm0, rfl, -, hc4, hs4⟩
  have G4 := Lib.hid (G0.out.step hg hbw ((Stir.kept (Kept.alloc (Kept.refl _) _)).trans hs4) hc4)
  clear hc4 hs4 G0 hs3
  go_wp2_with fail
  refine (pick_any g (k + 2 + 2 + 2) 8 _ G4.out.cur (by omega) (by omega)).mono ?_
  rintro e w5 ⟨n0, rfl, ⟨n00, n01⟩, hc5, hs5⟩
  obtain ⟨m0, rfl⟩ : ∃ m : Nat, n0 = (m : Int) := ⟨n0.toNat, by omega⟩
  have G5 := Lib.hid (G4.out.step hg hbw hs5 hc5)
  clear hc5 hs5 G4
  go_wp2_with fail
  go_loopw [6, 7] (fun t n wr => ∃ (q : Nat) (tm : Int), q ≤ m0 ∧ n = .int .i64 (q : Int) ∧ t = .int .i64 tm ∧ GS w wr g b (k + 8 + 4 * ((m0 : Int) - (q : Int))) (m0 - q)) (fun _ n _ => (intOf n).toNat)
  case atStart => exact ⟨m0, tm0, Nat.le_refl _, rfl, rfl, G5.out.mono (by omega) (by omega)⟩
  case round =>
    clear G5
    obtain ⟨q, tm, hq, rfl, rfl, hgs⟩ := hrel
    have GR := Lib.hid hgs
    clear hgs
    by_cases hq0 : 0 < q
    · have q1 : (0 : Int) < (q : Int) := by omega
      go_upto_region 6 with fail
      go_cut [] (fun wx => GS w wx g b (k + 8 + 4 * ((m0 : Int) - (q : Int)) + 2) (m0 - q + 1))
      case first =>
        obtain ⟨K0, hK0⟩ : ∃ K0, K0 = k + 8 + 4 * ((m0 : Int) - (q : Int)) := ⟨_, rfl⟩
        rw [← hK0] at GR
        have hK1 : K0 ≤ 800000 := by omega
        obtain ⟨⟨i, z, nm, A, c, xs, hnm, hxl, he, ho⟩, hcu, hsu, hre⟩ := GR.out
        have EU := Lib.hid he
        have OU := Lib.hid ho
        have CU := Lib.hid hcu
        have SU := Lib.hid hsu
        have RU := Lib.hid hre
        clear he ho hcu hsu hre
        refine wp_region_held_drew (S := fun w' => Stir g w w') (by kernel_rfl) (by (try dsimp only); exact SU.out.drew) (fun hHeld => ?_)
        refine wpAnyH_take (i := 0) (v := ?_) rfl (by kernel_rfl) (by kernel_rfl) (by kernel_rfl) (fun _ _ _ h => h) (Or.inl ⟨by kernel_rfl, ?_⟩) (by assumption) ?_
        rotate_left
        focus (intro w' hSw; (try dsimp only at hSw); go_simp; (try with_reducible rfl))
        (try simp only [Act.put, List.getElem_toArray, List.getElem_cons_zero, List.getElem_cons_succ, List.setIfInBounds_toArray, List.set_cons_zero, List.set_cons_succ])
        refine wpAnyH_take (i := 2) (v := ?_) rfl (by kernel_rfl) (by kernel_rfl) (by kernel_rfl) (fun _ _ _ h => h) (Or.inl ⟨by kernel_rfl, ?_⟩) (by assumption) ?_
        rotate_left
        focus (intro w' hSw; (try dsimp only at hSw); go_simp; (try with_reducible rfl))
        (try simp only [Act.put, List.getElem_toArray, List.getElem_cons_zero, List.getElem_cons_succ, List.setIfInBounds_toArray, List.set_cons_zero, List.set_cons_succ])
        refine wpAnyH_take (i := 3) (v := ?_) rfl (by kernel_rfl) (by kernel_rfl) (by kernel_rfl) (fun _ _ _ h => h) (Or.inl ⟨by kernel_rfl, ?_⟩) (by assumption) ?_
        rotate_left
        focus (intro w' hSw; (try dsimp only at hSw); go_simp; (try with_reducible rfl))
        (try simp only [Act.put, List.getElem_toArray, List.getElem_cons_zero, List.getElem_cons_succ, List.setIfInBounds_toArray, List.set_cons_zero, List.set_cons_succ])
        have kd : Kept wr wr.drew := Kept.drew (Kept.refl _)
        have E0 := Lib.hid (blk4 kd EU.out)
        have O0 := Lib.hid (own_kept OU.out kd)
        have C0 := Lib.hid (CU.out.kept kd)
        have S0 := Lib.hid SU.out.drew
        have R0 := Lib.hid (blk4 kd RU.out)
        clear kd
        generalize wr.drew = p0 at *
        refine wpAnyH_ready (rs := [1, 4]) (by kernel_rfl) (by simp) ?_
        refine AllReadyH.cons rfl (fun K hK => ?_) (AllReadyH.cons rfl (fun K hK => ?_) (AllReadyH.nil))
        · skip
          have s3 := E0.out.2.2.2.2.2.2.1
          go_simp
          refine hK.out _ _ (by (try dsimp only); exact S0.out) (fun hHeld => ?_)
          clear hK K
          (try simp only [Act.put, List.getElem_toArray, List.getElem_cons_zero, List.getElem_cons_succ, List.setIfInBounds_toArray, List.set_cons_zero, List.set_cons_succ])
          clear s3
          refine wpAnyH_ready (rs := [4]) (by kernel_rfl) (by simp) ?_
          refine AllReadyH.cons rfl (fun K hK => ?_) (AllReadyH.nil)
          go_simp
          have ka : Kept p0 (p0.alloc (.cells #[.int .i64 (-500), .int .i64 0, .int .i64 120, .int .i64 130, .int .i64 130, .int .i64 240, .int .i64 2000] 3)) := Kept.alloc (Kept.refl _) _
          refine hK.out _ _ (by (try dsimp only); exact S0.out.alloc _) (fun hHeld => ?_)
          clear hK K
          (try simp only [Act.put, List.getElem_toArray, List.getElem_cons_zero, List.getElem_cons_succ, List.setIfInBounds_toArray, List.set_cons_zero, List.set_cons_succ])
          have E2 := Lib.hid (blk4 ka E0.out)
          have O2 := Lib.hid (own_kept O0.out ka)
          have C2 := Lib.hid (C0.out.kept ka)
          have S2 := Lib.hid (S0.out.alloc (.cells #[.int .i64 (-500), .int .i64 0, .int .i64 120, .int .i64 130, .int .i64 130, .int .i64 240, .int .i64 2000] 3))
          have R2 := Lib.hid (blk4 ka R0.out)
          have NI4_2 := Lib.hid (NumsIn.lit (w := p0) (xs := [-500, 0, 120, 130, 130, 240, 2000]) (t := 3) (n := p0.heap.size) (cs := #[.int .i64 (-500), .int .i64 0, .int .i64 120, .int .i64 130, .int .i64 130, .int .i64 240, .int .i64 2000]) (by rfl) rfl)
          have hg2 : p0.heap.size ≠ g := fun e => by have := S0.out.size; omega
          clear ka
          generalize p0.alloc (.cells #[.int .i64 (-500), .int .i64 0, .int .i64 120, .int .i64 130, .int .i64 130, .int .i64 240, .int .i64 2000] 3) = p2 at *
          refine wpAnyH_ready (rs := [5]) (by kernel_rfl) (by simp) ?_
          refine AllReadyH.cons rfl (fun K hK => ?_) (AllReadyH.nil)
          go_simp
          go_at_call 67
          refine (among_any g _ 7 K0 [-500, 0, 120, 130, 130, 240, 2000] _ C2.out (by omega) NI4_2.out hg2 (by decide) (by decide)).mono ?_
          rintro e p3 ⟨v5, rfl, -, hc3, hs3⟩
          (try go_wp2_with fail)
          refine hK.out _ _ (by (try dsimp only); exact S2.out.trans hs3) (fun hHeld => ?_)
          clear hK K
          (try simp only [Act.put, List.getElem_toArray, List.getElem_cons_zero, List.getElem_cons_succ, List.setIfInBounds_toArray, List.set_cons_zero, List.set_cons_succ])
          have E3 := Lib.hid (blk4_stir hs3 (by omega) E2.out)
          have O3 := Lib.hid (hs3.own O2.out (by omega))
          have C3 := Lib.hid hc3
          have S3 := Lib.hid (S2.out.trans hs3)
          have R3 := Lib.hid (blk4_stir hs3 (by omega) R2.out)
          have NI4_3 := Lib.hid (NI4_2.out.stir hs3 hg2)
          clear hc3 hs3
          refine wpAnyH_take (i := 6) (v := ?_) rfl (by kernel_rfl) (by kernel_rfl) (by kernel_rfl) (fun _ _ _ h => h) (Or.inl ⟨by kernel_rfl, ?_⟩) (by assumption) ?_
          rotate_left
          focus (intro w' hSw; (try dsimp only at hSw); go_simp; (try with_reducible rfl))
          (try simp only [Act.put, List.getElem_toArray, List.getElem_cons_zero, List.getElem_cons_succ, List.setIfInBounds_toArray, List.set_cons_zero, List.set_cons_succ])
          refine wpAnyH_ready (rs := [7]) (by kernel_rfl) (by simp) ?_
          refine AllReadyH.cons rfl (fun K hK => ?_) (AllReadyH.nil)
          go_simp
          have ka : Kept p3 (p3.alloc (.cells #[.int .i64 tm, .int .i64 v5] 28)) := Kept.alloc (Kept.refl _) _
          refine hK.out _ _ (by (try dsimp only); exact S3.out.alloc _) (fun hHeld => ?_)
          clear hK K
          (try simp only [Act.put, List.getElem_toArray, List.getElem_cons_zero, List.getElem_cons_succ, List.setIfInBounds_toArray, List.set_cons_zero, List.set_cons_succ])
          have E4 := Lib.hid (blk4 ka E3.out)
          have O4 := Lib.hid (own_kept O3.out ka)
          have C4 := Lib.hid (C3.out.kept ka)
          have S4 := Lib.hid (S3.out.alloc (.cells #[.int .i64 tm, .int .i64 v5] 28))
          have R4 := Lib.hid (blk4 ka R3.out)
          have NI4_4 := Lib.hid (NI4_3.out.kept ka)
          have B4 := Lib.hid (heap_alloc_new p3 (.cells #[.int .i64 tm, .int .i64 v5] 28))
          clear ka
          generalize p3.alloc (.cells #[.int .i64 tm, .int .i64 v5] 28) = p4 at *
          refine wpAnyH_ready (rs := [8]) (by kernel_rfl) (by simp) ?_
          refine AllReadyH.cons rfl (fun K hK => ?_) (AllReadyH.nil)
          refine step_append_own1 _ (by rfl) _ _ _ (by rfl) (b + 1) 28 i0 _ 16 Try.underlying24 hi0 hz0 hz1 hz2 rfl _ xs.length _ (by rfl) O4.out _ (tm, v5) (by rfl) B4.out (by unfold maxLen; omega) (by omega) (by have := World.block_lt_of_cell? _ _ E4.out.1; simp at this; omega) ?_
          intro A5 c5 p5 hown5 hgrow5
          have hrow : ∀ q, (Value.slice A xs.length c).ownBlock = some q → b + 1 ≤ q := fun q hq => (O4.out.lt q hq).1
          have hnb : some b ≠ (Value.slice A xs.length c).ownBlock := fun e => by have := hrow b e.symm; omega
          have hnr : some w.heap.size ≠ (Value.slice A xs.length c).ownBlock := fun e => by have := hrow _ e.symm; omega
          have S5 := Lib.hid (S4.out.grown hgrow5 (fun q hq => by have := hrow q hq; omega))
          refine hK.out _ _ (by (try dsimp only); exact S5.out) (fun hHeld => ?_)
          clear hK K
          (try simp only [Act.put, List.getElem_toArray, List.getElem_cons_zero, List.getElem_cons_succ, List.setIfInBounds_toArray, List.set_cons_zero, List.set_cons_succ])
          have E5 := Lib.hid (blk4_grown hgrow5 hnb E4.out)
          have O5 := Lib.hid hown5
          have C5 := Lib.hid (C4.out.grown hgrow5 (fun q hq => by have := hrow q hq; omega))
          have R5 := Lib.hid (blk4_grown hgrow5 hnr R4.out)
          clear hown5 hgrow5 hrow hnb hnr
          refine wpAnyH_ready (rs := [9]) (by kernel_rfl) (by simp) ?_
          refine AllReadyH.cons rfl (fun K hK => ?_) (AllReadyH.nil)
          go_simp
          refine hK.out _ _ (by (try dsimp only); exact hHeld) (fun hHeld => ?_)
          clear hK K
          (try simp only [Act.put, List.getElem_toArray, List.getElem_cons_zero, List.getElem_cons_succ, List.setIfInBounds_toArray, List.set_cons_zero, List.set_cons_succ])
          refine wpAnyH_ready (rs := [10]) (by kernel_rfl) (by simp) ?_
          refine AllReadyH.cons rfl (fun K hK => ?_) (AllReadyH.nil)
          obtain ⟨q0, f0, q1, f1, q2, f2, q3, f3⟩ := E5.out
          go_simp
          have SF := Lib.hid (S5.out.setNew (p := ⟨b, 3, none⟩) (by simp; omega) (.slice A5 (xs.length + 1) c5))
          have hl : (xs ++ [(tm, v5)]).length = xs.length + 1 := by simp
          have FG := Lib.hid (show GS w (p5.setCell ⟨b, 3, none⟩ (.slice A5 (xs.length + 1) c5)) g b (K0 + 2) (m0 - q + 1) from ⟨⟨i, z, nm, A5, c5, xs ++ [(tm, v5)], hnm, by omega, by rw [hl]; simp [go_sem, *], by rw [hl, List.flatMap_append]; exact ownsRow_setCell_below O5.out (by simp) _⟩, C5.out.set (by simp; omega) _, SF.out, blk4_set _ (by simp; omega) _ R5.out⟩)
          refine hK.out _ _ (by (try dsimp only); exact SF.out) (fun hHeld => ?_)
          clear hK K
          (try simp only [Act.put, List.getElem_toArray, List.getElem_cons_zero, List.getElem_cons_succ, List.setIfInBounds_toArray, List.set_cons_zero, List.set_cons_succ])
          clear q0 f0 q1 f1 q2 f2 q3 f3
          refine wpAnyH_done (by kernel_rfl) ?_ _
          go_wp2_with fail
          go_meet
          rw [← hK0]
          exact FG.out.mono (by omega) (Nat.le_refl _)
        · skip
          go_simp
          have ka : Kept p0 (p0.alloc (.cells #[.int .i64 (-500), .int .i64 0, .int .i64 120, .int .i64 130, .int .i64 130, .int .i64 240, .int .i64 2000] 3)) := Kept.alloc (Kept.refl _) _
          refine hK.out _ _ (by (try dsimp only); exact S0.out.alloc _) (fun hHeld => ?_)
          clear hK K
          (try simp only [Act.put, List.getElem_toArray, List.getElem_cons_zero, List.getElem_cons_succ, List.setIfInBounds_toArray, List.set_cons_zero, List.set_cons_succ])
          have E8 := Lib.hid (blk4 ka E0.out)
          have O8 := Lib.hid (own_kept O0.out ka)
          have C8 := Lib.hid (C0.out.kept ka)
          have S8 := Lib.hid (S0.out.alloc (.cells #[.int .i64 (-500), .int .i64 0, .int .i64 120, .int .i64 130, .int .i64 130, .int .i64 240, .int .i64 2000] 3))
          have R8 := Lib.hid (blk4 ka R0.out)
          have NI4_8 := Lib.hid (NumsIn.lit (w := p0) (xs := [-500, 0, 120, 130, 130, 240, 2000]) (t := 3) (n := p0.heap.size) (cs := #[.int .i64 (-500), .int .i64 0, .int .i64 120, .int .i64 130, .int .i64 130, .int .i64 240, .int .i64 2000]) (by rfl) rfl)
          have hg8 : p0.heap.size ≠ g := fun e => by have := S0.out.size; omega
          clear ka
          generalize p0.alloc (.cells #[.int .i64 (-500), .int .i64 0, .int .i64 120, .int .i64 130, .int .i64 130, .int .i64 240, .int .i64 2000] 3) = p8 at *
          refine wpAnyH_ready (rs := [1, 5]) (by kernel_rfl) (by simp) ?_
          refine AllReadyH.cons rfl (fun K hK => ?_) (AllReadyH.cons rfl (fun K hK => ?_) (AllReadyH.nil))
          · skip
            have s3 := E8.out.2.2.2.2.2.2.1
            go_simp
            refine hK.out _ _ (by (try dsimp only); exact S8.out) (fun hHeld => ?_)
            clear hK K
            (try simp only [Act.put, List.getElem_toArray, List.getElem_cons_zero, List.getElem_cons_succ, List.setIfInBounds_toArray, List.set_cons_zero, List.set_cons_succ])
            clear s3
            refine wpAnyH_ready (rs := [5]) (by kernel_rfl) (by simp) ?_
            refine AllReadyH.cons rfl (fun K hK => ?_) (AllReadyH.nil)
            go_simp
            go_at_call 67
            refine (among_any g _ 7 K0 [-500, 0, 120, 130, 130, 240, 2000] _ C8.out (by omega) NI4_8.out hg8 (by decide) (by decide)).mono ?_
            rintro e p10 ⟨v5, rfl, -, hc10, hs10⟩
            (try go_wp2_with fail)
            refine hK.out _ _ (by (try dsimp only); exact S8.out.trans hs10) (fun hHeld => ?_)
            clear hK K
            (try simp only [Act.put, List.getElem_toArray, List.getElem_cons_zero, List.getElem_cons_succ, List.setIfInBounds_toArray, List.set_cons_zero, List.set_cons_succ])
            have E10 := Lib.hid (blk4_stir hs10 (by omega) E8.out)
            have O10 := Lib.hid (hs10.own O8.out (by omega))
            have C10 := Lib.hid hc10
            have S10 := Lib.hid (S8.out.trans hs10)
            have R10 := Lib.hid (blk4_stir hs10 (by omega) R8.out)
            have NI4_10 := Lib.hid (NI4_8.out.stir hs10 hg8)
            clear hc10 hs10
            refine wpAnyH_take (i := 6) (v := ?_) rfl (by kernel_rfl) (by kernel_rfl) (by kernel_rfl) (fun _ _ _ h => h) (Or.inl ⟨by kernel_rfl, ?_⟩) (by assumption) ?_
            rotate_left
            focus (intro w' hSw; (try dsimp only at hSw); go_simp; (try with_reducible rfl))
            (try simp only [Act.put, List.getElem_toArray, List.getElem_cons_zero, List.getElem_cons_succ, List.setIfInBounds_toArray, List.set_cons_zero, List.set_cons_succ])
            refine wpAnyH_ready (rs := [7]) (by kernel_rfl) (by simp) ?_
            refine AllReadyH.cons rfl (fun K hK => ?_) (AllReadyH.nil)
            go_simp
            have ka : Kept p10 (p10.alloc (.cells #[.int .i64 tm, .int .i64 v5] 28)) := Kept.alloc (Kept.refl _) _
            refine hK.out _ _ (by (try dsimp only); exact S10.out.alloc _) (fun hHeld => ?_)
            clear hK K
            (try simp only [Act.put, List.getElem_toArray, List.getElem_cons_zero, List.getElem_cons_succ, List.setIfInBounds_toArray, List.set_cons_zero, List.set_cons_succ])
            have E11 := Lib.hid (blk4 ka E10.out)
            have O11 := Lib.hid (own_kept O10.out ka)
            have C11 := Lib.hid (C10.out.kept ka)
            have S11 := Lib.hid (S10.out.alloc (.cells #[.int .i64 tm, .int .i64 v5] 28))
            have R11 := Lib.hid (blk4 ka R10.out)
            have NI4_11 := Lib.hid (NI4_10.out.kept ka)
            have B11 := Lib.hid (heap_alloc_new p10 (.cells #[.int .i64 tm, .int .i64 v5] 28))
            clear ka
            generalize p10.alloc (.cells #[.int .i64 tm, .int .i64 v5] 28) = p11 at *
            refine wpAnyH_ready (rs := [8]) (by kernel_rfl) (by simp) ?_
            refine AllReadyH.cons rfl (fun K hK => ?_) (AllReadyH.nil)
            refine step_append_own1 _ (by rfl) _ _ _ (by rfl) (b + 1) 28 i0 _ 16 Try.underlying24 hi0 hz0 hz1 hz2 rfl _ xs.length _ (by rfl) O11.out _ (tm, v5) (by rfl) B11.out (by unfold maxLen; omega) (by omega) (by have := World.block_lt_of_cell? _ _ E11.out.1; simp at this; omega) ?_
            intro A12 c12 p12 hown12 hgrow12
            have hrow : ∀ q, (Value.slice A xs.length c).ownBlock = some q → b + 1 ≤ q := fun q hq => (O11.out.lt q hq).1
            have hnb : some b ≠ (Value.slice A xs.length c).ownBlock := fun e => by have := hrow b e.symm; omega
            have hnr : some w.heap.size ≠ (Value.slice A xs.length c).ownBlock := fun e => by have := hrow _ e.symm; omega
            have S12 := Lib.hid (S11.out.grown hgrow12 (fun q hq => by have := hrow q hq; omega))
            refine hK.out _ _ (by (try dsimp only); exact S12.out) (fun hHeld => ?_)
            clear hK K
            (try simp only [Act.put, List.getElem_toArray, List.getElem_cons_zero, List.getElem_cons_succ, List.setIfInBounds_toArray, List.set_cons_zero, List.set_cons_succ])
            have E12 := Lib.hid (blk4_grown hgrow12 hnb E11.out)
            have O12 := Lib.hid hown12
            have C12 := Lib.hid (C11.out.grown hgrow12 (fun q hq => by have := hrow q hq; omega))
            have R12 := Lib.hid (blk4_grown hgrow12 hnr R11.out)
            clear hown12 hgrow12 hrow hnb hnr
            refine wpAnyH_ready (rs := [9]) (by kernel_rfl) (by simp) ?_
            refine AllReadyH.cons rfl (fun K hK => ?_) (AllReadyH.nil)
            go_simp
            refine hK.out _ _ (by (try dsimp only); exact hHeld) (fun hHeld => ?_)
            clear hK K
            (try simp only [Act.put, List.getElem_toArray, List.getElem_cons_zero, List.getElem_cons_succ, List.setIfInBounds_toArray, List.set_cons_zero, List.set_cons_succ])
            refine wpAnyH_ready (rs := [10]) (by kernel_rfl) (by simp) ?_
            refine AllReadyH.cons rfl (fun K hK => ?_) (AllReadyH.nil)
            obtain ⟨q0, f0, q1, f1, q2, f2, q3, f3⟩ := E12.out
            go_simp
            have SF := Lib.hid (S12.out.setNew (p := ⟨b, 3, none⟩) (by simp; omega) (.slice A12 (xs.length + 1) c12))
            have hl : (xs ++ [(tm, v5)]).length = xs.length + 1 := by simp
            have FG := Lib.hid (show GS w (p12.setCell ⟨b, 3, none⟩ (.slice A12 (xs.length + 1) c12)) g b (K0 + 2) (m0 - q + 1) from ⟨⟨i, z, nm, A12, c12, xs ++ [(tm, v5)], hnm, by omega, by rw [hl]; simp [go_sem, *], by rw [hl, List.flatMap_append]; exact ownsRow_setCell_below O12.out (by simp) _⟩, C12.out.set (by simp; omega) _, SF.out, blk4_set _ (by simp; omega) _ R12.out⟩)
            refine hK.out _ _ (by (try dsimp only); exact SF.out) (fun hHeld => ?_)
            clear hK K
            (try simp only [Act.put, List.getElem_toArray, List.getElem_cons_zero, List.getElem_cons_succ, List.setIfInBounds_toArray, List.set_cons_zero, List.set_cons_succ])
            clear q0 f0 q1 f1 q2 f2 q3 f3
            refine wpAnyH_done (by kernel_rfl) ?_ _
            go_wp2_with fail
            go_meet
            rw [← hK0]
            exact FG.out.mono (by omega) (Nat.le_refl _)
          · skip
            go_simp
            go_at_call 67
            refine (among_any g _ 7 K0 [-500, 0, 120, 130, 130, 240, 2000] _ C8.out (by omega) NI4_8.out hg8 (by decide) (by decide)).mono ?_
            rintro e p15 ⟨v5, rfl, -, hc15, hs15⟩
            (try go_wp2_with fail)
            refine hK.out _ _ (by (try dsimp only); exact S8.out.trans hs15) (fun hHeld => ?_)
            clear hK K
            (try simp only [Act.put, List.getElem_toArray, List.getElem_cons_zero, List.getElem_cons_succ, List.setIfInBounds_toArray, List.set_cons_zero, List.set_cons_succ])
            have E15 := Lib.hid (blk4_stir hs15 (by omega) E8.out)
            have O15 := Lib.hid (hs15.own O8.out (by omega))
            have C15 := Lib.hid hc15
            have S15 := Lib.hid (S8.out.trans hs15)
            have R15 := Lib.hid (blk4_stir hs15 (by omega) R8.out)
            have NI4_15 := Lib.hid (NI4_8.out.stir hs15 hg8)
            clear hc15 hs15
            refine wpAnyH_take (i := 6) (v := ?_) rfl (by kernel_rfl) (by kernel_rfl) (by kernel_rfl) (fun _ _ _ h => h) (Or.inl ⟨by kernel_rfl, ?_⟩) (by assumption) ?_
            rotate_left
            focus (intro w' hSw; (try dsimp only at hSw); go_simp; (try with_reducible rfl))
            (try simp only [Act.put, List.getElem_toArray, List.getElem_cons_zero, List.getElem_cons_succ, List.setIfInBounds_toArray, List.set_cons_zero, List.set_cons_succ])
            refine wpAnyH_ready (rs := [1, 7]) (by kernel_rfl) (by simp) ?_
            refine AllReadyH.cons rfl (fun K hK => ?_) (AllReadyH.cons rfl (fun K hK => ?_) (AllReadyH.nil))
            · skip
              have s3 := E15.out.2.2.2.2.2.2.1
              go_simp
              refine hK.out _ _ (by (try dsimp only); exact S15.out) (fun hHeld => ?_)
              clear hK K
              (try simp only [Act.put, List.getElem_toArray, List.getElem_cons_zero, List.getElem_cons_succ, List.setIfInBounds_toArray, List.set_cons_zero, List.set_cons_succ])
              clear s3
              refine wpAnyH_ready (rs := [7]) (by kernel_rfl) (by simp) ?_
              refine AllReadyH.cons rfl (fun K hK => ?_) (AllReadyH.nil)
              go_simp
              have ka : Kept p15 (p15.alloc (.cells #[.int .i64 tm, .int .i64 v5] 28)) := Kept.alloc (Kept.refl _) _
              refine hK.out _ _ (by (try dsimp only); exact S15.out.alloc _) (fun hHeld => ?_)
              clear hK K
              (try simp only [Act.put, List.getElem_toArray, List.getElem_cons_zero, List.getElem_cons_succ, List.setIfInBounds_toArray, List.set_cons_zero, List.set_cons_succ])
              have E17 := Lib.hid (blk4 ka E15.out)
              have O17 := Lib.hid (own_kept O15.out ka)
              have C17 := Lib.hid (C15.out.kept ka)
              have S17 := Lib.hid (S15.out.alloc (.cells #[.int .i64 tm, .int .i64 v5] 28))
              have R17 := Lib.hid (blk4 ka R15.out)
              have NI4_17 := Lib.hid (NI4_15.out.kept ka)
              have B17 := Lib.hid (heap_alloc_new p15 (.cells #[.int .i64 tm, .int .i64 v5] 28))
              clear ka
              generalize p15.alloc (.cells #[.int .i64 tm, .int .i64 v5] 28) = p17 at *
              refine wpAnyH_ready (rs := [8]) (by kernel_rfl) (by simp) ?_
              refine AllReadyH.cons rfl (fun K hK => ?_) (AllReadyH.nil)
              refine step_append_own1 _ (by rfl) _ _ _ (by rfl) (b + 1) 28 i0 _ 16 Try.underlying24 hi0 hz0 hz1 hz2 rfl _ xs.length _ (by rfl) O17.out _ (tm, v5) (by rfl) B17.out (by unfold maxLen; omega) (by omega) (by have := World.block_lt_of_cell? _ _ E17.out.1; simp at this; omega) ?_
              intro A18 c18 p18 hown18 hgrow18
              have hrow : ∀ q, (Value.slice A xs.length c).ownBlock = some q → b + 1 ≤ q := fun q hq => (O17.out.lt q hq).1
              have hnb : some b ≠ (Value.slice A xs.length c).ownBlock := fun e => by have := hrow b e.symm; omega
              have hnr : some w.heap.size ≠ (Value.slice A xs.length c).ownBlock := fun e => by have := hrow _ e.symm; omega
              have S18 := Lib.hid (S17.out.grown hgrow18 (fun q hq => by have := hrow q hq; omega))
              refine hK.out _ _ (by (try dsimp only); exact S18.out) (fun hHeld => ?_)
              clear hK K
              (try simp only [Act.put, List.getElem_toArray, List.getElem_cons_zero, List.getElem_cons_succ, List.setIfInBounds_toArray, List.set_cons_zero, List.set_cons_succ])
              have E18 := Lib.hid (blk4_grown hgrow18 hnb E17.out)
              have O18 := Lib.hid hown18
              have C18 := Lib.hid (C17.out.grown hgrow18 (fun q hq => by have := hrow q hq; omega))
              have R18 := Lib.hid (blk4_grown hgrow18 hnr R17.out)
              clear hown18 hgrow18 hrow hnb hnr
              refine wpAnyH_ready (rs := [9]) (by kernel_rfl) (by simp) ?_
              refine AllReadyH.cons rfl (fun K hK => ?_) (AllReadyH.nil)
              go_simp
              refine hK.out _ _ (by (try dsimp only); exact hHeld) (fun hHeld => ?_)
              clear hK K
              (try simp only [Act.put, List.getElem_toArray, List.getElem_cons_zero, List.getElem_cons_succ, List.setIfInBounds_toArray, List.set_cons_zero, List.set_cons_succ])
              refine wpAnyH_ready (rs := [10]) (by kernel_rfl) (by simp) ?_
              refine AllReadyH.cons rfl (fun K hK => ?_) (AllReadyH.nil)
              obtain ⟨q0, f0, q1, f1, q2, f2, q3, f3⟩ := E18.out
              go_simp
              have SF := Lib.hid (S18.out.setNew (p := ⟨b, 3, none⟩) (by simp; omega) (.slice A18 (xs.length + 1) c18))
              have hl : (xs ++ [(tm, v5)]).length = xs.length + 1 := by simp
              have FG := Lib.hid (show GS w (p18.setCell ⟨b, 3, none⟩ (.slice A18 (xs.length + 1) c18)) g b (K0 + 2) (m0 - q + 1) from ⟨⟨i, z, nm, A18, c18, xs ++ [(tm, v5)], hnm, by omega, by rw [hl]; simp [go_sem, *], by rw [hl, List.flatMap_append]; exact ownsRow_setCell_below O18.out (by simp) _⟩, C18.out.set (by simp; omega) _, SF.out, blk4_set _ (by simp; omega) _ R18.out⟩)
              refine hK.out _ _ (by (try dsimp only); exact SF.out) (fun hHeld => ?_)
              clear hK K
              (try simp only [Act.put, List.getElem_toArray, List.getElem_cons_zero, List.getElem_cons_succ, List.setIfInBounds_toArray, List.set_cons_zero, List.set_cons_succ])
              clear q0 f0 q1 f1 q2 f2 q3 f3
              refine wpAnyH_done (by kernel_rfl) ?_ _
              go_wp2_with fail
              go_meet
              rw [← hK0]
              exact FG.out.mono (by omega) (Nat.le_refl _)
            · skip
              go_simp
              have ka : Kept p15 (p15.alloc (.cells #[.int .i64 tm, .int .i64 v5] 28)) := Kept.alloc (Kept.refl _) _
              refine hK.out _ _ (by (try dsimp only); exact S15.out.alloc _) (fun hHeld => ?_)
              clear hK K
              (try simp only [Act.put, List.getElem_toArray, List.getElem_cons_zero, List.getElem_cons_succ, List.setIfInBounds_toArray, List.set_cons_zero, List.set_cons_succ])
              have E21 := Lib.hid (blk4 ka E15.out)
              have O21 := Lib.hid (own_kept O15.out ka)
              have C21 := Lib.hid (C15.out.kept ka)
              have S21 := Lib.hid (S15.out.alloc (.cells #[.int .i64 tm, .int .i64 v5] 28))
              have R21 := Lib.hid (blk4 ka R15.out)
              have NI4_21 := Lib.hid (NI4_15.out.kept ka)
              have B21 := Lib.hid (heap_alloc_new p15 (.cells #[.int .i64 tm, .int .i64 v5] 28))
              clear ka
              generalize p15.alloc (.cells #[.int .i64 tm, .int .i64 v5] 28) = p21 at *
              refine wpAnyH_ready (rs := [1]) (by kernel_rfl) (by simp) ?_
              refine AllReadyH.cons rfl (fun K hK => ?_) (AllReadyH.nil)
              have s3 := E21.out.2.2.2.2.2.2.1
              go_simp
              refine hK.out _ _ (by (try dsimp only); exact S21.out) (fun hHeld => ?_)
              clear hK K
              (try simp only [Act.put, List.getElem_toArray, List.getElem_cons_zero, List.getElem_cons_succ, List.setIfInBounds_toArray, List.set_cons_zero, List.set_cons_succ])
              clear s3
              refine wpAnyH_ready (rs := [8]) (by kernel_rfl) (by simp) ?_
              refine AllReadyH.cons rfl (fun K hK => ?_) (AllReadyH.nil)
              refine step_append_own1 _ (by rfl) _ _ _ (by rfl) (b + 1) 28 i0 _ 16 Try.underlying24 hi0 hz0 hz1 hz2 rfl _ xs.length _ (by rfl) O21.out _ (tm, v5) (by rfl) B21.out (by unfold maxLen; omega) (by omega) (by have := World.block_lt_of_cell? _ _ E21.out.1; simp at this; omega) ?_
              intro A23 c23 p23 hown23 hgrow23
              have hrow : ∀ q, (Value.slice A xs.length c).ownBlock = some q → b + 1 ≤ q := fun q hq => (O21.out.lt q hq).1
              have hnb : some b ≠ (Value.slice A xs.length c).ownBlock := fun e => by have := hrow b e.symm; omega
              have hnr : some w.heap.size ≠ (Value.slice A xs.length c).ownBlock := fun e => by have := hrow _ e.symm; omega
              have S23 := Lib.hid (S21.out.grown hgrow23 (fun q hq => by have := hrow q hq; omega))
              refine hK.out _ _ (by (try dsimp only); exact S23.out) (fun hHeld => ?_)
              clear hK K
              (try simp only [Act.put, List.getElem_toArray, List.getElem_cons_zero, List.getElem_cons_succ, List.setIfInBounds_toArray, List.set_cons_zero, List.set_cons_succ])
              have E23 := Lib.hid (blk4_grown hgrow23 hnb E21.out)
              have O23 := Lib.hid hown23
              have C23 := Lib.hid (C21.out.grown hgrow23 (fun q hq => by have := hrow q hq; omega))
              have R23 := Lib.hid (blk4_grown hgrow23 hnr R21.out)
              clear hown23 hgrow23 hrow hnb hnr
              refine wpAnyH_ready (rs := [9]) (by kernel_rfl) (by simp) ?_
              refine AllReadyH.cons rfl (fun K hK => ?_) (AllReadyH.nil)
              go_simp
              refine hK.out _ _ (by (try dsimp only); exact hHeld) (fun hHeld => ?_)
              clear hK K
              (try simp only [Act.put, List.getElem_toArray, List.getElem_cons_zero, List.getElem_cons_succ, List.setIfInBounds_toArray, List.set_cons_zero, List.set_cons_succ])
              refine wpAnyH_ready (rs := [10]) (by kernel_rfl) (by simp) ?_
              refine AllReadyH.cons rfl (fun K hK => ?_) (AllReadyH.nil)
              obtain ⟨q0, f0, q1, f1, q2, f2, q3, f3⟩ := E23.out
              go_simp
              have SF := Lib.hid (S23.out.setNew (p := ⟨b, 3, none⟩) (by simp; omega) (.slice A23 (xs.length + 1) c23))
              have hl : (xs ++ [(tm, v5)]).length = xs.length + 1 := by simp
              have FG := Lib.hid (show GS w (p23.setCell ⟨b, 3, none⟩ (.slice A23 (xs.length + 1) c23)) g b (K0 + 2) (m0 - q + 1) from ⟨⟨i, z, nm, A23, c23, xs ++ [(tm, v5)], hnm, by omega, by rw [hl]; simp [go_sem, *], by rw [hl, List.flatMap_append]; exact ownsRow_setCell_below O23.out (by simp) _⟩, C23.out.set (by simp; omega) _, SF.out, blk4_set _ (by simp; omega) _ R23.out⟩)
              refine hK.out _ _ (by (try dsimp only); exact SF.out) (fun hHeld => ?_)
              clear hK K
              (try simp only [Act.put, List.getElem_toArray, List.getElem_cons_zero, List.getElem_cons_succ, List.setIfInBounds_toArray, List.set_cons_zero, List.set_cons_succ])
              clear q0 f0 q1 f1 q2 f2 q3 f3
              refine wpAnyH_done (by kernel_rfl) ?_ _
              go_wp2_with fail
              go_meet
              rw [← hK0]
              exact FG.out.mono (by omega) (Nat.le_refl _)
      case rest =>
        have GC := Lib.hid hcut
        clear hcut GR
        go_wp2_with fail
        have hs3 := GC.out.stir.size
        refine (among_any g _ 4 (k + 8 + 4 * ((m0 : Int) - (q : Int)) + 2) [10, 10, 20, 60] _ (GC.out.cur.kept (Kept.alloc (Kept.refl _) _)) (by omega) (by exact NumsIn.lit (by rfl) (by simp)) (by omega) (by decide) (by decide)).mono ?_
        rintro e w6 ⟨v6, rfl, -, hc6, hs6⟩
        have G6 := Lib.hid (GC.out.step hg hbw ((Stir.kept (Kept.alloc (Kept.refl _) _)).trans hs6) hc6)
        clear hc6 hs6 GC hs3
        go_wp2_with fail
        go_roundw
        case rel => exact ⟨q - 1, _, by omega, by rw [show (((q - 1 : Nat)) : Int) = (q : Int) - 1 by omega], rfl, G6.out.mono (by omega) (by omega)⟩
        case measure => simp [intOf]; omega
    · obtain rfl : q = 0 := by omega
      go_wp2_with fail
      refine (pick_any g (k + 8 + 4 * ((m0 : Int) - ((0 : Nat) : Int))) 60 _ GR.out.cur (by omega) (by omega)).mono ?_
      rintro e w7 ⟨x7, rfl, -, hc7, hs7⟩
      have G7 := Lib.hid ((GR.out.step hg hbw hs7 hc7).mono (k' := k + 50) (m' := 8) (by omega) (by omega))
      clear hc7 hs7 GR
      by_cases e0 : x7 = 0
      · have t0 : (x7 == 0) = true := by simp [e0]
        clear e0
        go_wp2_with fail
        have hs3 := G7.out.stir.size
        refine (among_any g _ 3 (k + 50) [0, 99, 100] _ (G7.out.cur.kept (Kept.alloc (Kept.refl _) _)) (by omega) (by exact NumsIn.lit (by rfl) (by simp)) (by omega) (by decide) (by decide)).mono ?_
        rintro e w8 ⟨v8, rfl, -, hc8, hs8⟩
        have G8 := Lib.hid (G7.out.step hg hbw ((Stir.kept (Kept.alloc (Kept.refl _) _)).trans hs8) hc8)
        clear hc8 hs8 G7 hs3
        obtain ⟨⟨i, z, nm, A, c, xs, -, -, ⟨q0, f0, -⟩, -⟩, -, -, -⟩ := G8.out
        go_upto_region 23 with fail
        have G9 := Lib.hid (G8.out.set hg hbw (.int .i64 v8) 0 (Or.inl ⟨rfl, _, rfl⟩))
        clear q0 f0 G8 i z nm A c xs
        obtain ⟨⟨i, z, nm, A, c, xs, hnm, hxl, ⟨q0, f0, q1, f1, q2, f2, q3, f3⟩, ho⟩, hcu, hsu, ⟨y0, l0, y1, l1, y2, l2, y3, l3⟩⟩ := G9.out
        have OU := Lib.hid ho
        have CU := Lib.hid hcu
        have SU := Lib.hid hsu
        clear ho hcu hsu
        go_wp2_with fail
        exact bodyPost_ret (v := .agg #[.int .i64 i, .string nm, .int .i64 z, .slice A xs.length c]) (by simp [results, Try.results66, go_sem, *]) rfl ⟨i, z, nm, _, xs, rfl, hnm, by omega, own_base (ownsRow_setCell_below (ownsRow_setCell_below (ownsRow_setCell_below (ownsRow_setCell_below OU.out (by first | (simp; done) | (simp; omega)) _) (by first | (simp; done) | (simp; omega)) _) (by first | (simp; done) | (simp; omega)) _) (by first | (simp; done) | (simp; omega)) _) (by omega), ((((CU.out.set (by first | (simp; done) | (simp; omega)) _).set (by first | (simp; done) | (simp; omega)) _).set (by first | (simp; done) | (simp; omega)) _).set (by first | (simp; done) | (simp; omega)) _).mono (by omega), (((SU.out.setNew (by first | (simp; done) | (simp; omega)) _).setNew (by first | (simp; done) | (simp; omega)) _).setNew (by first | (simp; done) | (simp; omega)) _).setNew (by first | (simp; done) | (simp; omega)) _⟩
      have t0 : (x7 == 0) = false := by simp [e0]
      by_cases e1 : x7 = 1
      · have t1 : (x7 == 1) = true := by simp [e1]
        clear e0 e1
        go_wp2_with fail
        have hs3 := G7.out.stir.size
        refine (of_any g _ 3 (k + 50) g2L _ (G7.out.cur.kept (Kept.alloc (Kept.refl _) _)) (by omega) (by exact StrsIn.lit (by rfl) (by simp)) (by omega) (by decide) (by decide)).mono ?_
        rintro e w8 ⟨v8, rfl, hm8, hc8, hs8⟩
        have HM8 := Lib.hid (g2L_size v8 hm8)
        have G8 := Lib.hid (G7.out.step hg hbw ((Stir.kept (Kept.alloc (Kept.refl _) _)).trans hs8) hc8)
        clear hc8 hs8 G7 hs3 hm8
        obtain ⟨⟨i, z, nm, A, c, xs, -, -, ⟨-, -, q0, f0, -⟩, -⟩, -, -, -⟩ := G8.out
        go_upto_region 23 with fail
        have G9 := Lib.hid (G8.out.set hg hbw (.string v8) 1 (Or.inr (Or.inl ⟨rfl, _, HM8.out, rfl⟩)))
        clear q0 f0 G8 i z nm A c xs
        obtain ⟨⟨i, z, nm, A, c, xs, hnm, hxl, ⟨q0, f0, q1, f1, q2, f2, q3, f3⟩, ho⟩, hcu, hsu, ⟨y0, l0, y1, l1, y2, l2, y3, l3⟩⟩ := G9.out
        have OU := Lib.hid ho
        have CU := Lib.hid hcu
        have SU := Lib.hid hsu
        clear ho hcu hsu
        go_wp2_with fail
        exact bodyPost_ret (v := .agg #[.int .i64 i, .string nm, .int .i64 z, .slice A xs.length c]) (by simp [results, Try.results66, go_sem, *]) rfl ⟨i, z, nm, _, xs, rfl, hnm, by omega, own_base (ownsRow_setCell_below (ownsRow_setCell_below (ownsRow_setCell_below (ownsRow_setCell_below OU.out (by first | (simp; done) | (simp; omega)) _) (by first | (simp; done) | (simp; omega)) _) (by first | (simp; done) | (simp; omega)) _) (by first | (simp; done) | (simp; omega)) _) (by omega), ((((CU.out.set (by first | (simp; done) | (simp; omega)) _).set (by first | (simp; done) | (simp; omega)) _).set (by first | (simp; done) | (simp; omega)) _).set (by first | (simp; done) | (simp; omega)) _).mono (by omega), (((SU.out.setNew (by first | (simp; done) | (simp; omega)) _).setNew (by first | (simp; done) | (simp; omega)) _).setNew (by first | (simp; done) | (simp; omega)) _).setNew (by first | (simp; done) | (simp; omega)) _⟩
      have t1 : (x7 == 1) = false := by simp [e1]
      by_cases e2 : x7 = 2
      · have t2 : (x7 == 2) = true := by simp [e2]
        clear e0 e1 e2
        go_wp2_with fail
        have hs3 := G7.out.stir.size
        refine (among_any g _ 2 (k + 50) [-1001, 1001] _ (G7.out.cur.kept (Kept.alloc (Kept.refl _) _)) (by omega) (by exact NumsIn.lit (by rfl) (by simp)) (by omega) (by decide) (by decide)).mono ?_
        rintro e w8 ⟨v8, rfl, -, hc8, hs8⟩
        have G8 := Lib.hid (G7.out.step hg hbw ((Stir.kept (Kept.alloc (Kept.refl _) _)).trans hs8) hc8)
        clear hc8 hs8 G7 hs3
        obtain ⟨⟨i, z, nm, A, c, xs, -, -, ⟨-, -, -, -, q0, f0, -⟩, -⟩, -, -, -⟩ := G8.out
        go_upto_region 23 with fail
        have G9 := Lib.hid (G8.out.set hg hbw (.int .i64 v8) 2 (Or.inr (Or.inr ⟨rfl, _, rfl⟩)))
        clear q0 f0 G8 i z nm A c xs
        obtain ⟨⟨i, z, nm, A, c, xs, hnm, hxl, ⟨q0, f0, q1, f1, q2, f2, q3, f3⟩, ho⟩, hcu, hsu, ⟨y0, l0, y1, l1, y2, l2, y3, l3⟩⟩ := G9.out
        have OU := Lib.hid ho
        have CU := Lib.hid hcu
        have SU := Lib.hid hsu
        clear ho hcu hsu
        go_wp2_with fail
        exact bodyPost_ret (v := .agg #[.int .i64 i, .string nm, .int .i64 z, .slice A xs.length c]) (by simp [results, Try.results66, go_sem, *]) rfl ⟨i, z, nm, _, xs, rfl, hnm, by omega, own_base (ownsRow_setCell_below (ownsRow_setCell_below (ownsRow_setCell_below (ownsRow_setCell_below OU.out (by first | (simp; done) | (simp; omega)) _) (by first | (simp; done) | (simp; omega)) _) (by first | (simp; done) | (simp; omega)) _) (by first | (simp; done) | (simp; omega)) _) (by omega), ((((CU.out.set (by first | (simp; done) | (simp; omega)) _).set (by first | (simp; done) | (simp; omega)) _).set (by first | (simp; done) | (simp; omega)) _).set (by first | (simp; done) | (simp; omega)) _).mono (by omega), (((SU.out.setNew (by first | (simp; done) | (simp; omega)) _).setNew (by first | (simp; done) | (simp; omega)) _).setNew (by first | (simp; done) | (simp; omega)) _).setNew (by first | (simp; done) | (simp; omega)) _⟩
      have t2 : (x7 == 2) = false := by simp [e2]
      by_cases e3 : x7 = 3
      · have t3 : (x7 == 3) = true := by simp [e3]
        clear e0 e1 e2 e3
        go_upto_region 16 with fail
        obtain ⟨K0, hK0⟩ : ∃ K0, K0 = k + 50 := ⟨_, rfl⟩
        rw [← hK0] at G7
        have hK1 : K0 ≤ 800000 := by omega
        obtain ⟨wr, hwr⟩ : ∃ x, x = w7 := ⟨_, rfl⟩
        subst hwr
        obtain ⟨⟨i, z, nm, A, c, xs, hnm, hxl, he, ho⟩, hcu, hsu, hre⟩ := G7.out
        have EU := Lib.hid he
        have OU := Lib.hid ho
        have CU := Lib.hid hcu
        have SU := Lib.hid hsu
        have RU := Lib.hid hre
        clear he ho hcu hsu hre
        clear G7
        refine wp_region_held_drew (S := fun w' => Stir g w w') (by kernel_rfl) (by (try dsimp only); exact SU.out.drew) (fun hHeld => ?_)
        refine wpAnyH_take (i := 0) (v := ?_) rfl (by kernel_rfl) (by kernel_rfl) (by kernel_rfl) (fun _ _ _ h => h) (Or.inl ⟨by kernel_rfl, ?_⟩) (by assumption) ?_
        rotate_left
        focus (intro w' hSw; (try dsimp only at hSw); go_simp; (try with_reducible rfl))
        (try simp only [Act.put, List.getElem_toArray, List.getElem_cons_zero, List.getElem_cons_succ, List.setIfInBounds_toArray, List.set_cons_zero, List.set_cons_succ])
        refine wpAnyH_take (i := 2) (v := ?_) rfl (by kernel_rfl) (by kernel_rfl) (by kernel_rfl) (fun _ _ _ h => h) (Or.inl ⟨by kernel_rfl, ?_⟩) (by assumption) ?_
        rotate_left
        focus (intro w' hSw; (try dsimp only at hSw); go_simp; (try with_reducible rfl))
        (try simp only [Act.put, List.getElem_toArray, List.getElem_cons_zero, List.getElem_cons_succ, List.setIfInBounds_toArray, List.set_cons_zero, List.set_cons_succ])
        refine wpAnyH_take (i := 5) (v := ?_) rfl (by kernel_rfl) (by kernel_rfl) (by kernel_rfl) (fun _ _ _ h => h) (Or.inl ⟨by kernel_rfl, ?_⟩) (by assumption) ?_
        rotate_left
        focus (intro w' hSw; (try dsimp only at hSw); go_simp; (try with_reducible rfl))
        (try simp only [Act.put, List.getElem_toArray, List.getElem_cons_zero, List.getElem_cons_succ, List.setIfInBounds_toArray, List.set_cons_zero, List.set_cons_succ])
        have kd : Kept wr wr.drew := Kept.drew (Kept.refl _)
        have E0 := Lib.hid (blk4 kd EU.out)
        have O0 := Lib.hid (own_kept OU.out kd)
        have C0 := Lib.hid (CU.out.kept kd)
        have S0 := Lib.hid SU.out.drew
        have R0 := Lib.hid (blk4 kd RU.out)
        clear kd
        generalize wr.drew = p0 at *
        refine wpAnyH_ready (rs := [1, 3, 6]) (by kernel_rfl) (by simp) ?_
        refine AllReadyH.cons rfl (fun K hK => ?_) (AllReadyH.cons rfl (fun K hK => ?_) (AllReadyH.cons rfl (fun K hK => ?_) (AllReadyH.nil)))
        · skip
          have s3 := E0.out.2.2.2.2.2.2.1
          go_simp
          refine hK.out _ _ (by (try dsimp only); exact S0.out) (fun hHeld => ?_)
          clear hK K
          (try simp only [Act.put, List.getElem_toArray, List.getElem_cons_zero, List.getElem_cons_succ, List.setIfInBounds_toArray, List.set_cons_zero, List.set_cons_succ])
          clear s3
          refine wpAnyH_ready (rs := [3, 6]) (by kernel_rfl) (by simp) ?_
          refine AllReadyH.cons rfl (fun K hK => ?_) (AllReadyH.cons rfl (fun K hK => ?_) (AllReadyH.nil))
          · skip
            go_simp
            have ka : Kept p0 (p0.alloc (.cells #[.int .i64 (-1), .int .i64 10, .int .i64 10001] 3)) := Kept.alloc (Kept.refl _) _
            refine hK.out _ _ (by (try dsimp only); exact S0.out.alloc _) (fun hHeld => ?_)
            clear hK K
            (try simp only [Act.put, List.getElem_toArray, List.getElem_cons_zero, List.getElem_cons_succ, List.setIfInBounds_toArray, List.set_cons_zero, List.set_cons_succ])
            have E2 := Lib.hid (blk4 ka E0.out)
            have O2 := Lib.hid (own_kept O0.out ka)
            have C2 := Lib.hid (C0.out.kept ka)
            have S2 := Lib.hid (S0.out.alloc (.cells #[.int .i64 (-1), .int .i64 10, .int .i64 10001] 3))
            have R2 := Lib.hid (blk4 ka R0.out)
            have NI3_2 := Lib.hid (NumsIn.lit (w := p0) (xs := [-1, 10, 10001]) (t := 3) (n := p0.heap.size) (cs := #[.int .i64 (-1), .int .i64 10, .int .i64 10001]) (by rfl) rfl)
            have hg2 : p0.heap.size ≠ g := fun e => by have := S0.out.size; omega
            clear ka
            generalize p0.alloc (.cells #[.int .i64 (-1), .int .i64 10, .int .i64 10001] 3) = p2 at *
            refine wpAnyH_ready (rs := [4, 6]) (by kernel_rfl) (by simp) ?_
            refine AllReadyH.cons rfl (fun K hK => ?_) (AllReadyH.cons rfl (fun K hK => ?_) (AllReadyH.nil))
            · skip
              go_simp
              go_at_call 67
              refine (among_any g _ 3 K0 [-1, 10, 10001] _ C2.out (by omega) NI3_2.out hg2 (by decide) (by decide)).mono ?_
              rintro e p3 ⟨v4, rfl, -, hc3, hs3⟩
              (try go_wp2_with fail)
              refine hK.out _ _ (by (try dsimp only); exact S2.out.trans hs3) (fun hHeld => ?_)
              clear hK K
              (try simp only [Act.put, List.getElem_toArray, List.getElem_cons_zero, List.getElem_cons_succ, List.setIfInBounds_toArray, List.set_cons_zero, List.set_cons_succ])
              have E3 := Lib.hid (blk4_stir hs3 (by omega) E2.out)
              have O3 := Lib.hid (hs3.own O2.out (by omega))
              have C3 := Lib.hid hc3
              have S3 := Lib.hid (S2.out.trans hs3)
              have R3 := Lib.hid (blk4_stir hs3 (by omega) R2.out)
              have NI3_3 := Lib.hid (NI3_2.out.stir hs3 hg2)
              clear hc3 hs3
              refine wpAnyH_ready (rs := [6]) (by kernel_rfl) (by simp) ?_
              refine AllReadyH.cons rfl (fun K hK => ?_) (AllReadyH.nil)
              go_simp
              have ka : Kept p3 (p3.alloc (.cells #[.int .i64 0, .int .i64 (-501), .int .i64 2001] 3)) := Kept.alloc (Kept.refl _) _
              refine hK.out _ _ (by (try dsimp only); exact S3.out.alloc _) (fun hHeld => ?_)
              clear hK K
              (try simp only [Act.put, List.getElem_toArray, List.getElem_cons_zero, List.getElem_cons_succ, List.setIfInBounds_toArray, List.set_cons_zero, List.set_cons_succ])
              have E4 := Lib.hid (blk4 ka E3.out)
              have O4 := Lib.hid (own_kept O3.out ka)
              have C4 := Lib.hid (C3.out.kept ka)
              have S4 := Lib.hid (S3.out.alloc (.cells #[.int .i64 0, .int .i64 (-501), .int .i64 2001] 3))
              have R4 := Lib.hid (blk4 ka R3.out)
              have NI3_4 := Lib.hid (NI3_3.out.kept ka)
              have NI6_4 := Lib.hid (NumsIn.lit (w := p3) (xs := [0, -501, 2001]) (t := 3) (n := p3.heap.size) (cs := #[.int .i64 0, .int .i64 (-501), .int .i64 2001]) (by rfl) rfl)
              have hg4 : p3.heap.size ≠ g := fun e => by have := S3.out.size; omega
              clear ka
              generalize p3.alloc (.cells #[.int .i64 0, .int .i64 (-501), .int .i64 2001] 3) = p4 at *
              refine wpAnyH_ready (rs := [7]) (by kernel_rfl) (by simp) ?_
              refine AllReadyH.cons rfl (fun K hK => ?_) (AllReadyH.nil)
              go_simp
              go_at_call 67
              refine (among_any g _ 3 (K0 + 2) [0, -501, 2001] _ C4.out (by omega) NI6_4.out hg4 (by decide) (by decide)).mono ?_
              rintro e p5 ⟨v7, rfl, -, hc5, hs5⟩
              (try go_wp2_with fail)
              refine hK.out _ _ (by (try dsimp only); exact S4.out.trans hs5) (fun hHeld => ?_)
              clear hK K
              (try simp only [Act.put, List.getElem_toArray, List.getElem_cons_zero, List.getElem_cons_succ, List.setIfInBounds_toArray, List.set_cons_zero, List.set_cons_succ])
              have E5 := Lib.hid (blk4_stir hs5 (by omega) E4.out)
              have O5 := Lib.hid (hs5.own O4.out (by omega))
              have C5 := Lib.hid hc5
              have S5 := Lib.hid (S4.out.trans hs5)
              have R5 := Lib.hid (blk4_stir hs5 (by omega) R4.out)
              have NI3_5 := Lib.hid (NI3_4.out.stir hs5 hg2)
              have NI6_5 := Lib.hid (NI6_4.out.stir hs5 hg4)
              clear hc5 hs5
              refine wpAnyH_take (i := 8) (v := ?_) rfl (by kernel_rfl) (by kernel_rfl) (by kernel_rfl) (fun _ _ _ h => h) (Or.inl ⟨by kernel_rfl, ?_⟩) (by assumption) ?_
              rotate_left
              focus (intro w' hSw; (try dsimp only at hSw); go_simp; (try with_reducible rfl))
              (try simp only [Act.put, List.getElem_toArray, List.getElem_cons_zero, List.getElem_cons_succ, List.setIfInBounds_toArray, List.set_cons_zero, List.set_cons_succ])
              refine wpAnyH_ready (rs := [9]) (by kernel_rfl) (by simp) ?_
              refine AllReadyH.cons rfl (fun K hK => ?_) (AllReadyH.nil)
              go_simp
              have ka : Kept p5 (p5.alloc (.cells #[.int .i64 v4, .int .i64 v7] 28)) := Kept.alloc (Kept.refl _) _
              refine hK.out _ _ (by (try dsimp only); exact S5.out.alloc _) (fun hHeld => ?_)
              clear hK K
              (try simp only [Act.put, List.getElem_toArray, List.getElem_cons_zero, List.getElem_cons_succ, List.setIfInBounds_toArray, List.set_cons_zero, List.set_cons_succ])
              have E6 := Lib.hid (blk4 ka E5.out)
              have O6 := Lib.hid (own_kept O5.out ka)
              have C6 := Lib.hid (C5.out.kept ka)
              have S6 := Lib.hid (S5.out.alloc (.cells #[.int .i64 v4, .int .i64 v7] 28))
              have R6 := Lib.hid (blk4 ka R5.out)
              have NI3_6 := Lib.hid (NI3_5.out.kept ka)
              have NI6_6 := Lib.hid (NI6_5.out.kept ka)
              have B6 := Lib.hid (heap_alloc_new p5 (.cells #[.int .i64 v4, .int .i64 v7] 28))
              clear ka
              generalize p5.alloc (.cells #[.int .i64 v4, .int .i64 v7] 28) = p6 at *
              refine wpAnyH_ready (rs := [10]) (by kernel_rfl) (by simp) ?_
              refine AllReadyH.cons rfl (fun K hK => ?_) (AllReadyH.nil)
              refine step_append_own1 _ (by rfl) _ _ _ (by rfl) (b + 1) 28 i0 _ 16 Try.underlying24 hi0 hz0 hz1 hz2 rfl _ xs.length _ (by rfl) O6.out _ (v4, v7) (by rfl) B6.out (by unfold maxLen; omega) (by omega) (by have := World.block_lt_of_cell? _ _ E6.out.1; simp at this; omega) ?_
              intro A7 c7 p7 hown7 hgrow7
              have hrow : ∀ q, (Value.slice A xs.length c).ownBlock = some q → b + 1 ≤ q := fun q hq => (O6.out.lt q hq).1
              have hnb : some b ≠ (Value.slice A xs.length c).ownBlock := fun e => by have := hrow b e.symm; omega
              have hnr : some w.heap.size ≠ (Value.slice A xs.length c).ownBlock := fun e => by have := hrow _ e.symm; omega
              have S7 := Lib.hid (S6.out.grown hgrow7 (fun q hq => by have := hrow q hq; omega))
              refine hK.out _ _ (by (try dsimp only); exact S7.out) (fun hHeld => ?_)
              clear hK K
              (try simp only [Act.put, List.getElem_toArray, List.getElem_cons_zero, List.getElem_cons_succ, List.setIfInBounds_toArray, List.set_cons_zero, List.set_cons_succ])
              have E7 := Lib.hid (blk4_grown hgrow7 hnb E6.out)
              have O7 := Lib.hid hown7
              have C7 := Lib.hid (C6.out.grown hgrow7 (fun q hq => by have := hrow q hq; omega))
              have R7 := Lib.hid (blk4_grown hgrow7 hnr R6.out)
              clear hown7 hgrow7 hrow hnb hnr
              refine wpAnyH_ready (rs := [11]) (by kernel_rfl) (by simp) ?_
              refine AllReadyH.cons rfl (fun K hK => ?_) (AllReadyH.nil)
              go_simp
              refine hK.out _ _ (by (try dsimp only); exact hHeld) (fun hHeld => ?_)
              clear hK K
              (try simp only [Act.put, List.getElem_toArray, List.getElem_cons_zero, List.getElem_cons_succ, List.setIfInBounds_toArray, List.set_cons_zero, List.set_cons_succ])
              refine wpAnyH_ready (rs := [12]) (by kernel_rfl) (by simp) ?_
              refine AllReadyH.cons rfl (fun K hK => ?_) (AllReadyH.nil)
              obtain ⟨q0, f0, q1, f1, q2, f2, q3, f3⟩ := E7.out
              go_simp
              have SF := Lib.hid (S7.out.setNew (p := ⟨b, 3, none⟩) (by simp; omega) (.slice A7 (xs.length + 1) c7))
              have hl : (xs ++ [(v4, v7)]).length = xs.length + 1 := by simp
              have FG := Lib.hid (show GS w (p7.setCell ⟨b, 3, none⟩ (.slice A7 (xs.length + 1) c7)) g b ((K0 + 2) + 2) (9) from ⟨⟨i, z, nm, A7, c7, xs ++ [(v4, v7)], hnm, by omega, by rw [hl]; simp [go_sem, *], by rw [hl, List.flatMap_append]; exact ownsRow_setCell_below O7.out (by simp) _⟩, C7.out.set (by simp; omega) _, SF.out, blk4_set _ (by simp; omega) _ R7.out⟩)
              refine hK.out _ _ (by (try dsimp only); exact SF.out) (fun hHeld => ?_)
              clear hK K
              (try simp only [Act.put, List.getElem_toArray, List.getElem_cons_zero, List.getElem_cons_succ, List.setIfInBounds_toArray, List.set_cons_zero, List.set_cons_succ])
              clear q0 f0 q1 f1 q2 f2 q3 f3
              refine wpAnyH_done (by kernel_rfl) ?_ _
              go_upto_region 23 with fail
              obtain ⟨⟨i, z, nm, A, c, xs, hnm, hxl, ⟨q0, f0, q1, f1, q2, f2, q3, f3⟩, ho⟩, hcu, hsu, ⟨y0, l0, y1, l1, y2, l2, y3, l3⟩⟩ := FG.out
              have OU := Lib.hid ho
              have CU := Lib.hid hcu
              have SU := Lib.hid hsu
              clear ho hcu hsu
              go_wp2_with fail
              exact bodyPost_ret (v := .agg #[.int .i64 i, .string nm, .int .i64 z, .slice A xs.length c]) (by simp [results, Try.results66, go_sem, *]) rfl ⟨i, z, nm, _, xs, rfl, hnm, by omega, own_base (ownsRow_setCell_below (ownsRow_setCell_below (ownsRow_setCell_below (ownsRow_setCell_below OU.out (by first | (simp; done) | (simp; omega)) _) (by first | (simp; done) | (simp; omega)) _) (by first | (simp; done) | (simp; omega)) _) (by first | (simp; done) | (simp; omega)) _) (by omega), ((((CU.out.set (by first | (simp; done) | (simp; omega)) _).set (by first | (simp; done) | (simp; omega)) _).set (by first | (simp; done) | (simp; omega)) _).set (by first | (simp; done) | (simp; omega)) _).mono (by omega), (((SU.out.setNew (by first | (simp; done) | (simp; omega)) _).setNew (by first | (simp; done) | (simp; omega)) _).setNew (by first | (simp; done) | (simp; omega)) _).setNew (by first | (simp; done) | (simp; omega)) _⟩
            · skip
              go_simp
              have ka : Kept p2 (p2.alloc (.cells #[.int .i64 0, .int .i64 (-501), .int .i64 2001] 3)) := Kept.alloc (Kept.refl _) _
              refine hK.out _ _ (by (try dsimp only); exact S2.out.alloc _) (fun hHeld => ?_)
              clear hK K
              (try simp only [Act.put, List.getElem_toArray, List.getElem_cons_zero, List.getElem_cons_succ, List.setIfInBounds_toArray, List.set_cons_zero, List.set_cons_succ])
              have E10 := Lib.hid (blk4 ka E2.out)
              have O10 := Lib.hid (own_kept O2.out ka)
              have C10 := Lib.hid (C2.out.kept ka)
              have S10 := Lib.hid (S2.out.alloc (.cells #[.int .i64 0, .int .i64 (-501), .int .i64 2001] 3))
              have R10 := Lib.hid (blk4 ka R2.out)
              have NI3_10 := Lib.hid (NI3_2.out.kept ka)
              have NI6_10 := Lib.hid (NumsIn.lit (w := p2) (xs := [0, -501, 2001]) (t := 3) (n := p2.heap.size) (cs := #[.int .i64 0, .int .i64 (-501), .int .i64 2001]) (by rfl) rfl)
              have hg10 : p2.heap.size ≠ g := fun e => by have := S2.out.size; omega
              clear ka
              generalize p2.alloc (.cells #[.int .i64 0, .int .i64 (-501), .int .i64 2001] 3) = p10 at *
              refine wpAnyH_ready (rs := [4]) (by kernel_rfl) (by simp) ?_
              refine AllReadyH.cons rfl (fun K hK => ?_) (AllReadyH.nil)
              go_simp
              go_at_call 67
              refine (among_any g _ 3 K0 [-1, 10, 10001] _ C10.out (by omega) NI3_10.out hg2 (by decide) (by decide)).mono ?_
              rintro e p11 ⟨v4, rfl, -, hc11, hs11⟩
              (try go_wp2_with fail)
              refine hK.out _ _ (by (try dsimp only); exact S10.out.trans hs11) (fun hHeld => ?_)
              clear hK K
              (try simp only [Act.put, List.getElem_toArray, List.getElem_cons_zero, List.getElem_cons_succ, List.setIfInBounds_toArray, List.set_cons_zero, List.set_cons_succ])
              have E11 := Lib.hid (blk4_stir hs11 (by omega) E10.out)
              have O11 := Lib.hid (hs11.own O10.out (by omega))
              have C11 := Lib.hid hc11
              have S11 := Lib.hid (S10.out.trans hs11)
              have R11 := Lib.hid (blk4_stir hs11 (by omega) R10.out)
              have NI3_11 := Lib.hid (NI3_10.out.stir hs11 hg2)
              have NI6_11 := Lib.hid (NI6_10.out.stir hs11 hg10)
              clear hc11 hs11
              refine wpAnyH_ready (rs := [7]) (by kernel_rfl) (by simp) ?_
              refine AllReadyH.cons rfl (fun K hK => ?_) (AllReadyH.nil)
              go_simp
              go_at_call 67
              refine (among_any g _ 3 (K0 + 2) [0, -501, 2001] _ C11.out (by omega) NI6_11.out hg10 (by decide) (by decide)).mono ?_
              rintro e p12 ⟨v7, rfl, -, hc12, hs12⟩
              (try go_wp2_with fail)
              refine hK.out _ _ (by (try dsimp only); exact S11.out.trans hs12) (fun hHeld => ?_)
              clear hK K
              (try simp only [Act.put, List.getElem_toArray, List.getElem_cons_zero, List.getElem_cons_succ, List.setIfInBounds_toArray, List.set_cons_zero, List.set_cons_succ])
              have E12 := Lib.hid (blk4_stir hs12 (by omega) E11.out)
              have O12 := Lib.hid (hs12.own O11.out (by omega))
              have C12 := Lib.hid hc12
              have S12 := Lib.hid (S11.out.trans hs12)
              have R12 := Lib.hid (blk4_stir hs12 (by omega) R11.out)
              have NI3_12 := Lib.hid (NI3_11.out.stir hs12 hg2)
              have NI6_12 := Lib.hid (NI6_11.out.stir hs12 hg10)
              clear hc12 hs12
              refine wpAnyH_take (i := 8) (v := ?_) rfl (by kernel_rfl) (by kernel_rfl) (by kernel_rfl) (fun _ _ _ h => h) (Or.inl ⟨by kernel_rfl, ?_⟩) (by assumption) ?_
              rotate_left
              focus (intro w' hSw; (try dsimp only at hSw); go_simp; (try with_reducible rfl))
              (try simp only [Act.put, List.getElem_toArray, List.getElem_cons_zero, List.getElem_cons_succ, List.setIfInBounds_toArray, List.set_cons_zero, List.set_cons_succ])
              refine wpAnyH_ready (rs := [9]) (by kernel_rfl) (by simp) ?_
              refine AllReadyH.cons rfl (fun K hK => ?_) (AllReadyH.nil)
              go_simp
              have ka : Kept p12 (p12.alloc (.cells #[.int .i64 v4, .int .i64 v7] 28)) := Kept.alloc (Kept.refl _) _
              refine hK.out _ _ (by (try dsimp only); exact S12.out.alloc _) (fun hHeld => ?_)
              clear hK K
              (try simp only [Act.put, List.getElem_toArray, List.getElem_cons_zero, List.getElem_cons_succ, List.setIfInBounds_toArray, List.set_cons_zero, List.set_cons_succ])
              have E13 := Lib.hid (blk4 ka E12.out)
              have O13 := Lib.hid (own_kept O12.out ka)
              have C13 := Lib.hid (C12.out.kept ka)
              have S13 := Lib.hid (S12.out.alloc (.cells #[.int .i64 v4, .int .i64 v7] 28))
              have R13 := Lib.hid (blk4 ka R12.out)
              have NI3_13 := Lib.hid (NI3_12.out.kept ka)
              have NI6_13 := Lib.hid (NI6_12.out.kept ka)
              have B13 := Lib.hid (heap_alloc_new p12 (.cells #[.int .i64 v4, .int .i64 v7] 28))
              clear ka
              generalize p12.alloc (.cells #[.int .i64 v4, .int .i64 v7] 28) = p13 at *
              refine wpAnyH_ready (rs := [10]) (by kernel_rfl) (by simp) ?_
              refine AllReadyH.cons rfl (fun K hK => ?_) (AllReadyH.nil)
              refine step_append_own1 _ (by rfl) _ _ _ (by rfl) (b + 1) 28 i0 _ 16 Try.underlying24 hi0 hz0 hz1 hz2 rfl _ xs.length _ (by rfl) O13.out _ (v4, v7) (by rfl) B13.out (by unfold maxLen; omega) (by omega) (by have := World.block_lt_of_cell? _ _ E13.out.1; simp at this; omega) ?_
              intro A14 c14 p14 hown14 hgrow14
              have hrow : ∀ q, (Value.slice A xs.length c).ownBlock = some q → b + 1 ≤ q := fun q hq => (O13.out.lt q hq).1
              have hnb : some b ≠ (Value.slice A xs.length c).ownBlock := fun e => by have := hrow b e.symm; omega
              have hnr : some w.heap.size ≠ (Value.slice A xs.length c).ownBlock := fun e => by have := hrow _ e.symm; omega
              have S14 := Lib.hid (S13.out.grown hgrow14 (fun q hq => by have := hrow q hq; omega))
              refine hK.out _ _ (by (try dsimp only); exact S14.out) (fun hHeld => ?_)
              clear hK K
              (try simp only [Act.put, List.getElem_toArray, List.getElem_cons_zero, List.getElem_cons_succ, List.setIfInBounds_toArray, List.set_cons_zero, List.set_cons_succ])
              have E14 := Lib.hid (blk4_grown hgrow14 hnb E13.out)
              have O14 := Lib.hid hown14
              have C14 := Lib.hid (C13.out.grown hgrow14 (fun q hq => by have := hrow q hq; omega))
              have R14 := Lib.hid (blk4_grown hgrow14 hnr R13.out)
              clear hown14 hgrow14 hrow hnb hnr
              refine wpAnyH_ready (rs := [11]) (by kernel_rfl) (by simp) ?_
              refine AllReadyH.cons rfl (fun K hK => ?_) (AllReadyH.nil)
              go_simp
              refine hK.out _ _ (by (try dsimp only); exact hHeld) (fun hHeld => ?_)
              clear hK K
              (try simp only [Act.put, List.getElem_toArray, List.getElem_cons_zero, List.getElem_cons_succ, List.setIfInBounds_toArray, List.set_cons_zero, List.set_cons_succ])
              refine wpAnyH_ready (rs := [12]) (by kernel_rfl) (by simp) ?_
              refine AllReadyH.cons rfl (fun K hK => ?_) (AllReadyH.nil)
              obtain ⟨q0, f0, q1, f1, q2, f2, q3, f3⟩ := E14.out
              go_simp
              have SF := Lib.hid (S14.out.setNew (p := ⟨b, 3, none⟩) (by simp; omega) (.slice A14 (xs.length + 1) c14))
              have hl : (xs ++ [(v4, v7)]).length = xs.length + 1 := by simp
              have FG := Lib.hid (show GS w (p14.setCell ⟨b, 3, none⟩ (.slice A14 (xs.length + 1) c14)) g b ((K0 + 2) + 2) (9) from ⟨⟨i, z, nm, A14, c14, xs ++ [(v4, v7)], hnm, by omega, by rw [hl]; simp [go_sem, *], by rw [hl, List.flatMap_append]; exact ownsRow_setCell_below O14.out (by simp) _⟩, C14.out.set (by simp; omega) _, SF.out, blk4_set _ (by simp; omega) _ R14.out⟩)
              refine hK.out _ _ (by (try dsimp only); exact SF.out) (fun hHeld => ?_)
              clear hK K
              (try simp only [Act.put, List.getElem_toArray, List.getElem_cons_zero, List.getElem_cons_succ, List.setIfInBounds_toArray, List.set_cons_zero, List.set_cons_succ])
              clear q0 f0 q1 f1 q2 f2 q3 f3
              refine wpAnyH_done (by kernel_rfl) ?_ _
              go_upto_region 23 with fail
              obtain ⟨⟨i, z, nm, A, c, xs, hnm, hxl, ⟨q0, f0, q1, f1, q2, f2, q3, f3⟩, ho⟩, hcu, hsu, ⟨y0, l0, y1, l1, y2, l2, y3, l3⟩⟩ := FG.out
              have OU := Lib.hid ho
              have CU := Lib.hid hcu
              have SU := Lib.hid hsu
              clear ho hcu hsu
              go_wp2_with fail
              exact bodyPost_ret (v := .agg #[.int .i64 i, .string nm, .int .i64 z, .slice A xs.length c]) (by simp [results, Try.results66, go_sem, *]) rfl ⟨i, z, nm, _, xs, rfl, hnm, by omega, own_base (ownsRow_setCell_below (ownsRow_setCell_below (ownsRow_setCell_below (ownsRow_setCell_below OU.out (by first | (simp; done) | (simp; omega)) _) (by first | (simp; done) | (simp; omega)) _) (by first | (simp; done) | (simp; omega)) _) (by first | (simp; done) | (simp; omega)) _) (by omega), ((((CU.out.set (by first | (simp; done) | (simp; omega)) _).set (by first | (simp; done) | (simp; omega)) _).set (by first | (simp; done) | (simp; omega)) _).set (by first | (simp; done) | (simp; omega)) _).mono (by omega), (((SU.out.setNew (by first | (simp; done) | (simp; omega)) _).setNew (by first | (simp; done) | (simp; omega)) _).setNew (by first | (simp; done) | (simp; omega)) _).setNew (by first | (simp; done) | (simp; omega)) _⟩
          · skip
            go_simp
            have ka : Kept p0 (p0.alloc (.cells #[.int .i64 0, .int .i64 (-501), .int .i64 2001] 3)) := Kept.alloc (Kept.refl _) _
            refine hK.out _ _ (by (try dsimp only); exact S0.out.alloc _) (fun hHeld => ?_)
            clear hK K
            (try simp only [Act.put, List.getElem_toArray, List.getElem_cons_zero, List.getElem_cons_succ, List.setIfInBounds_toArray, List.set_cons_zero, List.set_cons_succ])
            have E17 := Lib.hid (blk4 ka E0.out)
            have O17 := Lib.hid (own_kept O0.out ka)
            have C17 := Lib.hid (C0.out.kept ka)
            have S17 := Lib.hid (S0.out.alloc (.cells #[.int .i64 0, .int .i64 (-501), .int .i64 2001] 3))
            have R17 := Lib.hid (blk4 ka R0.out)
            have NI6_17 := Lib.hid (NumsIn.lit (w := p0) (xs := [0, -501, 2001]) (t := 3) (n := p0.heap.size) (cs := #[.int .i64 0, .int .i64 (-501), .int .i64 2001]) (by rfl) rfl)
            have hg17 : p0.heap.size ≠ g := fun e => by have := S0.out.size; omega
            clear ka
            generalize p0.alloc (.cells #[.int .i64 0, .int .i64 (-501), .int .i64 2001] 3) = p17 at *
            refine wpAnyH_ready (rs := [3]) (by kernel_rfl) (by simp) ?_
            refine AllReadyH.cons rfl (fun K hK => ?_) (AllReadyH.nil)
            go_simp
            have ka : Kept p17 (p17.alloc (.cells #[.int .i64 (-1), .int .i64 10, .int .i64 10001] 3)) := Kept.alloc (Kept.refl _) _
            refine hK.out _ _ (by (try dsimp only); exact S17.out.alloc _) (fun hHeld => ?_)
            clear hK K
            (try simp only [Act.put, List.getElem_toArray, List.getElem_cons_zero, List.getElem_cons_succ, List.setIfInBounds_toArray, List.set_cons_zero, List.set_cons_succ])
            have E18 := Lib.hid (blk4 ka E17.out)
            have O18 := Lib.hid (own_kept O17.out ka)
            have C18 := Lib.hid (C17.out.kept ka)
            have S18 := Lib.hid (S17.out.alloc (.cells #[.int .i64 (-1), .int .i64 10, .int .i64 10001] 3))
            have R18 := Lib.hid (blk4 ka R17.out)
            have NI6_18 := Lib.hid (NI6_17.out.kept ka)
            have NI3_18 := Lib.hid (NumsIn.lit (w := p17) (xs := [-1, 10, 10001]) (t := 3) (n := p17.heap.size) (cs := #[.int .i64 (-1), .int .i64 10, .int .i64 10001]) (by rfl) rfl)
            have hg18 : p17.heap.size ≠ g := fun e => by have := S17.out.size; omega
            clear ka
            generalize p17.alloc (.cells #[.int .i64 (-1), .int .i64 10, .int .i64 10001] 3) = p18 at *
            refine wpAnyH_ready (rs := [4]) (by kernel_rfl) (by simp) ?_
            refine AllReadyH.cons rfl (fun K hK => ?_) (AllReadyH.nil)
            go_simp
            go_at_call 67
            refine (among_any g _ 3 K0 [-1, 10, 10001] _ C18.out (by omega) NI3_18.out hg18 (by decide) (by decide)).mono ?_
            rintro e p19 ⟨v4, rfl, -, hc19, hs19⟩
            (try go_wp2_with fail)
            refine hK.out _ _ (by (try dsimp only); exact S18.out.trans hs19) (fun hHeld => ?_)
            clear hK K
            (try simp only [Act.put, List.getElem_toArray, List.getElem_cons_zero, List.getElem_cons_succ, List.setIfInBounds_toArray, List.set_cons_zero, List.set_cons_succ])
            have E19 := Lib.hid (blk4_stir hs19 (by omega) E18.out)
            have O19 := Lib.hid (hs19.own O18.out (by omega))
            have C19 := Lib.hid hc19
            have S19 := Lib.hid (S18.out.trans hs19)
            have R19 := Lib.hid (blk4_stir hs19 (by omega) R18.out)
            have NI6_19 := Lib.hid (NI6_18.out.stir hs19 hg17)
            have NI3_19 := Lib.hid (NI3_18.out.stir hs19 hg18)
            clear hc19 hs19
            refine wpAnyH_ready (rs := [7]) (by kernel_rfl) (by simp) ?_
            refine AllReadyH.cons rfl (fun K hK => ?_) (AllReadyH.nil)
            go_simp
            go_at_call 67
            refine (among_any g _ 3 (K0 + 2) [0, -501, 2001] _ C19.out (by omega) NI6_19.out hg17 (by decide) (by decide)).mono ?_
            rintro e p20 ⟨v7, rfl, -, hc20, hs20⟩
            (try go_wp2_with fail)
            refine hK.out _ _ (by (try dsimp only); exact S19.out.trans hs20) (fun hHeld => ?_)
            clear hK K
            (try simp only [Act.put, List.getElem_toArray, List.getElem_cons_zero, List.getElem_cons_succ, List.setIfInBounds_toArray, List.set_cons_zero, List.set_cons_succ])
            have E20 := Lib.hid (blk4_stir hs20 (by omega) E19.out)
            have O20 := Lib.hid (hs20.own O19.out (by omega))
            have C20 := Lib.hid hc20
            have S20 := Lib.hid (S19.out.trans hs20)
            have R20 := Lib.hid (blk4_stir hs20 (by omega) R19.out)
            have NI6_20 := Lib.hid (NI6_19.out.stir hs20 hg17)
            have NI3_20 := Lib.hid (NI3_19.out.stir hs20 hg18)
            clear hc20 hs20
            refine wpAnyH_take (i := 8) (v := ?_) rfl (by kernel_rfl) (by kernel_rfl) (by kernel_rfl) (fun _ _ _ h => h) (Or.inl ⟨by kernel_rfl, ?_⟩) (by assumption) ?_
            rotate_left
            focus (intro w' hSw; (try dsimp only at hSw); go_simp; (try with_reducible rfl))
            (try simp only [Act.put, List.getElem_toArray, List.getElem_cons_zero, List.getElem_cons_succ, List.setIfInBounds_toArray, List.set_cons_zero, List.set_cons_succ])
            refine wpAnyH_ready (rs := [9]) (by kernel_rfl) (by simp) ?_
            refine AllReadyH.cons rfl (fun K hK => ?_) (AllReadyH.nil)
            go_simp
            have ka : Kept p20 (p20.alloc (.cells #[.int .i64 v4, .int .i64 v7] 28)) := Kept.alloc (Kept.refl _) _
            refine hK.out _ _ (by (try dsimp only); exact S20.out.alloc _) (fun hHeld => ?_)
            clear hK K
            (try simp only [Act.put, List.getElem_toArray, List.getElem_cons_zero, List.getElem_cons_succ, List.setIfInBounds_toArray, List.set_cons_zero, List.set_cons_succ])
            have E21 := Lib.hid (blk4 ka E20.out)
            have O21 := Lib.hid (own_kept O20.out ka)
            have C21 := Lib.hid (C20.out.kept ka)
            have S21 := Lib.hid (S20.out.alloc (.cells #[.int .i64 v4, .int .i64 v7] 28))
            have R21 := Lib.hid (blk4 ka R20.out)
            have NI6_21 := Lib.hid (NI6_20.out.kept ka)
            have NI3_21 := Lib.hid (NI3_20.out.kept ka)
            have B21 := Lib.hid (heap_alloc_new p20 (.cells #[.int .i64 v4, .int .i64 v7] 28))
            clear ka
            generalize p20.alloc (.cells #[.int .i64 v4, .int .i64 v7] 28) = p21 at *
            refine wpAnyH_ready (rs := [10]) (by kernel_rfl) (by simp) ?_
            refine AllReadyH.cons rfl (fun K hK => ?_) (AllReadyH.nil)
            refine step_append_own1 _ (by rfl) _ _ _ (by rfl) (b + 1) 28 i0 _ 16 Try.underlying24 hi0 hz0 hz1 hz2 rfl _ xs.length _ (by rfl) O21.out _ (v4, v7) (by rfl) B21.out (by unfold maxLen; omega) (by omega) (by have := World.block_lt_of_cell? _ _ E21.out.1; simp at this; omega) ?_
            intro A22 c22 p22 hown22 hgrow22
            have hrow : ∀ q, (Value.slice A xs.length c).ownBlock = some q → b + 1 ≤ q := fun q hq => (O21.out.lt q hq).1
            have hnb : some b ≠ (Value.slice A xs.length c).ownBlock := fun e => by have := hrow b e.symm; omega
            have hnr : some w.heap.size ≠ (Value.slice A xs.length c).ownBlock := fun e => by have := hrow _ e.symm; omega
            have S22 := Lib.hid (S21.out.grown hgrow22 (fun q hq => by have := hrow q hq; omega))
            refine hK.out _ _ (by (try dsimp only); exact S22.out) (fun hHeld => ?_)
            clear hK K
            (try simp only [Act.put, List.getElem_toArray, List.getElem_cons_zero, List.getElem_cons_succ, List.setIfInBounds_toArray, List.set_cons_zero, List.set_cons_succ])
            have E22 := Lib.hid (blk4_grown hgrow22 hnb E21.out)
            have O22 := Lib.hid hown22
            have C22 := Lib.hid (C21.out.grown hgrow22 (fun q hq => by have := hrow q hq; omega))
            have R22 := Lib.hid (blk4_grown hgrow22 hnr R21.out)
            clear hown22 hgrow22 hrow hnb hnr
            refine wpAnyH_ready (rs := [11]) (by kernel_rfl) (by simp) ?_
            refine AllReadyH.cons rfl (fun K hK => ?_) (AllReadyH.nil)
            go_simp
            refine hK.out _ _ (by (try dsimp only); exact hHeld) (fun hHeld => ?_)
            clear hK K
            (try simp only [Act.put, List.getElem_toArray, List.getElem_cons_zero, List.getElem_cons_succ, List.setIfInBounds_toArray, List.set_cons_zero, List.set_cons_succ])
            refine wpAnyH_ready (rs := [12]) (by kernel_rfl) (by simp) ?_
            refine AllReadyH.cons rfl (fun K hK => ?_) (AllReadyH.nil)
            obtain ⟨q0, f0, q1, f1, q2, f2, q3, f3⟩ := E22.out
            go_simp
            have SF := Lib.hid (S22.out.setNew (p := ⟨b, 3, none⟩) (by simp; omega) (.slice A22 (xs.length + 1) c22))
            have hl : (xs ++ [(v4, v7)]).length = xs.length + 1 := by simp
            have FG := Lib.hid (show GS w (p22.setCell ⟨b, 3, none⟩ (.slice A22 (xs.length + 1) c22)) g b ((K0 + 2) + 2) (9) from ⟨⟨i, z, nm, A22, c22, xs ++ [(v4, v7)], hnm, by omega, by rw [hl]; simp [go_sem, *], by rw [hl, List.flatMap_append]; exact ownsRow_setCell_below O22.out (by simp) _⟩, C22.out.set (by simp; omega) _, SF.out, blk4_set _ (by simp; omega) _ R22.out⟩)
            refine hK.out _ _ (by (try dsimp only); exact SF.out) (fun hHeld => ?_)
            clear hK K
            (try simp only [Act.put, List.getElem_toArray, List.getElem_cons_zero, List.getElem_cons_succ, List.setIfInBounds_toArray, List.set_cons_zero, List.set_cons_succ])
            clear q0 f0 q1 f1 q2 f2 q3 f3
            refine wpAnyH_done (by kernel_rfl) ?_ _
            go_upto_region 23 with fail
            obtain ⟨⟨i, z, nm, A, c, xs, hnm, hxl, ⟨q0, f0, q1, f1, q2, f2, q3, f3⟩, ho⟩, hcu, hsu, ⟨y0, l0, y1, l1, y2, l2, y3, l3⟩⟩ := FG.out
            have OU := Lib.hid ho
            have CU := Lib.hid hcu
            have SU := Lib.hid hsu
            clear ho hcu hsu
            go_wp2_with fail
            exact bodyPost_ret (v := .agg #[.int .i64 i, .string nm, .int .i64 z, .slice A xs.length c]) (by simp [results, Try.results66, go_sem, *]) rfl ⟨i, z, nm, _, xs, rfl, hnm, by omega, own_base (ownsRow_setCell_below (ownsRow_setCell_below (ownsRow_setCell_below (ownsRow_setCell_below OU.out (by first | (simp; done) | (simp; omega)) _) (by first | (simp; done) | (simp; omega)) _) (by first | (simp; done) | (simp; omega)) _) (by first | (simp; done) | (simp; omega)) _) (by omega), ((((CU.out.set (by first | (simp; done) | (simp; omega)) _).set (by first | (simp; done) | (simp; omega)) _).set (by first | (simp; done) | (simp; omega)) _).set (by first | (simp; done) | (simp; omega)) _).mono (by omega), (((SU.out.setNew (by first | (simp; done) | (simp; omega)) _).setNew (by first | (simp; done) | (simp; omega)) _).setNew (by first | (simp; done) | (simp; omega)) _).setNew (by first | (simp; done) | (simp; omega)) _⟩
        · skip
          go_simp
          have ka : Kept p0 (p0.alloc (.cells #[.int .i64 (-1), .int .i64 10, .int .i64 10001] 3)) := Kept.alloc (Kept.refl _) _
          refine hK.out _ _ (by (try dsimp only); exact S0.out.alloc _) (fun hHeld => ?_)
          clear hK K
          (try simp only [Act.put, List.getElem_toArray, List.getElem_cons_zero, List.getElem_cons_succ, List.setIfInBounds_toArray, List.set_cons_zero, List.set_cons_succ])
          have E25 := Lib.hid (blk4 ka E0.out)
          have O25 := Lib.hid (own_kept O0.out ka)
          have C25 := Lib.hid (C0.out.kept ka)
          have S25 := Lib.hid (S0.out.alloc (.cells #[.int .i64 (-1), .int .i64 10, .int .i64 10001] 3))
          have R25 := Lib.hid (blk4 ka R0.out)
          have NI3_25 := Lib.hid (NumsIn.lit (w := p0) (xs := [-1, 10, 10001]) (t := 3) (n := p0.heap.size) (cs := #[.int .i64 (-1), .int .i64 10, .int .i64 10001]) (by rfl) rfl)
          have hg25 : p0.heap.size ≠ g := fun e => by have := S0.out.size; omega
          clear ka
          generalize p0.alloc (.cells #[.int .i64 (-1), .int .i64 10, .int .i64 10001] 3) = p25 at *
          refine wpAnyH_ready (rs := [1, 4, 6]) (by kernel_rfl) (by simp) ?_
          refine AllReadyH.cons rfl (fun K hK => ?_) (AllReadyH.cons rfl (fun K hK => ?_) (AllReadyH.cons rfl (fun K hK => ?_) (AllReadyH.nil)))
          · skip
            have s3 := E25.out.2.2.2.2.2.2.1
            go_simp
            refine hK.out _ _ (by (try dsimp only); exact S25.out) (fun hHeld => ?_)
            clear hK K
            (try simp only [Act.put, List.getElem_toArray, List.getElem_cons_zero, List.getElem_cons_succ, List.setIfInBounds_toArray, List.set_cons_zero, List.set_cons_succ])
            clear s3
            refine wpAnyH_ready (rs := [4, 6]) (by kernel_rfl) (by simp) ?_
            refine AllReadyH.cons rfl (fun K hK => ?_) (AllReadyH.cons rfl (fun K hK => ?_) (AllReadyH.nil))
            · skip
              go_simp
              go_at_call 67
              refine (among_any g _ 3 K0 [-1, 10, 10001] _ C25.out (by omega) NI3_25.out hg25 (by decide) (by decide)).mono ?_
              rintro e p27 ⟨v4, rfl, -, hc27, hs27⟩
              (try go_wp2_with fail)
              refine hK.out _ _ (by (try dsimp only); exact S25.out.trans hs27) (fun hHeld => ?_)
              clear hK K
              (try simp only [Act.put, List.getElem_toArray, List.getElem_cons_zero, List.getElem_cons_succ, List.setIfInBounds_toArray, List.set_cons_zero, List.set_cons_succ])
              have E27 := Lib.hid (blk4_stir hs27 (by omega) E25.out)
              have O27 := Lib.hid (hs27.own O25.out (by omega))
              have C27 := Lib.hid hc27
              have S27 := Lib.hid (S25.out.trans hs27)
              have R27 := Lib.hid (blk4_stir hs27 (by omega) R25.out)
              have NI3_27 := Lib.hid (NI3_25.out.stir hs27 hg25)
              clear hc27 hs27
              refine wpAnyH_ready (rs := [6]) (by kernel_rfl) (by simp) ?_
              refine AllReadyH.cons rfl (fun K hK => ?_) (AllReadyH.nil)
              go_simp
              have ka : Kept p27 (p27.alloc (.cells #[.int .i64 0, .int .i64 (-501), .int .i64 2001] 3)) := Kept.alloc (Kept.refl _) _
              refine hK.out _ _ (by (try dsimp only); exact S27.out.alloc _) (fun hHeld => ?_)
              clear hK K
              (try simp only [Act.put, List.getElem_toArray, List.getElem_cons_zero, List.getElem_cons_succ, List.setIfInBounds_toArray, List.set_cons_zero, List.set_cons_succ])
              have E28 := Lib.hid (blk4 ka E27.out)
              have O28 := Lib.hid (own_kept O27.out ka)
              have C28 := Lib.hid (C27.out.kept ka)
              have S28 := Lib.hid (S27.out.alloc (.cells #[.int .i64 0, .int .i64 (-501), .int .i64 2001] 3))
              have R28 := Lib.hid (blk4 ka R27.out)
              have NI3_28 := Lib.hid (NI3_27.out.kept ka)
              have NI6_28 := Lib.hid (NumsIn.lit (w := p27) (xs := [0, -501, 2001]) (t := 3) (n := p27.heap.size) (cs := #[.int .i64 0, .int .i64 (-501), .int .i64 2001]) (by rfl) rfl)
              have hg28 : p27.heap.size ≠ g := fun e => by have := S27.out.size; omega
              clear ka
              generalize p27.alloc (.cells #[.int .i64 0, .int .i64 (-501), .int .i64 2001] 3) = p28 at *
              refine wpAnyH_ready (rs := [7]) (by kernel_rfl) (by simp) ?_
              refine AllReadyH.cons rfl (fun K hK => ?_) (AllReadyH.nil)
              go_simp
              go_at_call 67
              refine (among_any g _ 3 (K0 + 2) [0, -501, 2001] _ C28.out (by omega) NI6_28.out hg28 (by decide) (by decide)).mono ?_
              rintro e p29 ⟨v7, rfl, -, hc29, hs29⟩
              (try go_wp2_with fail)
              refine hK.out _ _ (by (try dsimp only); exact S28.out.trans hs29) (fun hHeld => ?_)
              clear hK K
              (try simp only [Act.put, List.getElem_toArray, List.getElem_cons_zero, List.getElem_cons_succ, List.setIfInBounds_toArray, List.set_cons_zero, List.set_cons_succ])
              have E29 := Lib.hid (blk4_stir hs29 (by omega) E28.out)
              have O29 := Lib.hid (hs29.own O28.out (by omega))
              have C29 := Lib.hid hc29
              have S29 := Lib.hid (S28.out.trans hs29)
              have R29 := Lib.hid (blk4_stir hs29 (by omega) R28.out)
              have NI3_29 := Lib.hid (NI3_28.out.stir hs29 hg25)
              have NI6_29 := Lib.hid (NI6_28.out.stir hs29 hg28)
              clear hc29 hs29
              refine wpAnyH_take (i := 8) (v := ?_) rfl (by kernel_rfl) (by kernel_rfl) (by kernel_rfl) (fun _ _ _ h => h) (Or.inl ⟨by kernel_rfl, ?_⟩) (by assumption) ?_
              rotate_left
              focus (intro w' hSw; (try dsimp only at hSw); go_simp; (try with_reducible rfl))
              (try simp only [Act.put, List.getElem_toArray, List.getElem_cons_zero, List.getElem_cons_succ, List.setIfInBounds_toArray, List.set_cons_zero, List.set_cons_succ])
              refine wpAnyH_ready (rs := [9]) (by kernel_rfl) (by simp) ?_
              refine AllReadyH.cons rfl (fun K hK => ?_) (AllReadyH.nil)
              go_simp
              have ka : Kept p29 (p29.alloc (.cells #[.int .i64 v4, .int .i64 v7] 28)) := Kept.alloc (Kept.refl _) _
              refine hK.out _ _ (by (try dsimp only); exact S29.out.alloc _) (fun hHeld => ?_)
              clear hK K
              (try simp only [Act.put, List.getElem_toArray, List.getElem_cons_zero, List.getElem_cons_succ, List.setIfInBounds_toArray, List.set_cons_zero, List.set_cons_succ])
              have E30 := Lib.hid (blk4 ka E29.out)
              have O30 := Lib.hid (own_kept O29.out ka)
              have C30 := Lib.hid (C29.out.kept ka)
              have S30 := Lib.hid (S29.out.alloc (.cells #[.int .i64 v4, .int .i64 v7] 28))
              have R30 := Lib.hid (blk4 ka R29.out)
              have NI3_30 := Lib.hid (NI3_29.out.kept ka)
              have NI6_30 := Lib.hid (NI6_29.out.kept ka)
              have B30 := Lib.hid (heap_alloc_new p29 (.cells #[.int .i64 v4, .int .i64 v7] 28))
              clear ka
              generalize p29.alloc (.cells #[.int .i64 v4, .int .i64 v7] 28) = p30 at *
              refine wpAnyH_ready (rs := [10]) (by kernel_rfl) (by simp) ?_
              refine AllReadyH.cons rfl (fun K hK => ?_) (AllReadyH.nil)
              refine step_append_own1 _ (by rfl) _ _ _ (by rfl) (b + 1) 28 i0 _ 16 Try.underlying24 hi0 hz0 hz1 hz2 rfl _ xs.length _ (by rfl) O30.out _ (v4, v7) (by rfl) B30.out (by unfold maxLen; omega) (by omega) (by have := World.block_lt_of_cell? _ _ E30.out.1; simp at this; omega) ?_
              intro A31 c31 p31 hown31 hgrow31
              have hrow : ∀ q, (Value.slice A xs.length c).ownBlock = some q → b + 1 ≤ q := fun q hq => (O30.out.lt q hq).1
              have hnb : some b ≠ (Value.slice A xs.length c).ownBlock := fun e => by have := hrow b e.symm; omega
              have hnr : some w.heap.size ≠ (Value.slice A xs.length c).ownBlock := fun e => by have := hrow _ e.symm; omega
              have S31 := Lib.hid (S30.out.grown hgrow31 (fun q hq => by have := hrow q hq; omega))
              refine hK.out _ _ (by (try dsimp only); exact S31.out) (fun hHeld => ?_)
              clear hK K
              (try simp only [Act.put, List.getElem_toArray, List.getElem_cons_zero, List.getElem_cons_succ, List.setIfInBounds_toArray, List.set_cons_zero, List.set_cons_succ])
              have E31 := Lib.hid (blk4_grown hgrow31 hnb E30.out)
              have O31 := Lib.hid hown31
              have C31 := Lib.hid (C30.out.grown hgrow31 (fun q hq => by have := hrow q hq; omega))
              have R31 := Lib.hid (blk4_grown hgrow31 hnr R30.out)
              clear hown31 hgrow31 hrow hnb hnr
              refine wpAnyH_ready (rs := [11]) (by kernel_rfl) (by simp) ?_
              refine AllReadyH.cons rfl (fun K hK => ?_) (AllReadyH.nil)
              go_simp
              refine hK.out _ _ (by (try dsimp only); exact hHeld) (fun hHeld => ?_)
              clear hK K
              (try simp only [Act.put, List.getElem_toArray, List.getElem_cons_zero, List.getElem_cons_succ, List.setIfInBounds_toArray, List.set_cons_zero, List.set_cons_succ])
              refine wpAnyH_ready (rs := [12]) (by kernel_rfl) (by simp) ?_
              refine AllReadyH.cons rfl (fun K hK => ?_) (AllReadyH.nil)
              obtain ⟨q0, f0, q1, f1, q2, f2, q3, f3⟩ := E31.out
              go_simp
              have SF := Lib.hid (S31.out.setNew (p := ⟨b, 3, none⟩) (by simp; omega) (.slice A31 (xs.length + 1) c31))
              have hl : (xs ++ [(v4, v7)]).length = xs.length + 1 := by simp
              have FG := Lib.hid (show GS w (p31.setCell ⟨b, 3, none⟩ (.slice A31 (xs.length + 1) c31)) g b ((K0 + 2) + 2) (9) from ⟨⟨i, z, nm, A31, c31, xs ++ [(v4, v7)], hnm, by omega, by rw [hl]; simp [go_sem, *], by rw [hl, List.flatMap_append]; exact ownsRow_setCell_below O31.out (by simp) _⟩, C31.out.set (by simp; omega) _, SF.out, blk4_set _ (by simp; omega) _ R31.out⟩)
              refine hK.out _ _ (by (try dsimp only); exact SF.out) (fun hHeld => ?_)
              clear hK K
              (try simp only [Act.put, List.getElem_toArray, List.getElem_cons_zero, List.getElem_cons_succ, List.setIfInBounds_toArray, List.set_cons_zero, List.set_cons_succ])
              clear q0 f0 q1 f1 q2 f2 q3 f3
              refine wpAnyH_done (by kernel_rfl) ?_ _
              go_upto_region 23 with fail
              obtain ⟨⟨i, z, nm, A, c, xs, hnm, hxl, ⟨q0, f0, q1, f1, q2, f2, q3, f3⟩, ho⟩, hcu, hsu, ⟨y0, l0, y1, l1, y2, l2, y3, l3⟩⟩ := FG.out
              have OU := Lib.hid ho
              have CU := Lib.hid hcu
              have SU := Lib.hid hsu
              clear ho hcu hsu
              go_wp2_with fail
              exact bodyPost_ret (v := .agg #[.int .i64 i, .string nm, .int .i64 z, .slice A xs.length c]) (by simp [results, Try.results66, go_sem, *]) rfl ⟨i, z, nm, _, xs, rfl, hnm, by omega, own_base (ownsRow_setCell_below (ownsRow_setCell_below (ownsRow_setCell_below (ownsRow_setCell_below OU.out (by first | (simp; done) | (simp; omega)) _) (by first | (simp; done) | (simp; omega)) _) (by first | (simp; done) | (simp; omega)) _) (by first | (simp; done) | (simp; omega)) _) (by omega), ((((CU.out.set (by first | (simp; done) | (simp; omega)) _).set (by first | (simp; done) | (simp; omega)) _).set (by first | (simp; done) | (simp; omega)) _).set (by first | (simp; done) | (simp; omega)) _).mono (by omega), (((SU.out.setNew (by first | (simp; done) | (simp; omega)) _).setNew (by first | (simp; done) | (simp; omega)) _).setNew (by first | (simp; done) | (simp; omega)) _).setNew (by first | (simp; done) | (simp; omega)) _⟩
            · skip
              go_simp
              have ka : Kept p25 (p25.alloc (.cells #[.int .i64 0, .int .i64 (-501), .int .i64 2001] 3)) := Kept.alloc (Kept.refl _) _
              refine hK.out _ _ (by (try dsimp only); exact S25.out.alloc _) (fun hHeld => ?_)
              clear hK K
              (try simp only [Act.put, List.getElem_toArray, List.getElem_cons_zero, List.getElem_cons_succ, List.setIfInBounds_toArray, List.set_cons_zero, List.set_cons_succ])
              have E34 := Lib.hid (blk4 ka E25.out)
              have O34 := Lib.hid (own_kept O25.out ka)
              have C34 := Lib.hid (C25.out.kept ka)
              have S34 := Lib.hid (S25.out.alloc (.cells #[.int .i64 0, .int .i64 (-501), .int .i64 2001] 3))
              have R34 := Lib.hid (blk4 ka R25.out)
              have NI3_34 := Lib.hid (NI3_25.out.kept ka)
              have NI6_34 := Lib.hid (NumsIn.lit (w := p25) (xs := [0, -501, 2001]) (t := 3) (n := p25.heap.size) (cs := #[.int .i64 0, .int .i64 (-501), .int .i64 2001]) (by rfl) rfl)
              have hg34 : p25.heap.size ≠ g := fun e => by have := S25.out.size; omega
              clear ka
              generalize p25.alloc (.cells #[.int .i64 0, .int .i64 (-501), .int .i64 2001] 3) = p34 at *
              refine wpAnyH_ready (rs := [4]) (by kernel_rfl) (by simp) ?_
              refine AllReadyH.cons rfl (fun K hK => ?_) (AllReadyH.nil)
              go_simp
              go_at_call 67
              refine (among_any g _ 3 K0 [-1, 10, 10001] _ C34.out (by omega) NI3_34.out hg25 (by decide) (by decide)).mono ?_
              rintro e p35 ⟨v4, rfl, -, hc35, hs35⟩
              (try go_wp2_with fail)
              refine hK.out _ _ (by (try dsimp only); exact S34.out.trans hs35) (fun hHeld => ?_)
              clear hK K
              (try simp only [Act.put, List.getElem_toArray, List.getElem_cons_zero, List.getElem_cons_succ, List.setIfInBounds_toArray, List.set_cons_zero, List.set_cons_succ])
              have E35 := Lib.hid (blk4_stir hs35 (by omega) E34.out)
              have O35 := Lib.hid (hs35.own O34.out (by omega))
              have C35 := Lib.hid hc35
              have S35 := Lib.hid (S34.out.trans hs35)
              have R35 := Lib.hid (blk4_stir hs35 (by omega) R34.out)
              have NI3_35 := Lib.hid (NI3_34.out.stir hs35 hg25)
              have NI6_35 := Lib.hid (NI6_34.out.stir hs35 hg34)
              clear hc35 hs35
              refine wpAnyH_ready (rs := [7]) (by kernel_rfl) (by simp) ?_
              refine AllReadyH.cons rfl (fun K hK => ?_) (AllReadyH.nil)
              go_simp
              go_at_call 67
              refine (among_any g _ 3 (K0 + 2) [0, -501, 2001] _ C35.out (by omega) NI6_35.out hg34 (by decide) (by decide)).mono ?_
              rintro e p36 ⟨v7, rfl, -, hc36, hs36⟩
              (try go_wp2_with fail)
              refine hK.out _ _ (by (try dsimp only); exact S35.out.trans hs36) (fun hHeld => ?_)
              clear hK K
              (try simp only [Act.put, List.getElem_toArray, List.getElem_cons_zero, List.getElem_cons_succ, List.setIfInBounds_toArray, List.set_cons_zero, List.set_cons_succ])
              have E36 := Lib.hid (blk4_stir hs36 (by omega) E35.out)
              have O36 := Lib.hid (hs36.own O35.out (by omega))
              have C36 := Lib.hid hc36
              have S36 := Lib.hid (S35.out.trans hs36)
              have R36 := Lib.hid (blk4_stir hs36 (by omega) R35.out)
              have NI3_36 := Lib.hid (NI3_35.out.stir hs36 hg25)
              have NI6_36 := Lib.hid (NI6_35.out.stir hs36 hg34)
              clear hc36 hs36
              refine wpAnyH_take (i := 8) (v := ?_) rfl (by kernel_rfl) (by kernel_rfl) (by kernel_rfl) (fun _ _ _ h => h) (Or.inl ⟨by kernel_rfl, ?_⟩) (by assumption) ?_
              rotate_left
              focus (intro w' hSw; (try dsimp only at hSw); go_simp; (try with_reducible rfl))
              (try simp only [Act.put, List.getElem_toArray, List.getElem_cons_zero, List.getElem_cons_succ, List.setIfInBounds_toArray, List.set_cons_zero, List.set_cons_succ])
              refine wpAnyH_ready (rs := [9]) (by kernel_rfl) (by simp) ?_
              refine AllReadyH.cons rfl (fun K hK => ?_) (AllReadyH.nil)
              go_simp
              have ka : Kept p36 (p36.alloc (.cells #[.int .i64 v4, .int .i64 v7] 28)) := Kept.alloc (Kept.refl _) _
              refine hK.out _ _ (by (try dsimp only); exact S36.out.alloc _) (fun hHeld => ?_)
              clear hK K
              (try simp only [Act.put, List.getElem_toArray, List.getElem_cons_zero, List.getElem_cons_succ, List.setIfInBounds_toArray, List.set_cons_zero, List.set_cons_succ])
              have E37 := Lib.hid (blk4 ka E36.out)
              have O37 := Lib.hid (own_kept O36.out ka)
              have C37 := Lib.hid (C36.out.kept ka)
              have S37 := Lib.hid (S36.out.alloc (.cells #[.int .i64 v4, .int .i64 v7] 28))
              have R37 := Lib.hid (blk4 ka R36.out)
              have NI3_37 := Lib.hid (NI3_36.out.kept ka)
              have NI6_37 := Lib.hid (NI6_36.out.kept ka)
              have B37 := Lib.hid (heap_alloc_new p36 (.cells #[.int .i64 v4, .int .i64 v7] 28))
              clear ka
              generalize p36.alloc (.cells #[.int .i64 v4, .int .i64 v7] 28) = p37 at *
              refine wpAnyH_ready (rs := [10]) (by kernel_rfl) (by simp) ?_
              refine AllReadyH.cons rfl (fun K hK => ?_) (AllReadyH.nil)
              refine step_append_own1 _ (by rfl) _ _ _ (by rfl) (b + 1) 28 i0 _ 16 Try.underlying24 hi0 hz0 hz1 hz2 rfl _ xs.length _ (by rfl) O37.out _ (v4, v7) (by rfl) B37.out (by unfold maxLen; omega) (by omega) (by have := World.block_lt_of_cell? _ _ E37.out.1; simp at this; omega) ?_
              intro A38 c38 p38 hown38 hgrow38
              have hrow : ∀ q, (Value.slice A xs.length c).ownBlock = some q → b + 1 ≤ q := fun q hq => (O37.out.lt q hq).1
              have hnb : some b ≠ (Value.slice A xs.length c).ownBlock := fun e => by have := hrow b e.symm; omega
              have hnr : some w.heap.size ≠ (Value.slice A xs.length c).ownBlock := fun e => by have := hrow _ e.symm; omega
              have S38 := Lib.hid (S37.out.grown hgrow38 (fun q hq => by have := hrow q hq; omega))
              refine hK.out _ _ (by (try dsimp only); exact S38.out) (fun hHeld => ?_)
              clear hK K
              (try simp only [Act.put, List.getElem_toArray, List.getElem_cons_zero, List.getElem_cons_succ, List.setIfInBounds_toArray, List.set_cons_zero, List.set_cons_succ])
              have E38 := Lib.hid (blk4_grown hgrow38 hnb E37.out)
              have O38 := Lib.hid hown38
              have C38 := Lib.hid (C37.out.grown hgrow38 (fun q hq => by have := hrow q hq; omega))
              have R38 := Lib.hid (blk4_grown hgrow38 hnr R37.out)
              clear hown38 hgrow38 hrow hnb hnr
              refine wpAnyH_ready (rs := [11]) (by kernel_rfl) (by simp) ?_
              refine AllReadyH.cons rfl (fun K hK => ?_) (AllReadyH.nil)
              go_simp
              refine hK.out _ _ (by (try dsimp only); exact hHeld) (fun hHeld => ?_)
              clear hK K
              (try simp only [Act.put, List.getElem_toArray, List.getElem_cons_zero, List.getElem_cons_succ, List.setIfInBounds_toArray, List.set_cons_zero, List.set_cons_succ])
              refine wpAnyH_ready (rs := [12]) (by kernel_rfl) (by simp) ?_
              refine AllReadyH.cons rfl (fun K hK => ?_) (AllReadyH.nil)
              obtain ⟨q0, f0, q1, f1, q2, f2, q3, f3⟩ := E38.out
              go_simp
              have SF := Lib.hid (S38.out.setNew (p := ⟨b, 3, none⟩) (by simp; omega) (.slice A38 (xs.length + 1) c38))
              have hl : (xs ++ [(v4, v7)]).length = xs.length + 1 := by simp
              have FG := Lib.hid (show GS w (p38.setCell ⟨b, 3, none⟩ (.slice A38 (xs.length + 1) c38)) g b ((K0 + 2) + 2) (9) from ⟨⟨i, z, nm, A38, c38, xs ++ [(v4, v7)], hnm, by omega, by rw [hl]; simp [go_sem, *], by rw [hl, List.flatMap_append]; exact ownsRow_setCell_below O38.out (by simp) _⟩, C38.out.set (by simp; omega) _, SF.out, blk4_set _ (by simp; omega) _ R38.out⟩)
              refine hK.out _ _ (by (try dsimp only); exact SF.out) (fun hHeld => ?_)
              clear hK K
              (try simp only [Act.put, List.getElem_toArray, List.getElem_cons_zero, List.getElem_cons_succ, List.setIfInBounds_toArray, List.set_cons_zero, List.set_cons_succ])
              clear q0 f0 q1 f1 q2 f2 q3 f3
              refine wpAnyH_done (by kernel_rfl) ?_ _
              go_upto_region 23 with fail
              obtain ⟨⟨i, z, nm, A, c, xs, hnm, hxl, ⟨q0, f0, q1, f1, q2, f2, q3, f3⟩, ho⟩, hcu, hsu, ⟨y0, l0, y1, l1, y2, l2, y3, l3⟩⟩ := FG.out
              have OU := Lib.hid ho
              have CU := Lib.hid hcu
              have SU := Lib.hid hsu
              clear ho hcu hsu
              go_wp2_with fail
              exact bodyPost_ret (v := .agg #[.int .i64 i, .string nm, .int .i64 z, .slice A xs.length c]) (by simp [results, Try.results66, go_sem, *]) rfl ⟨i, z, nm, _, xs, rfl, hnm, by omega, own_base (ownsRow_setCell_below (ownsRow_setCell_below (ownsRow_setCell_below (ownsRow_setCell_below OU.out (by first | (simp; done) | (simp; omega)) _) (by first | (simp; done) | (simp; omega)) _) (by first | (simp; done) | (simp; omega)) _) (by first | (simp; done) | (simp; omega)) _) (by omega), ((((CU.out.set (by first | (simp; done) | (simp; omega)) _).set (by first | (simp; done) | (simp; omega)) _).set (by first | (simp; done) | (simp; omega)) _).set (by first | (simp; done) | (simp; omega)) _).mono (by omega), (((SU.out.setNew (by first | (simp; done) | (simp; omega)) _).setNew (by first | (simp; done) | (simp; omega)) _).setNew (by first | (simp; done) | (simp; omega)) _).setNew (by first | (simp; done) | (simp; omega)) _⟩
          · skip
            go_simp
            go_at_call 67
            refine (among_any g _ 3 K0 [-1, 10, 10001] _ C25.out (by omega) NI3_25.out hg25 (by decide) (by decide)).mono ?_
            rintro e p41 ⟨v4, rfl, -, hc41, hs41⟩
            (try go_wp2_with fail)
            refine hK.out _ _ (by (try dsimp only); exact S25.out.trans hs41) (fun hHeld => ?_)
            clear hK K
            (try simp only [Act.put, List.getElem_toArray, List.getElem_cons_zero, List.getElem_cons_succ, List.setIfInBounds_toArray, List.set_cons_zero, List.set_cons_succ])
            have E41 := Lib.hid (blk4_stir hs41 (by omega) E25.out)
            have O41 := Lib.hid (hs41.own O25.out (by omega))
            have C41 := Lib.hid hc41
            have S41 := Lib.hid (S25.out.trans hs41)
            have R41 := Lib.hid (blk4_stir hs41 (by omega) R25.out)
            have NI3_41 := Lib.hid (NI3_25.out.stir hs41 hg25)
            clear hc41 hs41
            refine wpAnyH_ready (rs := [1, 6]) (by kernel_rfl) (by simp) ?_
            refine AllReadyH.cons rfl (fun K hK => ?_) (AllReadyH.cons rfl (fun K hK => ?_) (AllReadyH.nil))
            · skip
              have s3 := E41.out.2.2.2.2.2.2.1
              go_simp
              refine hK.out _ _ (by (try dsimp only); exact S41.out) (fun hHeld => ?_)
              clear hK K
              (try simp only [Act.put, List.getElem_toArray, List.getElem_cons_zero, List.getElem_cons_succ, List.setIfInBounds_toArray, List.set_cons_zero, List.set_cons_succ])
              clear s3
              refine wpAnyH_ready (rs := [6]) (by kernel_rfl) (by simp) ?_
              refine AllReadyH.cons rfl (fun K hK => ?_) (AllReadyH.nil)
              go_simp
              have ka : Kept p41 (p41.alloc (.cells #[.int .i64 0, .int .i64 (-501), .int .i64 2001] 3)) := Kept.alloc (Kept.refl _) _
              refine hK.out _ _ (by (try dsimp only); exact S41.out.alloc _) (fun hHeld => ?_)
              clear hK K
              (try simp only [Act.put, List.getElem_toArray, List.getElem_cons_zero, List.getElem_cons_succ, List.setIfInBounds_toArray, List.set_cons_zero, List.set_cons_succ])
              have E43 := Lib.hid (blk4 ka E41.out)
              have O43 := Lib.hid (own_kept O41.out ka)
              have C43 := Lib.hid (C41.out.kept ka)
              have S43 := Lib.hid (S41.out.alloc (.cells #[.int .i64 0, .int .i64 (-501), .int .i64 2001] 3))
              have R43 := Lib.hid (blk4 ka R41.out)
              have NI3_43 := Lib.hid (NI3_41.out.kept ka)
              have NI6_43 := Lib.hid (NumsIn.lit (w := p41) (xs := [0, -501, 2001]) (t := 3) (n := p41.heap.size) (cs := #[.int .i64 0, .int .i64 (-501), .int .i64 2001]) (by rfl) rfl)
              have hg43 : p41.heap.size ≠ g := fun e => by have := S41.out.size; omega
              clear ka
              generalize p41.alloc (.cells #[.int .i64 0, .int .i64 (-501), .int .i64 2001] 3) = p43 at *
              refine wpAnyH_ready (rs := [7]) (by kernel_rfl) (by simp) ?_
              refine AllReadyH.cons rfl (fun K hK => ?_) (AllReadyH.nil)
              go_simp
              go_at_call 67
              refine (among_any g _ 3 (K0 + 2) [0, -501, 2001] _ C43.out (by omega) NI6_43.out hg43 (by decide) (by decide)).mono ?_
              rintro e p44 ⟨v7, rfl, -, hc44, hs44⟩
              (try go_wp2_with fail)
              refine hK.out _ _ (by (try dsimp only); exact S43.out.trans hs44) (fun hHeld => ?_)
              clear hK K
              (try simp only [Act.put, List.getElem_toArray, List.getElem_cons_zero, List.getElem_cons_succ, List.setIfInBounds_toArray, List.set_cons_zero, List.set_cons_succ])
              have E44 := Lib.hid (blk4_stir hs44 (by omega) E43.out)
              have O44 := Lib.hid (hs44.own O43.out (by omega))
              have C44 := Lib.hid hc44
              have S44 := Lib.hid (S43.out.trans hs44)
              have R44 := Lib.hid (blk4_stir hs44 (by omega) R43.out)
              have NI3_44 := Lib.hid (NI3_43.out.stir hs44 hg25)
              have NI6_44 := Lib.hid (NI6_43.out.stir hs44 hg43)
              clear hc44 hs44
              refine wpAnyH_take (i := 8) (v := ?_) rfl (by kernel_rfl) (by kernel_rfl) (by kernel_rfl) (fun _ _ _ h => h) (Or.inl ⟨by kernel_rfl, ?_⟩) (by assumption) ?_
              rotate_left
              focus (intro w' hSw; (try dsimp only at hSw); go_simp; (try with_reducible rfl))
              (try simp only [Act.put, List.getElem_toArray, List.getElem_cons_zero, List.getElem_cons_succ, List.setIfInBounds_toArray, List.set_cons_zero, List.set_cons_succ])
              refine wpAnyH_ready (rs := [9]) (by kernel_rfl) (by simp) ?_
              refine AllReadyH.cons rfl (fun K hK => ?_) (AllReadyH.nil)
              go_simp
              have ka : Kept p44 (p44.alloc (.cells #[.int .i64 v4, .int .i64 v7] 28)) := Kept.alloc (Kept.refl _) _
              refine hK.out _ _ (by (try dsimp only); exact S44.out.alloc _) (fun hHeld => ?_)
              clear hK K
              (try simp only [Act.put, List.getElem_toArray, List.getElem_cons_zero, List.getElem_cons_succ, List.setIfInBounds_toArray, List.set_cons_zero, List.set_cons_succ])
              have E45 := Lib.hid (blk4 ka E44.out)
              have O45 := Lib.hid (own_kept O44.out ka)
              have C45 := Lib.hid (C44.out.kept ka)
              have S45 := Lib.hid (S44.out.alloc (.cells #[.int .i64 v4, .int .i64 v7] 28))
              have R45 := Lib.hid (blk4 ka R44.out)
              have NI3_45 := Lib.hid (NI3_44.out.kept ka)
              have NI6_45 := Lib.hid (NI6_44.out.kept ka)
              have B45 := Lib.hid (heap_alloc_new p44 (.cells #[.int .i64 v4, .int .i64 v7] 28))
              clear ka
              generalize p44.alloc (.cells #[.int .i64 v4, .int .i64 v7] 28) = p45 at *
              refine wpAnyH_ready (rs := [10]) (by kernel_rfl) (by simp) ?_
              refine AllReadyH.cons rfl (fun K hK => ?_) (AllReadyH.nil)
              refine step_append_own1 _ (by rfl) _ _ _ (by rfl) (b + 1) 28 i0 _ 16 Try.underlying24 hi0 hz0 hz1 hz2 rfl _ xs.length _ (by rfl) O45.out _ (v4, v7) (by rfl) B45.out (by unfold maxLen; omega) (by omega) (by have := World.block_lt_of_cell? _ _ E45.out.1; simp at this; omega) ?_
              intro A46 c46 p46 hown46 hgrow46
              have hrow : ∀ q, (Value.slice A xs.length c).ownBlock = some q → b + 1 ≤ q := fun q hq => (O45.out.lt q hq).1
              have hnb : some b ≠ (Value.slice A xs.length c).ownBlock := fun e => by have := hrow b e.symm; omega
              have hnr : some w.heap.size ≠ (Value.slice A xs.length c).ownBlock := fun e => by have := hrow _ e.symm; omega
              have S46 := Lib.hid (S45.out.grown hgrow46 (fun q hq => by have := hrow q hq; omega))
              refine hK.out _ _ (by (try dsimp only); exact S46.out) (fun hHeld => ?_)
              clear hK K
              (try simp only [Act.put, List.getElem_toArray, List.getElem_cons_zero, List.getElem_cons_succ, List.setIfInBounds_toArray, List.set_cons_zero, List.set_cons_succ])
              have E46 := Lib.hid (blk4_grown hgrow46 hnb E45.out)
              have O46 := Lib.hid hown46
              have C46 := Lib.hid (C45.out.grown hgrow46 (fun q hq => by have := hrow q hq; omega))
              have R46 := Lib.hid (blk4_grown hgrow46 hnr R45.out)
              clear hown46 hgrow46 hrow hnb hnr
              refine wpAnyH_ready (rs := [11]) (by kernel_rfl) (by simp) ?_
              refine AllReadyH.cons rfl (fun K hK => ?_) (AllReadyH.nil)
              go_simp
              refine hK.out _ _ (by (try dsimp only); exact hHeld) (fun hHeld => ?_)
              clear hK K
              (try simp only [Act.put, List.getElem_toArray, List.getElem_cons_zero, List.getElem_cons_succ, List.setIfInBounds_toArray, List.set_cons_zero, List.set_cons_succ])
              refine wpAnyH_ready (rs := [12]) (by kernel_rfl) (by simp) ?_
              refine AllReadyH.cons rfl (fun K hK => ?_) (AllReadyH.nil)
              obtain ⟨q0, f0, q1, f1, q2, f2, q3, f3⟩ := E46.out
              go_simp
              have SF := Lib.hid (S46.out.setNew (p := ⟨b, 3, none⟩) (by simp; omega) (.slice A46 (xs.length + 1) c46))
              have hl : (xs ++ [(v4, v7)]).length = xs.length + 1 := by simp
              have FG := Lib.hid (show GS w (p46.setCell ⟨b, 3, none⟩ (.slice A46 (xs.length + 1) c46)) g b ((K0 + 2) + 2) (9) from ⟨⟨i, z, nm, A46, c46, xs ++ [(v4, v7)], hnm, by omega, by rw [hl]; simp [go_sem, *], by rw [hl, List.flatMap_append]; exact ownsRow_setCell_below O46.out (by simp) _⟩, C46.out.set (by simp; omega) _, SF.out, blk4_set _ (by simp; omega) _ R46.out⟩)
              refine hK.out _ _ (by (try dsimp only); exact SF.out) (fun hHeld => ?_)
              clear hK K
              (try simp only [Act.put, List.getElem_toArray, List.getElem_cons_zero, List.getElem_cons_succ, List.setIfInBounds_toArray, List.set_cons_zero, List.set_cons_succ])
              clear q0 f0 q1 f1 q2 f2 q3 f3
              refine wpAnyH_done (by kernel_rfl) ?_ _
              go_upto_region 23 with fail
              obtain ⟨⟨i, z, nm, A, c, xs, hnm, hxl, ⟨q0, f0, q1, f1, q2, f2, q3, f3⟩, ho⟩, hcu, hsu, ⟨y0, l0, y1, l1, y2, l2, y3, l3⟩⟩ := FG.out
              have OU := Lib.hid ho
              have CU := Lib.hid hcu
              have SU := Lib.hid hsu
              clear ho hcu hsu
              go_wp2_with fail
              exact bodyPost_ret (v := .agg #[.int .i64 i, .string nm, .int .i64 z, .slice A xs.length c]) (by simp [results, Try.results66, go_sem, *]) rfl ⟨i, z, nm, _, xs, rfl, hnm, by omega, own_base (ownsRow_setCell_below (ownsRow_setCell_below (ownsRow_setCell_below (ownsRow_setCell_below OU.out (by first | (simp; done) | (simp; omega)) _) (by first | (simp; done) | (simp; omega)) _) (by first | (simp; done) | (simp; omega)) _) (by first | (simp; done) | (simp; omega)) _) (by omega), ((((CU.out.set (by first | (simp; done) | (simp; omega)) _).set (by first | (simp; done) | (simp; omega)) _).set (by first | (simp; done) | (simp; omega)) _).set (by first | (simp; done) | (simp; omega)) _).mono (by omega), (((SU.out.setNew (by first | (simp; done) | (simp; omega)) _).setNew (by first | (simp; done) | (simp; omega)) _).setNew (by first | (simp; done) | (simp; omega)) _).setNew (by first | (simp; done) | (simp; omega)) _⟩
            · skip
              go_simp
              have ka : Kept p41 (p41.alloc (.cells #[.int .i64 0, .int .i64 (-501), .int .i64 2001] 3)) := Kept.alloc (Kept.refl _) _
              refine hK.out _ _ (by (try dsimp only); exact S41.out.alloc _) (fun hHeld => ?_)
              clear hK K
              (try simp only [Act.put, List.getElem_toArray, List.getElem_cons_zero, List.getElem_cons_succ, List.setIfInBounds_toArray, List.set_cons_zero, List.set_cons_succ])
              have E49 := Lib.hid (blk4 ka E41.out)
              have O49 := Lib.hid (own_kept O41.out ka)
              have C49 := Lib.hid (C41.out.kept ka)
              have S49 := Lib.hid (S41.out.alloc (.cells #[.int .i64 0, .int .i64 (-501), .int .i64 2001] 3))
              have R49 := Lib.hid (blk4 ka R41.out)
              have NI3_49 := Lib.hid (NI3_41.out.kept ka)
              have NI6_49 := Lib.hid (NumsIn.lit (w := p41) (xs := [0, -501, 2001]) (t := 3) (n := p41.heap.size) (cs := #[.int .i64 0, .int .i64 (-501), .int .i64 2001]) (by rfl) rfl)
              have hg49 : p41.heap.size ≠ g := fun e => by have := S41.out.size; omega
              clear ka
              generalize p41.alloc (.cells #[.int .i64 0, .int .i64 (-501), .int .i64 2001] 3) = p49 at *
              refine wpAnyH_ready (rs := [1, 7]) (by kernel_rfl) (by simp) ?_
              refine AllReadyH.cons rfl (fun K hK => ?_) (AllReadyH.cons rfl (fun K hK => ?_) (AllReadyH.nil))
              · skip
                have s3 := E49.out.2.2.2.2.2.2.1
                go_simp
                refine hK.out _ _ (by (try dsimp only); exact S49.out) (fun hHeld => ?_)
                clear hK K
                (try simp only [Act.put, List.getElem_toArray, List.getElem_cons_zero, List.getElem_cons_succ, List.setIfInBounds_toArray, List.set_cons_zero, List.set_cons_succ])
                clear s3
                refine wpAnyH_ready (rs := [7]) (by kernel_rfl) (by simp) ?_
                refine AllReadyH.cons rfl (fun K hK => ?_) (AllReadyH.nil)
                go_simp
                go_at_call 67
                refine (among_any g _ 3 (K0 + 2) [0, -501, 2001] _ C49.out (by omega) NI6_49.out hg49 (by decide) (by decide)).mono ?_
                rintro e p51 ⟨v7, rfl, -, hc51, hs51⟩
                (try go_wp2_with fail)
                refine hK.out _ _ (by (try dsimp only); exact S49.out.trans hs51) (fun hHeld => ?_)
                clear hK K
                (try simp only [Act.put, List.getElem_toArray, List.getElem_cons_zero, List.getElem_cons_succ, List.setIfInBounds_toArray, List.set_cons_zero, List.set_cons_succ])
                have E51 := Lib.hid (blk4_stir hs51 (by omega) E49.out)
                have O51 := Lib.hid (hs51.own O49.out (by omega))
                have C51 := Lib.hid hc51
                have S51 := Lib.hid (S49.out.trans hs51)
                have R51 := Lib.hid (blk4_stir hs51 (by omega) R49.out)
                have NI3_51 := Lib.hid (NI3_49.out.stir hs51 hg25)
                have NI6_51 := Lib.hid (NI6_49.out.stir hs51 hg49)
                clear hc51 hs51
                refine wpAnyH_take (i := 8) (v := ?_) rfl (by kernel_rfl) (by kernel_rfl) (by kernel_rfl) (fun _ _ _ h => h) (Or.inl ⟨by kernel_rfl, ?_⟩) (by assumption) ?_
                rotate_left
                focus (intro w' hSw; (try dsimp only at hSw); go_simp; (try with_reducible rfl))
                (try simp only [Act.put, List.getElem_toArray, List.getElem_cons_zero, List.getElem_cons_succ, List.setIfInBounds_toArray, List.set_cons_zero, List.set_cons_succ])
                refine wpAnyH_ready (rs := [9]) (by kernel_rfl) (by simp) ?_
                refine AllReadyH.cons rfl (fun K hK => ?_) (AllReadyH.nil)
                go_simp
                have ka : Kept p51 (p51.alloc (.cells #[.int .i64 v4, .int .i64 v7] 28)) := Kept.alloc (Kept.refl _) _
                refine hK.out _ _ (by (try dsimp only); exact S51.out.alloc _) (fun hHeld => ?_)
                clear hK K
                (try simp only [Act.put, List.getElem_toArray, List.getElem_cons_zero, List.getElem_cons_succ, List.setIfInBounds_toArray, List.set_cons_zero, List.set_cons_succ])
                have E52 := Lib.hid (blk4 ka E51.out)
                have O52 := Lib.hid (own_kept O51.out ka)
                have C52 := Lib.hid (C51.out.kept ka)
                have S52 := Lib.hid (S51.out.alloc (.cells #[.int .i64 v4, .int .i64 v7] 28))
                have R52 := Lib.hid (blk4 ka R51.out)
                have NI3_52 := Lib.hid (NI3_51.out.kept ka)
                have NI6_52 := Lib.hid (NI6_51.out.kept ka)
                have B52 := Lib.hid (heap_alloc_new p51 (.cells #[.int .i64 v4, .int .i64 v7] 28))
                clear ka
                generalize p51.alloc (.cells #[.int .i64 v4, .int .i64 v7] 28) = p52 at *
                refine wpAnyH_ready (rs := [10]) (by kernel_rfl) (by simp) ?_
                refine AllReadyH.cons rfl (fun K hK => ?_) (AllReadyH.nil)
                refine step_append_own1 _ (by rfl) _ _ _ (by rfl) (b + 1) 28 i0 _ 16 Try.underlying24 hi0 hz0 hz1 hz2 rfl _ xs.length _ (by rfl) O52.out _ (v4, v7) (by rfl) B52.out (by unfold maxLen; omega) (by omega) (by have := World.block_lt_of_cell? _ _ E52.out.1; simp at this; omega) ?_
                intro A53 c53 p53 hown53 hgrow53
                have hrow : ∀ q, (Value.slice A xs.length c).ownBlock = some q → b + 1 ≤ q := fun q hq => (O52.out.lt q hq).1
                have hnb : some b ≠ (Value.slice A xs.length c).ownBlock := fun e => by have := hrow b e.symm; omega
                have hnr : some w.heap.size ≠ (Value.slice A xs.length c).ownBlock := fun e => by have := hrow _ e.symm; omega
                have S53 := Lib.hid (S52.out.grown hgrow53 (fun q hq => by have := hrow q hq; omega))
                refine hK.out _ _ (by (try dsimp only); exact S53.out) (fun hHeld => ?_)
                clear hK K
                (try simp only [Act.put, List.getElem_toArray, List.getElem_cons_zero, List.getElem_cons_succ, List.setIfInBounds_toArray, List.set_cons_zero, List.set_cons_succ])
                have E53 := Lib.hid (blk4_grown hgrow53 hnb E52.out)
                have O53 := Lib.hid hown53
                have C53 := Lib.hid (C52.out.grown hgrow53 (fun q hq => by have := hrow q hq; omega))
                have R53 := Lib.hid (blk4_grown hgrow53 hnr R52.out)
                clear hown53 hgrow53 hrow hnb hnr
                refine wpAnyH_ready (rs := [11]) (by kernel_rfl) (by simp) ?_
                refine AllReadyH.cons rfl (fun K hK => ?_) (AllReadyH.nil)
                go_simp
                refine hK.out _ _ (by (try dsimp only); exact hHeld) (fun hHeld => ?_)
                clear hK K
                (try simp only [Act.put, List.getElem_toArray, List.getElem_cons_zero, List.getElem_cons_succ, List.setIfInBounds_toArray, List.set_cons_zero, List.set_cons_succ])
                refine wpAnyH_ready (rs := [12]) (by kernel_rfl) (by simp) ?_
                refine AllReadyH.cons rfl (fun K hK => ?_) (AllReadyH.nil)
                obtain ⟨q0, f0, q1, f1, q2, f2, q3, f3⟩ := E53.out
                go_simp
                have SF := Lib.hid (S53.out.setNew (p := ⟨b, 3, none⟩) (by simp; omega) (.slice A53 (xs.length + 1) c53))
                have hl : (xs ++ [(v4, v7)]).length = xs.length + 1 := by simp
                have FG := Lib.hid (show GS w (p53.setCell ⟨b, 3, none⟩ (.slice A53 (xs.length + 1) c53)) g b ((K0 + 2) + 2) (9) from ⟨⟨i, z, nm, A53, c53, xs ++ [(v4, v7)], hnm, by omega, by rw [hl]; simp [go_sem, *], by rw [hl, List.flatMap_append]; exact ownsRow_setCell_below O53.out (by simp) _⟩, C53.out.set (by simp; omega) _, SF.out, blk4_set _ (by simp; omega) _ R53.out⟩)
                refine hK.out _ _ (by (try dsimp only); exact SF.out) (fun hHeld => ?_)
                clear hK K
                (try simp only [Act.put, List.getElem_toArray, List.getElem_cons_zero, List.getElem_cons_succ, List.setIfInBounds_toArray, List.set_cons_zero, List.set_cons_succ])
                clear q0 f0 q1 f1 q2 f2 q3 f3
                refine wpAnyH_done (by kernel_rfl) ?_ _
                go_upto_region 23 with fail
                obtain ⟨⟨i, z, nm, A, c, xs, hnm, hxl, ⟨q0, f0, q1, f1, q2, f2, q3, f3⟩, ho⟩, hcu, hsu, ⟨y0, l0, y1, l1, y2, l2, y3, l3⟩⟩ := FG.out
                have OU := Lib.hid ho
                have CU := Lib.hid hcu
                have SU := Lib.hid hsu
                clear ho hcu hsu
                go_wp2_with fail
                exact bodyPost_ret (v := .agg #[.int .i64 i, .string nm, .int .i64 z, .slice A xs.length c]) (by simp [results, Try.results66, go_sem, *]) rfl ⟨i, z, nm, _, xs, rfl, hnm, by omega, own_base (ownsRow_setCell_below (ownsRow_setCell_below (ownsRow_setCell_below (ownsRow_setCell_below OU.out (by first | (simp; done) | (simp; omega)) _) (by first | (simp; done) | (simp; omega)) _) (by first | (simp; done) | (simp; omega)) _) (by first | (simp; done) | (simp; omega)) _) (by omega), ((((CU.out.set (by first | (simp; done) | (simp; omega)) _).set (by first | (simp; done) | (simp; omega)) _).set (by first | (simp; done) | (simp; omega)) _).set (by first | (simp; done) | (simp; omega)) _).mono (by omega), (((SU.out.setNew (by first | (simp; done) | (simp; omega)) _).setNew (by first | (simp; done) | (simp; omega)) _).setNew (by first | (simp; done) | (simp; omega)) _).setNew (by first | (simp; done) | (simp; omega)) _⟩
              · skip
                go_simp
                go_at_call 67
                refine (among_any g _ 3 (K0 + 2) [0, -501, 2001] _ C49.out (by omega) NI6_49.out hg49 (by decide) (by decide)).mono ?_
                rintro e p56 ⟨v7, rfl, -, hc56, hs56⟩
                (try go_wp2_with fail)
                refine hK.out _ _ (by (try dsimp only); exact S49.out.trans hs56) (fun hHeld => ?_)
                clear hK K
                (try simp only [Act.put, List.getElem_toArray, List.getElem_cons_zero, List.getElem_cons_succ, List.setIfInBounds_toArray, List.set_cons_zero, List.set_cons_succ])
                have E56 := Lib.hid (blk4_stir hs56 (by omega) E49.out)
                have O56 := Lib.hid (hs56.own O49.out (by omega))
                have C56 := Lib.hid hc56
                have S56 := Lib.hid (S49.out.trans hs56)
                have R56 := Lib.hid (blk4_stir hs56 (by omega) R49.out)
                have NI3_56 := Lib.hid (NI3_49.out.stir hs56 hg25)
                have NI6_56 := Lib.hid (NI6_49.out.stir hs56 hg49)
                clear hc56 hs56
                refine wpAnyH_take (i := 8) (v := ?_) rfl (by kernel_rfl) (by kernel_rfl) (by kernel_rfl) (fun _ _ _ h => h) (Or.inl ⟨by kernel_rfl, ?_⟩) (by assumption) ?_
                rotate_left
                focus (intro w' hSw; (try dsimp only at hSw); go_simp; (try with_reducible rfl))
                (try simp only [Act.put, List.getElem_toArray, List.getElem_cons_zero, List.getElem_cons_succ, List.setIfInBounds_toArray, List.set_cons_zero, List.set_cons_succ])
                refine wpAnyH_ready (rs := [1, 9]) (by kernel_rfl) (by simp) ?_
                refine AllReadyH.cons rfl (fun K hK => ?_) (AllReadyH.cons rfl (fun K hK => ?_) (AllReadyH.nil))
                · skip
                  have s3 := E56.out.2.2.2.2.2.2.1
                  go_simp
                  refine hK.out _ _ (by (try dsimp only); exact S56.out) (fun hHeld => ?_)
                  clear hK K
                  (try simp only [Act.put, List.getElem_toArray, List.getElem_cons_zero, List.getElem_cons_succ, List.setIfInBounds_toArray, List.set_cons_zero, List.set_cons_succ])
                  clear s3
                  refine wpAnyH_ready (rs := [9]) (by kernel_rfl) (by simp) ?_
                  refine AllReadyH.cons rfl (fun K hK => ?_) (AllReadyH.nil)
                  go_simp
                  have ka : Kept p56 (p56.alloc (.cells #[.int .i64 v4, .int .i64 v7] 28)) := Kept.alloc (Kept.refl _) _
                  refine hK.out _ _ (by (try dsimp only); exact S56.out.alloc _) (fun hHeld => ?_)
                  clear hK K
                  (try simp only [Act.put, List.getElem_toArray, List.getElem_cons_zero, List.getElem_cons_succ, List.setIfInBounds_toArray, List.set_cons_zero, List.set_cons_succ])
                  have E58 := Lib.hid (blk4 ka E56.out)
                  have O58 := Lib.hid (own_kept O56.out ka)
                  have C58 := Lib.hid (C56.out.kept ka)
                  have S58 := Lib.hid (S56.out.alloc (.cells #[.int .i64 v4, .int .i64 v7] 28))
                  have R58 := Lib.hid (blk4 ka R56.out)
                  have NI3_58 := Lib.hid (NI3_56.out.kept ka)
                  have NI6_58 := Lib.hid (NI6_56.out.kept ka)
                  have B58 := Lib.hid (heap_alloc_new p56 (.cells #[.int .i64 v4, .int .i64 v7] 28))
                  clear ka
                  generalize p56.alloc (.cells #[.int .i64 v4, .int .i64 v7] 28) = p58 at *
                  refine wpAnyH_ready (rs := [10]) (by kernel_rfl) (by simp) ?_
                  refine AllReadyH.cons rfl (fun K hK => ?_) (AllReadyH.nil)
                  refine step_append_own1 _ (by rfl) _ _ _ (by rfl) (b + 1) 28 i0 _ 16 Try.underlying24 hi0 hz0 hz1 hz2 rfl _ xs.length _ (by rfl) O58.out _ (v4, v7) (by rfl) B58.out (by unfold maxLen; omega) (by omega) (by have := World.block_lt_of_cell? _ _ E58.out.1; simp at this; omega) ?_
                  intro A59 c59 p59 hown59 hgrow59
                  have hrow : ∀ q, (Value.slice A xs.length c).ownBlock = some q → b + 1 ≤ q := fun q hq => (O58.out.lt q hq).1
                  have hnb : some b ≠ (Value.slice A xs.length c).ownBlock := fun e => by have := hrow b e.symm; omega
                  have hnr : some w.heap.size ≠ (Value.slice A xs.length c).ownBlock := fun e => by have := hrow _ e.symm; omega
                  have S59 := Lib.hid (S58.out.grown hgrow59 (fun q hq => by have := hrow q hq; omega))
                  refine hK.out _ _ (by (try dsimp only); exact S59.out) (fun hHeld => ?_)
                  clear hK K
                  (try simp only [Act.put, List.getElem_toArray, List.getElem_cons_zero, List.getElem_cons_succ, List.setIfInBounds_toArray, List.set_cons_zero, List.set_cons_succ])
                  have E59 := Lib.hid (blk4_grown hgrow59 hnb E58.out)
                  have O59 := Lib.hid hown59
                  have C59 := Lib.hid (C58.out.grown hgrow59 (fun q hq => by have := hrow q hq; omega))
                  have R59 := Lib.hid (blk4_grown hgrow59 hnr R58.out)
                  clear hown59 hgrow59 hrow hnb hnr
                  refine wpAnyH_ready (rs := [11]) (by kernel_rfl) (by simp) ?_
                  refine AllReadyH.cons rfl (fun K hK => ?_) (AllReadyH.nil)
                  go_simp
                  refine hK.out _ _ (by (try dsimp only); exact hHeld) (fun hHeld => ?_)
                  clear hK K
                  (try simp only [Act.put, List.getElem_toArray, List.getElem_cons_zero, List.getElem_cons_succ, List.setIfInBounds_toArray, List.set_cons_zero, List.set_cons_succ])
                  refine wpAnyH_ready (rs := [12]) (by kernel_rfl) (by simp) ?_
                  refine AllReadyH.cons rfl (fun K hK => ?_) (AllReadyH.nil)
                  obtain ⟨q0, f0, q1, f1, q2, f2, q3, f3⟩ := E59.out
                  go_simp
                  have SF := Lib.hid (S59.out.setNew (p := ⟨b, 3, none⟩) (by simp; omega) (.slice A59 (xs.length + 1) c59))
                  have hl : (xs ++ [(v4, v7)]).length = xs.length + 1 := by simp
                  have FG := Lib.hid (show GS w (p59.setCell ⟨b, 3, none⟩ (.slice A59 (xs.length + 1) c59)) g b ((K0 + 2) + 2) (9) from ⟨⟨i, z, nm, A59, c59, xs ++ [(v4, v7)], hnm, by omega, by rw [hl]; simp [go_sem, *], by rw [hl, List.flatMap_append]; exact ownsRow_setCell_below O59.out (by simp) _⟩, C59.out.set (by simp; omega) _, SF.out, blk4_set _ (by simp; omega) _ R59.out⟩)
                  refine hK.out _ _ (by (try dsimp only); exact SF.out) (fun hHeld => ?_)
                  clear hK K
                  (try simp only [Act.put, List.getElem_toArray, List.getElem_cons_zero, List.getElem_cons_succ, List.setIfInBounds_toArray, List.set_cons_zero, List.set_cons_succ])
                  clear q0 f0 q1 f1 q2 f2 q3 f3
                  refine wpAnyH_done (by kernel_rfl) ?_ _
                  go_upto_region 23 with fail
                  obtain ⟨⟨i, z, nm, A, c, xs, hnm, hxl, ⟨q0, f0, q1, f1, q2, f2, q3, f3⟩, ho⟩, hcu, hsu, ⟨y0, l0, y1, l1, y2, l2, y3, l3⟩⟩ := FG.out
                  have OU := Lib.hid ho
                  have CU := Lib.hid hcu
                  have SU := Lib.hid hsu
                  clear ho hcu hsu
                  go_wp2_with fail
                  exact bodyPost_ret (v := .agg #[.int .i64 i, .string nm, .int .i64 z, .slice A xs.length c]) (by simp [results, Try.results66, go_sem, *]) rfl ⟨i, z, nm, _, xs, rfl, hnm, by omega, own_base (ownsRow_setCell_below (ownsRow_setCell_below (ownsRow_setCell_below (ownsRow_setCell_below OU.out (by first | (simp; done) | (simp; omega)) _) (by first | (simp; done) | (simp; omega)) _) (by first | (simp; done) | (simp; omega)) _) (by first | (simp; done) | (simp; omega)) _) (by omega), ((((CU.out.set (by first | (simp; done) | (simp; omega)) _).set (by first | (simp; done) | (simp; omega)) _).set (by first | (simp; done) | (simp; omega)) _).set (by first | (simp; done) | (simp; omega)) _).mono (by omega), (((SU.out.setNew (by first | (simp; done) | (simp; omega)) _).setNew (by first | (simp; done) | (simp; omega)) _).setNew (by first | (simp; done) | (simp; omega)) _).setNew (by first | (simp; done) | (simp; omega)) _⟩
                · skip
                  go_simp
                  have ka : Kept p56 (p56.alloc (.cells #[.int .i64 v4, .int .i64 v7] 28)) := Kept.alloc (Kept.refl _) _
                  refine hK.out _ _ (by (try dsimp only); exact S56.out.alloc _) (fun hHeld => ?_)
                  clear hK K
                  (try simp only [Act.put, List.getElem_toArray, List.getElem_cons_zero, List.getElem_cons_succ, List.setIfInBounds_toArray, List.set_cons_zero, List.set_cons_succ])
                  have E62 := Lib.hid (blk4 ka E56.out)
                  have O62 := Lib.hid (own_kept O56.out ka)
                  have C62 := Lib.hid (C56.out.kept ka)
                  have S62 := Lib.hid (S56.out.alloc (.cells #[.int .i64 v4, .int .i64 v7] 28))
                  have R62 := Lib.hid (blk4 ka R56.out)
                  have NI3_62 := Lib.hid (NI3_56.out.kept ka)
                  have NI6_62 := Lib.hid (NI6_56.out.kept ka)
                  have B62 := Lib.hid (heap_alloc_new p56 (.cells #[.int .i64 v4, .int .i64 v7] 28))
                  clear ka
                  generalize p56.alloc (.cells #[.int .i64 v4, .int .i64 v7] 28) = p62 at *
                  refine wpAnyH_ready (rs := [1]) (by kernel_rfl) (by simp) ?_
                  refine AllReadyH.cons rfl (fun K hK => ?_) (AllReadyH.nil)
                  have s3 := E62.out.2.2.2.2.2.2.1
                  go_simp
                  refine hK.out _ _ (by (try dsimp only); exact S62.out) (fun hHeld => ?_)
                  clear hK K
                  (try simp only [Act.put, List.getElem_toArray, List.getElem_cons_zero, List.getElem_cons_succ, List.setIfInBounds_toArray, List.set_cons_zero, List.set_cons_succ])
                  clear s3
                  refine wpAnyH_ready (rs := [10]) (by kernel_rfl) (by simp) ?_
                  refine AllReadyH.cons rfl (fun K hK => ?_) (AllReadyH.nil)
                  refine step_append_own1 _ (by rfl) _ _ _ (by rfl) (b + 1) 28 i0 _ 16 Try.underlying24 hi0 hz0 hz1 hz2 rfl _ xs.length _ (by rfl) O62.out _ (v4, v7) (by rfl) B62.out (by unfold maxLen; omega) (by omega) (by have := World.block_lt_of_cell? _ _ E62.out.1; simp at this; omega) ?_
                  intro A64 c64 p64 hown64 hgrow64
                  have hrow : ∀ q, (Value.slice A xs.length c).ownBlock = some q → b + 1 ≤ q := fun q hq => (O62.out.lt q hq).1
                  have hnb : some b ≠ (Value.slice A xs.length c).ownBlock := fun e => by have := hrow b e.symm; omega
                  have hnr : some w.heap.size ≠ (Value.slice A xs.length c).ownBlock := fun e => by have := hrow _ e.symm; omega
                  have S64 := Lib.hid (S62.out.grown hgrow64 (fun q hq => by have := hrow q hq; omega))
                  refine hK.out _ _ (by (try dsimp only); exact S64.out) (fun hHeld => ?_)
                  clear hK K
                  (try simp only [Act.put, List.getElem_toArray, List.getElem_cons_zero, List.getElem_cons_succ, List.setIfInBounds_toArray, List.set_cons_zero, List.set_cons_succ])
                  have E64 := Lib.hid (blk4_grown hgrow64 hnb E62.out)
                  have O64 := Lib.hid hown64
                  have C64 := Lib.hid (C62.out.grown hgrow64 (fun q hq => by have := hrow q hq; omega))
                  have R64 := Lib.hid (blk4_grown hgrow64 hnr R62.out)
                  clear hown64 hgrow64 hrow hnb hnr
                  refine wpAnyH_ready (rs := [11]) (by kernel_rfl) (by simp) ?_
                  refine AllReadyH.cons rfl (fun K hK => ?_) (AllReadyH.nil)
                  go_simp
                  refine hK.out _ _ (by (try dsimp only); exact hHeld) (fun hHeld => ?_)
                  clear hK K
                  (try simp only [Act.put, List.getElem_toArray, List.getElem_cons_zero, List.getElem_cons_succ, List.setIfInBounds_toArray, List.set_cons_zero, List.set_cons_succ])
                  refine wpAnyH_ready (rs := [12]) (by kernel_rfl) (by simp) ?_
                  refine AllReadyH.cons rfl (fun K hK => ?_) (AllReadyH.nil)
                  obtain ⟨q0, f0, q1, f1, q2, f2, q3, f3⟩ := E64.out
                  go_simp
                  have SF := Lib.hid (S64.out.setNew (p := ⟨b, 3, none⟩) (by simp; omega) (.slice A64 (xs.length + 1) c64))
                  have hl : (xs ++ [(v4, v7)]).length = xs.length + 1 := by simp
                  have FG := Lib.hid (show GS w (p64.setCell ⟨b, 3, none⟩ (.slice A64 (xs.length + 1) c64)) g b ((K0 + 2) + 2) (9) from ⟨⟨i, z, nm, A64, c64, xs ++ [(v4, v7)], hnm, by omega, by rw [hl]; simp [go_sem, *], by rw [hl, List.flatMap_append]; exact ownsRow_setCell_below O64.out (by simp) _⟩, C64.out.set (by simp; omega) _, SF.out, blk4_set _ (by simp; omega) _ R64.out⟩)
                  refine hK.out _ _ (by (try dsimp only); exact SF.out) (fun hHeld => ?_)
                  clear hK K
                  (try simp only [Act.put, List.getElem_toArray, List.getElem_cons_zero, List.getElem_cons_succ, List.setIfInBounds_toArray, List.set_cons_zero, List.set_cons_succ])
                  clear q0 f0 q1 f1 q2 f2 q3 f3
                  refine wpAnyH_done (by kernel_rfl) ?_ _
                  go_upto_region 23 with fail
                  obtain ⟨⟨i, z, nm, A, c, xs, hnm, hxl, ⟨q0, f0, q1, f1, q2, f2, q3, f3⟩, ho⟩, hcu, hsu, ⟨y0, l0, y1, l1, y2, l2, y3, l3⟩⟩ := FG.out
                  have OU := Lib.hid ho
                  have CU := Lib.hid hcu
                  have SU := Lib.hid hsu
                  clear ho hcu hsu
                  go_wp2_with fail
                  exact bodyPost_ret (v := .agg #[.int .i64 i, .string nm, .int .i64 z, .slice A xs.length c]) (by simp [results, Try.results66, go_sem, *]) rfl ⟨i, z, nm, _, xs, rfl, hnm, by omega, own_base (ownsRow_setCell_below (ownsRow_setCell_below (ownsRow_setCell_below (ownsRow_setCell_below OU.out (by first | (simp; done) | (simp; omega)) _) (by first | (simp; done) | (simp; omega)) _) (by first | (simp; done) | (simp; omega)) _) (by first | (simp; done) | (simp; omega)) _) (by omega), ((((CU.out.set (by first | (simp; done) | (simp; omega)) _).set (by first | (simp; done) | (simp; omega)) _).set (by first | (simp; done) | (simp; omega)) _).set (by first | (simp; done) | (simp; omega)) _).mono (by omega), (((SU.out.setNew (by first | (simp; done) | (simp; omega)) _).setNew (by first | (simp; done) | (simp; omega)) _).setNew (by first | (simp; done) | (simp; omega)) _).setNew (by first | (simp; done) | (simp; omega)) _⟩
          · skip
            go_simp
            have ka : Kept p25 (p25.alloc (.cells #[.int .i64 0, .int .i64 (-501), .int .i64 2001] 3)) := Kept.alloc (Kept.refl _) _
            refine hK.out _ _ (by (try dsimp only); exact S25.out.alloc _) (fun hHeld => ?_)
            clear hK K
            (try simp only [Act.put, List.getElem_toArray, List.getElem_cons_zero, List.getElem_cons_succ, List.setIfInBounds_toArray, List.set_cons_zero, List.set_cons_succ])
            have E67 := Lib.hid (blk4 ka E25.out)
            have O67 := Lib.hid (own_kept O25.out ka)
            have C67 := Lib.hid (C25.out.kept ka)
            have S67 := Lib.hid (S25.out.alloc (.cells #[.int .i64 0, .int .i64 (-501), .int .i64 2001] 3))
            have R67 := Lib.hid (blk4 ka R25.out)
            have NI3_67 := Lib.hid (NI3_25.out.kept ka)
            have NI6_67 := Lib.hid (NumsIn.lit (w := p25) (xs := [0, -501, 2001]) (t := 3) (n := p25.heap.size) (cs := #[.int .i64 0, .int .i64 (-501), .int .i64 2001]) (by rfl) rfl)
            have hg67 : p25.heap.size ≠ g := fun e => by have := S25.out.size; omega
            clear ka
            generalize p25.alloc (.cells #[.int .i64 0, .int .i64 (-501), .int .i64 2001] 3) = p67 at *
            refine wpAnyH_ready (rs := [1, 4]) (by kernel_rfl) (by simp) ?_
            refine AllReadyH.cons rfl (fun K hK => ?_) (AllReadyH.cons rfl (fun K hK => ?_) (AllReadyH.nil))
            · skip
              have s3 := E67.out.2.2.2.2.2.2.1
              go_simp
              refine hK.out _ _ (by (try dsimp only); exact S67.out) (fun hHeld => ?_)
              clear hK K
              (try simp only [Act.put, List.getElem_toArray, List.getElem_cons_zero, List.getElem_cons_succ, List.setIfInBounds_toArray, List.set_cons_zero, List.set_cons_succ])
              clear s3
              refine wpAnyH_ready (rs := [4]) (by kernel_rfl) (by simp) ?_
              refine AllReadyH.cons rfl (fun K hK => ?_) (AllReadyH.nil)
              go_simp
              go_at_call 67
              refine (among_any g _ 3 K0 [-1, 10, 10001] _ C67.out (by omega) NI3_67.out hg25 (by decide) (by decide)).mono ?_
              rintro e p69 ⟨v4, rfl, -, hc69, hs69⟩
              (try go_wp2_with fail)
              refine hK.out _ _ (by (try dsimp only); exact S67.out.trans hs69) (fun hHeld => ?_)
              clear hK K
              (try simp only [Act.put, List.getElem_toArray, List.getElem_cons_zero, List.getElem_cons_succ, List.setIfInBounds_toArray, List.set_cons_zero, List.set_cons_succ])
              have E69 := Lib.hid (blk4_stir hs69 (by omega) E67.out)
              have O69 := Lib.hid (hs69.own O67.out (by omega))
              have C69 := Lib.hid hc69
              have S69 := Lib.hid (S67.out.trans hs69)
              have R69 := Lib.hid (blk4_stir hs69 (by omega) R67.out)
              have NI3_69 := Lib.hid (NI3_67.out.stir hs69 hg25)
              have NI6_69 := Lib.hid (NI6_67.out.stir hs69 hg67)
              clear hc69 hs69
              refine wpAnyH_ready (rs := [7]) (by kernel_rfl) (by simp) ?_
              refine AllReadyH.cons rfl (fun K hK => ?_) (AllReadyH.nil)
              go_simp
              go_at_call 67
              refine (among_any g _ 3 (K0 + 2) [0, -501, 2001] _ C69.out (by omega) NI6_69.out hg67 (by decide) (by decide)).mono ?_
              rintro e p70 ⟨v7, rfl, -, hc70, hs70⟩
              (try go_wp2_with fail)
              refine hK.out _ _ (by (try dsimp only); exact S69.out.trans hs70) (fun hHeld => ?_)
              clear hK K
              (try simp only [Act.put, List.getElem_toArray, List.getElem_cons_zero, List.getElem_cons_succ, List.setIfInBounds_toArray, List.set_cons_zero, List.set_cons_succ])
              have E70 := Lib.hid (blk4_stir hs70 (by omega) E69.out)
              have O70 := Lib.hid (hs70.own O69.out (by omega))
              have C70 := Lib.hid hc70
              have S70 := Lib.hid (S69.out.trans hs70)
              have R70 := Lib.hid (blk4_stir hs70 (by omega) R69.out)
              have NI3_70 := Lib.hid (NI3_69.out.stir hs70 hg25)
              have NI6_70 := Lib.hid (NI6_69.out.stir hs70 hg67)
              clear hc70 hs70
              refine wpAnyH_take (i := 8) (v := ?_) rfl (by kernel_rfl) (by kernel_rfl) (by kernel_rfl) (fun _ _ _ h => h) (Or.inl ⟨by kernel_rfl, ?_⟩) (by assumption) ?_
              rotate_left
              focus (intro w' hSw; (try dsimp only at hSw); go_simp; (try with_reducible rfl))
              (try simp only [Act.put, List.getElem_toArray, List.getElem_cons_zero, List.getElem_cons_succ, List.setIfInBounds_toArray, List.set_cons_zero, List.set_cons_succ])
              refine wpAnyH_ready (rs := [9]) (by kernel_rfl) (by simp) ?_
              refine AllReadyH.cons rfl (fun K hK => ?_) (AllReadyH.nil)
              go_simp
              have ka : Kept p70 (p70.alloc (.cells #[.int .i64 v4, .int .i64 v7] 28)) := Kept.alloc (Kept.refl _) _
              refine hK.out _ _ (by (try dsimp only); exact S70.out.alloc _) (fun hHeld => ?_)
              clear hK K
              (try simp only [Act.put, List.getElem_toArray, List.getElem_cons_zero, List.getElem_cons_succ, List.setIfInBounds_toArray, List.set_cons_zero, List.set_cons_succ])
              have E71 := Lib.hid (blk4 ka E70.out)
              have O71 := Lib.hid (own_kept O70.out ka)
              have C71 := Lib.hid (C70.out.kept ka)
              have S71 := Lib.hid (S70.out.alloc (.cells #[.int .i64 v4, .int .i64 v7] 28))
              have R71 := Lib.hid (blk4 ka R70.out)
              have NI3_71 := Lib.hid (NI3_70.out.kept ka)
              have NI6_71 := Lib.hid (NI6_70.out.kept ka)
              have B71 := Lib.hid (heap_alloc_new p70 (.cells #[.int .i64 v4, .int .i64 v7] 28))
              clear ka
              generalize p70.alloc (.cells #[.int .i64 v4, .int .i64 v7] 28) = p71 at *
              refine wpAnyH_ready (rs := [10]) (by kernel_rfl) (by simp) ?_
              refine AllReadyH.cons rfl (fun K hK => ?_) (AllReadyH.nil)
              refine step_append_own1 _ (by rfl) _ _ _ (by rfl) (b + 1) 28 i0 _ 16 Try.underlying24 hi0 hz0 hz1 hz2 rfl _ xs.length _ (by rfl) O71.out _ (v4, v7) (by rfl) B71.out (by unfold maxLen; omega) (by omega) (by have := World.block_lt_of_cell? _ _ E71.out.1; simp at this; omega) ?_
              intro A72 c72 p72 hown72 hgrow72
              have hrow : ∀ q, (Value.slice A xs.length c).ownBlock = some q → b + 1 ≤ q := fun q hq => (O71.out.lt q hq).1
              have hnb : some b ≠ (Value.slice A xs.length c).ownBlock := fun e => by have := hrow b e.symm; omega
              have hnr : some w.heap.size ≠ (Value.slice A xs.length c).ownBlock := fun e => by have := hrow _ e.symm; omega
              have S72 := Lib.hid (S71.out.grown hgrow72 (fun q hq => by have := hrow q hq; omega))
              refine hK.out _ _ (by (try dsimp only); exact S72.out) (fun hHeld => ?_)
              clear hK K
              (try simp only [Act.put, List.getElem_toArray, List.getElem_cons_zero, List.getElem_cons_succ, List.setIfInBounds_toArray, List.set_cons_zero, List.set_cons_succ])
              have E72 := Lib.hid (blk4_grown hgrow72 hnb E71.out)
              have O72 := Lib.hid hown72
              have C72 := Lib.hid (C71.out.grown hgrow72 (fun q hq => by have := hrow q hq; omega))
              have R72 := Lib.hid (blk4_grown hgrow72 hnr R71.out)
              clear hown72 hgrow72 hrow hnb hnr
              refine wpAnyH_ready (rs := [11]) (by kernel_rfl) (by simp) ?_
              refine AllReadyH.cons rfl (fun K hK => ?_) (AllReadyH.nil)
              go_simp
              refine hK.out _ _ (by (try dsimp only); exact hHeld) (fun hHeld => ?_)
              clear hK K
              (try simp only [Act.put, List.getElem_toArray, List.getElem_cons_zero, List.getElem_cons_succ, List.setIfInBounds_toArray, List.set_cons_zero, List.set_cons_succ])
              refine wpAnyH_ready (rs := [12]) (by kernel_rfl) (by simp) ?_
              refine AllReadyH.cons rfl (fun K hK => ?_) (AllReadyH.nil)
              obtain ⟨q0, f0, q1, f1, q2, f2, q3, f3⟩ := E72.out
              go_simp
              have SF := Lib.hid (S72.out.setNew (p := ⟨b, 3, none⟩) (by simp; omega) (.slice A72 (xs.length + 1) c72))
              have hl : (xs ++ [(v4, v7)]).length = xs.length + 1 := by simp
              have FG := Lib.hid (show GS w (p72.setCell ⟨b, 3, none⟩ (.slice A72 (xs.length + 1) c72)) g b ((K0 + 2) + 2) (9) from ⟨⟨i, z, nm, A72, c72, xs ++ [(v4, v7)], hnm, by omega, by rw [hl]; simp [go_sem, *], by rw [hl, List.flatMap_append]; exact ownsRow_setCell_below O72.out (by simp) _⟩, C72.out.set (by simp; omega) _, SF.out, blk4_set _ (by simp; omega) _ R72.out⟩)
              refine hK.out _ _ (by (try dsimp only); exact SF.out) (fun hHeld => ?_)
              clear hK K
              (try simp only [Act.put, List.getElem_toArray, List.getElem_cons_zero, List.getElem_cons_succ, List.setIfInBounds_toArray, List.set_cons_zero, List.set_cons_succ])
              clear q0 f0 q1 f1 q2 f2 q3 f3
              refine wpAnyH_done (by kernel_rfl) ?_ _
              go_upto_region 23 with fail
              obtain ⟨⟨i, z, nm, A, c, xs, hnm, hxl, ⟨q0, f0, q1, f1, q2, f2, q3, f3⟩, ho⟩, hcu, hsu, ⟨y0, l0, y1, l1, y2, l2, y3, l3⟩⟩ := FG.out
              have OU := Lib.hid ho
              have CU := Lib.hid hcu
              have SU := Lib.hid hsu
              clear ho hcu hsu
              go_wp2_with fail
              exact bodyPost_ret (v := .agg #[.int .i64 i, .string nm, .int .i64 z, .slice A xs.length c]) (by simp [results, Try.results66, go_sem, *]) rfl ⟨i, z, nm, _, xs, rfl, hnm, by omega, own_base (ownsRow_setCell_below (ownsRow_setCell_below (ownsRow_setCell_below (ownsRow_setCell_below OU.out (by first | (simp; done) | (simp; omega)) _) (by first | (simp; done) | (simp; omega)) _) (by first | (simp; done) | (simp; omega)) _) (by first | (simp; done) | (simp; omega)) _) (by omega), ((((CU.out.set (by first | (simp; done) | (simp; omega)) _).set (by first | (simp; done) | (simp; omega)) _).set (by first | (simp; done) | (simp; omega)) _).set (by first | (simp; done) | (simp; omega)) _).mono (by omega), (((SU.out.setNew (by first | (simp; done) | (simp; omega)) _).setNew (by first | (simp; done) | (simp; omega)) _).setNew (by first | (simp; done) | (simp; omega)) _).setNew (by first | (simp; done) | (simp; omega)) _⟩
            · skip
              go_simp
              go_at_call 67
              refine (among_any g _ 3 K0 [-1, 10, 10001] _ C67.out (by omega) NI3_67.out hg25 (by decide) (by decide)).mono ?_
              rintro e p75 ⟨v4, rfl, -, hc75, hs75⟩
              (try go_wp2_with fail)
              refine hK.out _ _ (by (try dsimp only); exact S67.out.trans hs75) (fun hHeld => ?_)
              clear hK K
              (try simp only [Act.put, List.getElem_toArray, List.getElem_cons_zero, List.getElem_cons_succ, List.setIfInBounds_toArray, List.set_cons_zero, List.set_cons_succ])
              have E75 := Lib.hid (blk4_stir hs75 (by omega) E67.out)
              have O75 := Lib.hid (hs75.own O67.out (by omega))
              have C75 := Lib.hid hc75
              have S75 := Lib.hid (S67.out.trans hs75)
              have R75 := Lib.hid (blk4_stir hs75 (by omega) R67.out)
              have NI3_75 := Lib.hid (NI3_67.out.stir hs75 hg25)
              have NI6_75 := Lib.hid (NI6_67.out.stir hs75 hg67)
              clear hc75 hs75
              refine wpAnyH_ready (rs := [1, 7]) (by kernel_rfl) (by simp) ?_
              refine AllReadyH.cons rfl (fun K hK => ?_) (AllReadyH.cons rfl (fun K hK => ?_) (AllReadyH.nil))
              · skip
                have s3 := E75.out.2.2.2.2.2.2.1
                go_simp
                refine hK.out _ _ (by (try dsimp only); exact S75.out) (fun hHeld => ?_)
                clear hK K
                (try simp only [Act.put, List.getElem_toArray, List.getElem_cons_zero, List.getElem_cons_succ, List.setIfInBounds_toArray, List.set_cons_zero, List.set_cons_succ])
                clear s3
                refine wpAnyH_ready (rs := [7]) (by kernel_rfl) (by simp) ?_
                refine AllReadyH.cons rfl (fun K hK => ?_) (AllReadyH.nil)
                go_simp
                go_at_call 67
                refine (among_any g _ 3 (K0 + 2) [0, -501, 2001] _ C75.out (by omega) NI6_75.out hg67 (by decide) (by decide)).mono ?_
                rintro e p77 ⟨v7, rfl, -, hc77, hs77⟩
                (try go_wp2_with fail)
                refine hK.out _ _ (by (try dsimp only); exact S75.out.trans hs77) (fun hHeld => ?_)
                clear hK K
                (try simp only [Act.put, List.getElem_toArray, List.getElem_cons_zero, List.getElem_cons_succ, List.setIfInBounds_toArray, List.set_cons_zero, List.set_cons_succ])
                have E77 := Lib.hid (blk4_stir hs77 (by omega) E75.out)
                have O77 := Lib.hid (hs77.own O75.out (by omega))
                have C77 := Lib.hid hc77
                have S77 := Lib.hid (S75.out.trans hs77)
                have R77 := Lib.hid (blk4_stir hs77 (by omega) R75.out)
                have NI3_77 := Lib.hid (NI3_75.out.stir hs77 hg25)
                have NI6_77 := Lib.hid (NI6_75.out.stir hs77 hg67)
                clear hc77 hs77
                refine wpAnyH_take (i := 8) (v := ?_) rfl (by kernel_rfl) (by kernel_rfl) (by kernel_rfl) (fun _ _ _ h => h) (Or.inl ⟨by kernel_rfl, ?_⟩) (by assumption) ?_
                rotate_left
                focus (intro w' hSw; (try dsimp only at hSw); go_simp; (try with_reducible rfl))
                (try simp only [Act.put, List.getElem_toArray, List.getElem_cons_zero, List.getElem_cons_succ, List.setIfInBounds_toArray, List.set_cons_zero, List.set_cons_succ])
                refine wpAnyH_ready (rs := [9]) (by kernel_rfl) (by simp) ?_
                refine AllReadyH.cons rfl (fun K hK => ?_) (AllReadyH.nil)
                go_simp
                have ka : Kept p77 (p77.alloc (.cells #[.int .i64 v4, .int .i64 v7] 28)) := Kept.alloc (Kept.refl _) _
                refine hK.out _ _ (by (try dsimp only); exact S77.out.alloc _) (fun hHeld => ?_)
                clear hK K
                (try simp only [Act.put, List.getElem_toArray, List.getElem_cons_zero, List.getElem_cons_succ, List.setIfInBounds_toArray, List.set_cons_zero, List.set_cons_succ])
                have E78 := Lib.hid (blk4 ka E77.out)
                have O78 := Lib.hid (own_kept O77.out ka)
                have C78 := Lib.hid (C77.out.kept ka)
                have S78 := Lib.hid (S77.out.alloc (.cells #[.int .i64 v4, .int .i64 v7] 28))
                have R78 := Lib.hid (blk4 ka R77.out)
                have NI3_78 := Lib.hid (NI3_77.out.kept ka)
                have NI6_78 := Lib.hid (NI6_77.out.kept ka)
                have B78 := Lib.hid (heap_alloc_new p77 (.cells #[.int .i64 v4, .int .i64 v7] 28))
                clear ka
                generalize p77.alloc (.cells #[.int .i64 v4, .int .i64 v7] 28) = p78 at *
                refine wpAnyH_ready (rs := [10]) (by kernel_rfl) (by simp) ?_
                refine AllReadyH.cons rfl (fun K hK => ?_) (AllReadyH.nil)
                refine step_append_own1 _ (by rfl) _ _ _ (by rfl) (b + 1) 28 i0 _ 16 Try.underlying24 hi0 hz0 hz1 hz2 rfl _ xs.length _ (by rfl) O78.out _ (v4, v7) (by rfl) B78.out (by unfold maxLen; omega) (by omega) (by have := World.block_lt_of_cell? _ _ E78.out.1; simp at this; omega) ?_
                intro A79 c79 p79 hown79 hgrow79
                have hrow : ∀ q, (Value.slice A xs.length c).ownBlock = some q → b + 1 ≤ q := fun q hq => (O78.out.lt q hq).1
                have hnb : some b ≠ (Value.slice A xs.length c).ownBlock := fun e => by have := hrow b e.symm; omega
                have hnr : some w.heap.size ≠ (Value.slice A xs.length c).ownBlock := fun e => by have := hrow _ e.symm; omega
                have S79 := Lib.hid (S78.out.grown hgrow79 (fun q hq => by have := hrow q hq; omega))
                refine hK.out _ _ (by (try dsimp only); exact S79.out) (fun hHeld => ?_)
                clear hK K
                (try simp only [Act.put, List.getElem_toArray, List.getElem_cons_zero, List.getElem_cons_succ, List.setIfInBounds_toArray, List.set_cons_zero, List.set_cons_succ])
                have E79 := Lib.hid (blk4_grown hgrow79 hnb E78.out)
                have O79 := Lib.hid hown79
                have C79 := Lib.hid (C78.out.grown hgrow79 (fun q hq => by have := hrow q hq; omega))
                have R79 := Lib.hid (blk4_grown hgrow79 hnr R78.out)
                clear hown79 hgrow79 hrow hnb hnr
                refine wpAnyH_ready (rs := [11]) (by kernel_rfl) (by simp) ?_
                refine AllReadyH.cons rfl (fun K hK => ?_) (AllReadyH.nil)
                go_simp
                refine hK.out _ _ (by (try dsimp only); exact hHeld) (fun hHeld => ?_)
                clear hK K
                (try simp only [Act.put, List.getElem_toArray, List.getElem_cons_zero, List.getElem_cons_succ, List.setIfInBounds_toArray, List.set_cons_zero, List.set_cons_succ])
                refine wpAnyH_ready (rs := [12]) (by kernel_rfl) (by simp) ?_
                refine AllReadyH.cons rfl (fun K hK => ?_) (AllReadyH.nil)
                obtain ⟨q0, f0, q1, f1, q2, f2, q3, f3⟩ := E79.out
                go_simp
                have SF := Lib.hid (S79.out.setNew (p := ⟨b, 3, none⟩) (by simp; omega) (.slice A79 (xs.length + 1) c79))
                have hl : (xs ++ [(v4, v7)]).length = xs.length + 1 := by simp
                have FG := Lib.hid (show GS w (p79.setCell ⟨b, 3, none⟩ (.slice A79 (xs.length + 1) c79)) g b ((K0 + 2) + 2) (9) from ⟨⟨i, z, nm, A79, c79, xs ++ [(v4, v7)], hnm, by omega, by rw [hl]; simp [go_sem, *], by rw [hl, List.flatMap_append]; exact ownsRow_setCell_below O79.out (by simp) _⟩, C79.out.set (by simp; omega) _, SF.out, blk4_set _ (by simp; omega) _ R79.out⟩)
                refine hK.out _ _ (by (try dsimp only); exact SF.out) (fun hHeld => ?_)
                clear hK K
                (try simp only [Act.put, List.getElem_toArray, List.getElem_cons_zero, List.getElem_cons_succ, List.setIfInBounds_toArray, List.set_cons_zero, List.set_cons_succ])
                clear q0 f0 q1 f1 q2 f2 q3 f3
                refine wpAnyH_done (by kernel_rfl) ?_ _
                go_upto_region 23 with fail
                obtain ⟨⟨i, z, nm, A, c, xs, hnm, hxl, ⟨q0, f0, q1, f1, q2, f2, q3, f3⟩, ho⟩, hcu, hsu, ⟨y0, l0, y1, l1, y2, l2, y3, l3⟩⟩ := FG.out
                have OU := Lib.hid ho
                have CU := Lib.hid hcu
                have SU := Lib.hid hsu
                clear ho hcu hsu
                go_wp2_with fail
                exact bodyPost_ret (v := .agg #[.int .i64 i, .string nm, .int .i64 z, .slice A xs.length c]) (by simp [results, Try.results66, go_sem, *]) rfl ⟨i, z, nm, _, xs, rfl, hnm, by omega, own_base (ownsRow_setCell_below (ownsRow_setCell_below (ownsRow_setCell_below (ownsRow_setCell_below OU.out (by first | (simp; done) | (simp; omega)) _) (by first | (simp; done) | (simp; omega)) _) (by first | (simp; done) | (simp; omega)) _) (by first | (simp; done) | (simp; omega)) _) (by omega), ((((CU.out.set (by first | (simp; done) | (simp; omega)) _).set (by first | (simp; done) | (simp; omega)) _).set (by first | (simp; done) | (simp; omega)) _).set (by first | (simp; done) | (simp; omega)) _).mono (by omega), (((SU.out.setNew (by first | (simp; done) | (simp; omega)) _).setNew (by first | (simp; done) | (simp; omega)) _).setNew (by first | (simp; done) | (simp; omega)) _).setNew (by first | (simp; done) | (simp; omega)) _⟩
              · skip
                go_simp
                go_at_call 67
                refine (among_any g _ 3 (K0 + 2) [0, -501, 2001] _ C75.out (by omega) NI6_75.out hg67 (by decide) (by decide)).mono ?_
                rintro e p82 ⟨v7, rfl, -, hc82, hs82⟩
                (try go_wp2_with fail)
                refine hK.out _ _ (by (try dsimp only); exact S75.out.trans hs82) (fun hHeld => ?_)
                clear hK K
                (try simp only [Act.put, List.getElem_toArray, List.getElem_cons_zero, List.getElem_cons_succ, List.setIfInBounds_toArray, List.set_cons_zero, List.set_cons_succ])
                have E82 := Lib.hid (blk4_stir hs82 (by omega) E75.out)
                have O82 := Lib.hid (hs82.own O75.out (by omega))
                have C82 := Lib.hid hc82
                have S82 := Lib.hid (S75.out.trans hs82)
                have R82 := Lib.hid (blk4_stir hs82 (by omega) R75.out)
                have NI3_82 := Lib.hid (NI3_75.out.stir hs82 hg25)
                have NI6_82 := Lib.hid (NI6_75.out.stir hs82 hg67)
                clear hc82 hs82
                refine wpAnyH_take (i := 8) (v := ?_) rfl (by kernel_rfl) (by kernel_rfl) (by kernel_rfl) (fun _ _ _ h => h) (Or.inl ⟨by kernel_rfl, ?_⟩) (by assumption) ?_
                rotate_left
                focus (intro w' hSw; (try dsimp only at hSw); go_simp; (try with_reducible rfl))
                (try simp only [Act.put, List.getElem_toArray, List.getElem_cons_zero, List.getElem_cons_succ, List.setIfInBounds_toArray, List.set_cons_zero, List.set_cons_succ])
                refine wpAnyH_ready (rs := [1, 9]) (by kernel_rfl) (by simp) ?_
                refine AllReadyH.cons rfl (fun K hK => ?_) (AllReadyH.cons rfl (fun K hK => ?_) (AllReadyH.nil))
                · skip
                  have s3 := E82.out.2.2.2.2.2.2.1
                  go_simp
                  refine hK.out _ _ (by (try dsimp only); exact S82.out) (fun hHeld => ?_)
                  clear hK K
                  (try simp only [Act.put, List.getElem_toArray, List.getElem_cons_zero, List.getElem_cons_succ, List.setIfInBounds_toArray, List.set_cons_zero, List.set_cons_succ])
                  clear s3
                  refine wpAnyH_ready (rs := [9]) (by kernel_rfl) (by simp) ?_
                  refine AllReadyH.cons rfl (fun K hK => ?_) (AllReadyH.nil)
                  go_simp
                  have ka : Kept p82 (p82.alloc (.cells #[.int .i64 v4, .int .i64 v7] 28)) := Kept.alloc (Kept.refl _) _
                  refine hK.out _ _ (by (try dsimp only); exact S82.out.alloc _) (fun hHeld => ?_)
                  clear hK K
                  (try simp only [Act.put, List.getElem_toArray, List.getElem_cons_zero, List.getElem_cons_succ, List.setIfInBounds_toArray, List.set_cons_zero, List.set_cons_succ])
                  have E84 := Lib.hid (blk4 ka E82.out)
                  have O84 := Lib.hid (own_kept O82.out ka)
                  have C84 := Lib.hid (C82.out.kept ka)
                  have S84 := Lib.hid (S82.out.alloc (.cells #[.int .i64 v4, .int .i64 v7] 28))
                  have R84 := Lib.hid (blk4 ka R82.out)
                  have NI3_84 := Lib.hid (NI3_82.out.kept ka)
                  have NI6_84 := Lib.hid (NI6_82.out.kept ka)
                  have B84 := Lib.hid (heap_alloc_new p82 (.cells #[.int .i64 v4, .int .i64 v7] 28))
                  clear ka
                  generalize p82.alloc (.cells #[.int .i64 v4, .int .i64 v7] 28) = p84 at *
                  refine wpAnyH_ready (rs := [10]) (by kernel_rfl) (by simp) ?_
                  refine AllReadyH.cons rfl (fun K hK => ?_) (AllReadyH.nil)
                  refine step_append_own1 _ (by rfl) _ _ _ (by rfl) (b + 1) 28 i0 _ 16 Try.underlying24 hi0 hz0 hz1 hz2 rfl _ xs.length _ (by rfl) O84.out _ (v4, v7) (by rfl) B84.out (by unfold maxLen; omega) (by omega) (by have := World.block_lt_of_cell? _ _ E84.out.1; simp at this; omega) ?_
                  intro A85 c85 p85 hown85 hgrow85
                  have hrow : ∀ q, (Value.slice A xs.length c).ownBlock = some q → b + 1 ≤ q := fun q hq => (O84.out.lt q hq).1
                  have hnb : some b ≠ (Value.slice A xs.length c).ownBlock := fun e => by have := hrow b e.symm; omega
                  have hnr : some w.heap.size ≠ (Value.slice A xs.length c).ownBlock := fun e => by have := hrow _ e.symm; omega
                  have S85 := Lib.hid (S84.out.grown hgrow85 (fun q hq => by have := hrow q hq; omega))
                  refine hK.out _ _ (by (try dsimp only); exact S85.out) (fun hHeld => ?_)
                  clear hK K
                  (try simp only [Act.put, List.getElem_toArray, List.getElem_cons_zero, List.getElem_cons_succ, List.setIfInBounds_toArray, List.set_cons_zero, List.set_cons_succ])
                  have E85 := Lib.hid (blk4_grown hgrow85 hnb E84.out)
                  have O85 := Lib.hid hown85
                  have C85 := Lib.hid (C84.out.grown hgrow85 (fun q hq => by have := hrow q hq; omega))
                  have R85 := Lib.hid (blk4_grown hgrow85 hnr R84.out)
                  clear hown85 hgrow85 hrow hnb hnr
                  refine wpAnyH_ready (rs := [11]) (by kernel_rfl) (by simp) ?_
                  refine AllReadyH.cons rfl (fun K hK => ?_) (AllReadyH.nil)
                  go_simp
                  refine hK.out _ _ (by (try dsimp only); exact hHeld) (fun hHeld => ?_)
                  clear hK K
                  (try simp only [Act.put, List.getElem_toArray, List.getElem_cons_zero, List.getElem_cons_succ, List.setIfInBounds_toArray, List.set_cons_zero, List.set_cons_succ])
                  refine wpAnyH_ready (rs := [12]) (by kernel_rfl) (by simp) ?_
                  refine AllReadyH.cons rfl (fun K hK => ?_) (AllReadyH.nil)
                  obtain ⟨q0, f0, q1, f1, q2, f2, q3, f3⟩ := E85.out
                  go_simp
                  have SF := Lib.hid (S85.out.setNew (p := ⟨b, 3, none⟩) (by simp; omega) (.slice A85 (xs.length + 1) c85))
                  have hl : (xs ++ [(v4, v7)]).length = xs.length + 1 := by simp
                  have FG := Lib.hid (show GS w (p85.setCell ⟨b, 3, none⟩ (.slice A85 (xs.length + 1) c85)) g b ((K0 + 2) + 2) (9) from ⟨⟨i, z, nm, A85, c85, xs ++ [(v4, v7)], hnm, by omega, by rw [hl]; simp [go_sem, *], by rw [hl, List.flatMap_append]; exact ownsRow_setCell_below O85.out (by simp) _⟩, C85.out.set (by simp; omega) _, SF.out, blk4_set _ (by simp; omega) _ R85.out⟩)
                  refine hK.out _ _ (by (try dsimp only); exact SF.out) (fun hHeld => ?_)
                  clear hK K
                  (try simp only [Act.put, List.getElem_toArray, List.getElem_cons_zero, List.getElem_cons_succ, List.setIfInBounds_toArray, List.set_cons_zero, List.set_cons_succ])
                  clear q0 f0 q1 f1 q2 f2 q3 f3
                  refine wpAnyH_done (by kernel_rfl) ?_ _
                  go_upto_region 23 with fail
                  obtain ⟨⟨i, z, nm, A, c, xs, hnm, hxl, ⟨q0, f0, q1, f1, q2, f2, q3, f3⟩, ho⟩, hcu, hsu, ⟨y0, l0, y1, l1, y2, l2, y3, l3⟩⟩ := FG.out
                  have OU := Lib.hid ho
                  have CU := Lib.hid hcu
                  have SU := Lib.hid hsu
                  clear ho hcu hsu
                  go_wp2_with fail
                  exact bodyPost_ret (v := .agg #[.int .i64 i, .string nm, .int .i64 z, .slice A xs.length c]) (by simp [results, Try.results66, go_sem, *]) rfl ⟨i, z, nm, _, xs, rfl, hnm, by omega, own_base (ownsRow_setCell_below (ownsRow_setCell_below (ownsRow_setCell_below (ownsRow_setCell_below OU.out (by first | (simp; done) | (simp; omega)) _) (by first | (simp; done) | (simp; omega)) _) (by first | (simp; done) | (simp; omega)) _) (by first | (simp; done) | (simp; omega)) _) (by omega), ((((CU.out.set (by first | (simp; done) | (simp; omega)) _).set (by first | (simp; done) | (simp; omega)) _).set (by first | (simp; done) | (simp; omega)) _).set (by first | (simp; done) | (simp; omega)) _).mono (by omega), (((SU.out.setNew (by first | (simp; done) | (simp; omega)) _).setNew (by first | (simp; done) | (simp; omega)) _).setNew (by first | (simp; done) | (simp; omega)) _).setNew (by first | (simp; done) | (simp; omega)) _⟩
                · skip
                  go_simp
                  have ka : Kept p82 (p82.alloc (.cells #[.int .i64 v4, .int .i64 v7] 28)) := Kept.alloc (Kept.refl _) _
                  refine hK.out _ _ (by (try dsimp only); exact S82.out.alloc _) (fun hHeld => ?_)
                  clear hK K
                  (try simp only [Act.put, List.getElem_toArray, List.getElem_cons_zero, List.getElem_cons_succ, List.setIfInBounds_toArray, List.set_cons_zero, List.set_cons_succ])
                  have E88 := Lib.hid (blk4 ka E82.out)
                  have O88 := Lib.hid (own_kept O82.out ka)
                  have C88 := Lib.hid (C82.out.kept ka)
                  have S88 := Lib.hid (S82.out.alloc (.cells #[.int .i64 v4, .int .i64 v7] 28))
                  have R88 := Lib.hid (blk4 ka R82.out)
                  have NI3_88 := Lib.hid (NI3_82.out.kept ka)
                  have NI6_88 := Lib.hid (NI6_82.out.kept ka)
                  have B88 := Lib.hid (heap_alloc_new p82 (.cells #[.int .i64 v4, .int .i64 v7] 28))
                  clear ka
                  generalize p82.alloc (.cells #[.int .i64 v4, .int .i64 v7] 28) = p88 at *
                  refine wpAnyH_ready (rs := [1]) (by kernel_rfl) (by simp) ?_
                  refine AllReadyH.cons rfl (fun K hK => ?_) (AllReadyH.nil)
                  have s3 := E88.out.2.2.2.2.2.2.1
                  go_simp
                  refine hK.out _ _ (by (try dsimp only); exact S88.out) (fun hHeld => ?_)
                  clear hK K
                  (try simp only [Act.put, List.getElem_toArray, List.getElem_cons_zero, List.getElem_cons_succ, List.setIfInBounds_toArray, List.set_cons_zero, List.set_cons_succ])
                  clear s3
                  refine wpAnyH_ready (rs := [10]) (by kernel_rfl) (by simp) ?_
                  refine AllReadyH.cons rfl (fun K hK => ?_) (AllReadyH.nil)
                  refine step_append_own1 _ (by rfl) _ _ _ (by rfl) (b + 1) 28 i0 _ 16 Try.underlying24 hi0 hz0 hz1 hz2 rfl _ xs.length _ (by rfl) O88.out _ (v4, v7) (by rfl) B88.out (by unfold maxLen; omega) (by omega) (by have := World.block_lt_of_cell? _ _ E88.out.1; simp at this; omega) ?_
                  intro A90 c90 p90 hown90 hgrow90
                  have hrow : ∀ q, (Value.slice A xs.length c).ownBlock = some q → b + 1 ≤ q := fun q hq => (O88.out.lt q hq).1
                  have hnb : some b ≠ (Value.slice A xs.length c).ownBlock := fun e => by have := hrow b e.symm; omega
                  have hnr : some w.heap.size ≠ (Value.slice A xs.length c).ownBlock := fun e => by have := hrow _ e.symm; omega
                  have S90 := Lib.hid (S88.out.grown hgrow90 (fun q hq => by have := hrow q hq; omega))
                  refine hK.out _ _ (by (try dsimp only); exact S90.out) (fun hHeld => ?_)
                  clear hK K
                  (try simp only [Act.put, List.getElem_toArray, List.getElem_cons_zero, List.getElem_cons_succ, List.setIfInBounds_toArray, List.set_cons_zero, List.set_cons_succ])
                  have E90 := Lib.hid (blk4_grown hgrow90 hnb E88.out)
                  have O90 := Lib.hid hown90
                  have C90 := Lib.hid (C88.out.grown hgrow90 (fun q hq => by have := hrow q hq; omega))
                  have R90 := Lib.hid (blk4_grown hgrow90 hnr R88.out)
                  clear hown90 hgrow90 hrow hnb hnr
                  refine wpAnyH_ready (rs := [11]) (by kernel_rfl) (by simp) ?_
                  refine AllReadyH.cons rfl (fun K hK => ?_) (AllReadyH.nil)
                  go_simp
                  refine hK.out _ _ (by (try dsimp only); exact hHeld) (fun hHeld => ?_)
                  clear hK K
                  (try simp only [Act.put, List.getElem_toArray, List.getElem_cons_zero, List.getElem_cons_succ, List.setIfInBounds_toArray, List.set_cons_zero, List.set_cons_succ])
                  refine wpAnyH_ready (rs := [12]) (by kernel_rfl) (by simp) ?_
                  refine AllReadyH.cons rfl (fun K hK => ?_) (AllReadyH.nil)
                  obtain ⟨q0, f0, q1, f1, q2, f2, q3, f3⟩ := E90.out
                  go_simp
                  have SF := Lib.hid (S90.out.setNew (p := ⟨b, 3, none⟩) (by simp; omega) (.slice A90 (xs.length + 1) c90))
                  have hl : (xs ++ [(v4, v7)]).length = xs.length + 1 := by simp
                  have FG := Lib.hid (show GS w (p90.setCell ⟨b, 3, none⟩ (.slice A90 (xs.length + 1) c90)) g b ((K0 + 2) + 2) (9) from ⟨⟨i, z, nm, A90, c90, xs ++ [(v4, v7)], hnm, by omega, by rw [hl]; simp [go_sem, *], by rw [hl, List.flatMap_append]; exact ownsRow_setCell_below O90.out (by simp) _⟩, C90.out.set (by simp; omega) _, SF.out, blk4_set _ (by simp; omega) _ R90.out⟩)
                  refine hK.out _ _ (by (try dsimp only); exact SF.out) (fun hHeld => ?_)
                  clear hK K
                  (try simp only [Act.put, List.getElem_toArray, List.getElem_cons_zero, List.getElem_cons_succ, List.setIfInBounds_toArray, List.set_cons_zero, List.set_cons_succ])
                  clear q0 f0 q1 f1 q2 f2 q3 f3
                  refine wpAnyH_done (by kernel_rfl) ?_ _
                  go_upto_region 23 with fail
                  obtain ⟨⟨i, z, nm, A, c, xs, hnm, hxl, ⟨q0, f0, q1, f1, q2, f2, q3, f3⟩, ho⟩, hcu, hsu, ⟨y0, l0, y1, l1, y2, l2, y3, l3⟩⟩ := FG.out
                  have OU := Lib.hid ho
                  have CU := Lib.hid hcu
                  have SU := Lib.hid hsu
                  clear ho hcu hsu
                  go_wp2_with fail
                  exact bodyPost_ret (v := .agg #[.int .i64 i, .string nm, .int .i64 z, .slice A xs.length c]) (by simp [results, Try.results66, go_sem, *]) rfl ⟨i, z, nm, _, xs, rfl, hnm, by omega, own_base (ownsRow_setCell_below (ownsRow_setCell_below (ownsRow_setCell_below (ownsRow_setCell_below OU.out (by first | (simp; done) | (simp; omega)) _) (by first | (simp; done) | (simp; omega)) _) (by first | (simp; done) | (simp; omega)) _) (by first | (simp; done) | (simp; omega)) _) (by omega), ((((CU.out.set (by first | (simp; done) | (simp; omega)) _).set (by first | (simp; done) | (simp; omega)) _).set (by first | (simp; done) | (simp; omega)) _).set (by first | (simp; done) | (simp; omega)) _).mono (by omega), (((SU.out.setNew (by first | (simp; done) | (simp; omega)) _).setNew (by first | (simp; done) | (simp; omega)) _).setNew (by first | (simp; done) | (simp; omega)) _).setNew (by first | (simp; done) | (simp; omega)) _⟩
        · skip
          go_simp
          have ka : Kept p0 (p0.alloc (.cells #[.int .i64 0, .int .i64 (-501), .int .i64 2001] 3)) := Kept.alloc (Kept.refl _) _
          refine hK.out _ _ (by (try dsimp only); exact S0.out.alloc _) (fun hHeld => ?_)
          clear hK K
          (try simp only [Act.put, List.getElem_toArray, List.getElem_cons_zero, List.getElem_cons_succ, List.setIfInBounds_toArray, List.set_cons_zero, List.set_cons_succ])
          have E93 := Lib.hid (blk4 ka E0.out)
          have O93 := Lib.hid (own_kept O0.out ka)
          have C93 := Lib.hid (C0.out.kept ka)
          have S93 := Lib.hid (S0.out.alloc (.cells #[.int .i64 0, .int .i64 (-501), .int .i64 2001] 3))
          have R93 := Lib.hid (blk4 ka R0.out)
          have NI6_93 := Lib.hid (NumsIn.lit (w := p0) (xs := [0, -501, 2001]) (t := 3) (n := p0.heap.size) (cs := #[.int .i64 0, .int .i64 (-501), .int .i64 2001]) (by rfl) rfl)
          have hg93 : p0.heap.size ≠ g := fun e => by have := S0.out.size; omega
          clear ka
          generalize p0.alloc (.cells #[.int .i64 0, .int .i64 (-501), .int .i64 2001] 3) = p93 at *
          refine wpAnyH_ready (rs := [1, 3]) (by kernel_rfl) (by simp) ?_
          refine AllReadyH.cons rfl (fun K hK => ?_) (AllReadyH.cons rfl (fun K hK => ?_) (AllReadyH.nil))
          · skip
            have s3 := E93.out.2.2.2.2.2.2.1
            go_simp
            refine hK.out _ _ (by (try dsimp only); exact S93.out) (fun hHeld => ?_)
            clear hK K
            (try simp only [Act.put, List.getElem_toArray, List.getElem_cons_zero, List.getElem_cons_succ, List.setIfInBounds_toArray, List.set_cons_zero, List.set_cons_succ])
            clear s3
            refine wpAnyH_ready (rs := [3]) (by kernel_rfl) (by simp) ?_
            refine AllReadyH.cons rfl (fun K hK => ?_) (AllReadyH.nil)
            go_simp
            have ka : Kept p93 (p93.alloc (.cells #[.int .i64 (-1), .int .i64 10, .int .i64 10001] 3)) := Kept.alloc (Kept.refl _) _
            refine hK.out _ _ (by (try dsimp only); exact S93.out.alloc _) (fun hHeld => ?_)
            clear hK K
            (try simp only [Act.put, List.getElem_toArray, List.getElem_cons_zero, List.getElem_cons_succ, List.setIfInBounds_toArray, List.set_cons_zero, List.set_cons_succ])
            have E95 := Lib.hid (blk4 ka E93.out)
            have O95 := Lib.hid (own_kept O93.out ka)
            have C95 := Lib.hid (C93.out.kept ka)
            have S95 := Lib.hid (S93.out.alloc (.cells #[.int .i64 (-1), .int .i64 10, .int .i64 10001] 3))
            have R95 := Lib.hid (blk4 ka R93.out)
            have NI6_95 := Lib.hid (NI6_93.out.kept ka)
            have NI3_95 := Lib.hid (NumsIn.lit (w := p93) (xs := [-1, 10, 10001]) (t := 3) (n := p93.heap.size) (cs := #[.int .i64 (-1), .int .i64 10, .int .i64 10001]) (by rfl) rfl)
            have hg95 : p93.heap.size ≠ g := fun e => by have := S93.out.size; omega
            clear ka
            generalize p93.alloc (.cells #[.int .i64 (-1), .int .i64 10, .int .i64 10001] 3) = p95 at *
            refine wpAnyH_ready (rs := [4]) (by kernel_rfl) (by simp) ?_
            refine AllReadyH.cons rfl (fun K hK => ?_) (AllReadyH.nil)
            go_simp
            go_at_call 67
            refine (among_any g _ 3 K0 [-1, 10, 10001] _ C95.out (by omega) NI3_95.out hg95 (by decide) (by decide)).mono ?_
            rintro e p96 ⟨v4, rfl, -, hc96, hs96⟩
            (try go_wp2_with fail)
            refine hK.out _ _ (by (try dsimp only); exact S95.out.trans hs96) (fun hHeld => ?_)
            clear hK K
            (try simp only [Act.put, List.getElem_toArray, List.getElem_cons_zero, List.getElem_cons_succ, List.setIfInBounds_toArray, List.set_cons_zero, List.set_cons_succ])
            have E96 := Lib.hid (blk4_stir hs96 (by omega) E95.out)
            have O96 := Lib.hid (hs96.own O95.out (by omega))
            have C96 := Lib.hid hc96
            have S96 := Lib.hid (S95.out.trans hs96)
            have R96 := Lib.hid (blk4_stir hs96 (by omega) R95.out)
            have NI6_96 := Lib.hid (NI6_95.out.stir hs96 hg93)
            have NI3_96 := Lib.hid (NI3_95.out.stir hs96 hg95)
            clear hc96 hs96
            refine wpAnyH_ready (rs := [7]) (by kernel_rfl) (by simp) ?_
            refine AllReadyH.cons rfl (fun K hK => ?_) (AllReadyH.nil)
            go_simp
            go_at_call 67
            refine (among_any g _ 3 (K0 + 2) [0, -501, 2001] _ C96.out (by omega) NI6_96.out hg93 (by decide) (by decide)).mono ?_
            rintro e p97 ⟨v7, rfl, -, hc97, hs97⟩
            (try go_wp2_with fail)
            refine hK.out _ _ (by (try dsimp only); exact S96.out.trans hs97) (fun hHeld => ?_)
            clear hK K
            (try simp only [Act.put, List.getElem_toArray, List.getElem_cons_zero, List.getElem_cons_succ, List.setIfInBounds_toArray, List.set_cons_zero, List.set_cons_succ])
            have E97 := Lib.hid (blk4_stir hs97 (by omega) E96.out)
            have O97 := Lib.hid (hs97.own O96.out (by omega))
            have C97 := Lib.hid hc97
            have S97 := Lib.hid (S96.out.trans hs97)
            have R97 := Lib.hid (blk4_stir hs97 (by omega) R96.out)
            have NI6_97 := Lib.hid (NI6_96.out.stir hs97 hg93)
            have NI3_97 := Lib.hid (NI3_96.out.stir hs97 hg95)
            clear hc97 hs97
            refine wpAnyH_take (i := 8) (v := ?_) rfl (by kernel_rfl) (by kernel_rfl) (by kernel_rfl) (fun _ _ _ h => h) (Or.inl ⟨by kernel_rfl, ?_⟩) (by assumption) ?_
            rotate_left
            focus (intro w' hSw; (try dsimp only at hSw); go_simp; (try with_reducible rfl))
            (try simp only [Act.put, List.getElem_toArray, List.getElem_cons_zero, List.getElem_cons_succ, List.setIfInBounds_toArray, List.set_cons_zero, List.set_cons_succ])
            refine wpAnyH_ready (rs := [9]) (by kernel_rfl) (by simp) ?_
            refine AllReadyH.cons rfl (fun K hK => ?_) (AllReadyH.nil)
            go_simp
            have ka : Kept p97 (p97.alloc (.cells #[.int .i64 v4, .int .i64 v7] 28)) := Kept.alloc (Kept.refl _) _
            refine hK.out _ _ (by (try dsimp only); exact S97.out.alloc _) (fun hHeld => ?_)
            clear hK K
            (try simp only [Act.put, List.getElem_toArray, List.getElem_cons_zero, List.getElem_cons_succ, List.setIfInBounds_toArray, List.set_cons_zero, List.set_cons_succ])
            have E98 := Lib.hid (blk4 ka E97.out)
            have O98 := Lib.hid (own_kept O97.out ka)
            have C98 := Lib.hid (C97.out.kept ka)
            have S98 := Lib.hid (S97.out.alloc (.cells #[.int .i64 v4, .int .i64 v7] 28))
            have R98 := Lib.hid (blk4 ka R97.out)
            have NI6_98 := Lib.hid (NI6_97.out.kept ka)
            have NI3_98 := Lib.hid (NI3_97.out.kept ka)
            have B98 := Lib.hid (heap_alloc_new p97 (.cells #[.int .i64 v4, .int .i64 v7] 28))
            clear ka
            generalize p97.alloc (.cells #[.int .i64 v4, .int .i64 v7] 28) = p98 at *
            refine wpAnyH_ready (rs := [10]) (by kernel_rfl) (by simp) ?_
            refine AllReadyH.cons rfl (fun K hK => ?_) (AllReadyH.nil)
            refine step_append_own1 _ (by rfl) _ _ _ (by rfl) (b + 1) 28 i0 _ 16 Try.underlying24 hi0 hz0 hz1 hz2 rfl _ xs.length _ (by rfl) O98.out _ (v4, v7) (by rfl) B98.out (by unfold maxLen; omega) (by omega) (by have := World.block_lt_of_cell? _ _ E98.out.1; simp at this; omega) ?_
            intro A99 c99 p99 hown99 hgrow99
            have hrow : ∀ q, (Value.slice A xs.length c).ownBlock = some q → b + 1 ≤ q := fun q hq => (O98.out.lt q hq).1
            have hnb : some b ≠ (Value.slice A xs.length c).ownBlock := fun e => by have := hrow b e.symm; omega
            have hnr : some w.heap.size ≠ (Value.slice A xs.length c).ownBlock := fun e => by have := hrow _ e.symm; omega
            have S99 := Lib.hid (S98.out.grown hgrow99 (fun q hq => by have := hrow q hq; omega))
            refine hK.out _ _ (by (try dsimp only); exact S99.out) (fun hHeld => ?_)
            clear hK K
            (try simp only [Act.put, List.getElem_toArray, List.getElem_cons_zero, List.getElem_cons_succ, List.setIfInBounds_toArray, List.set_cons_zero, List.set_cons_succ])
            have E99 := Lib.hid (blk4_grown hgrow99 hnb E98.out)
            have O99 := Lib.hid hown99
            have C99 := Lib.hid (C98.out.grown hgrow99 (fun q hq => by have := hrow q hq; omega))
            have R99 := Lib.hid (blk4_grown hgrow99 hnr R98.out)
            clear hown99 hgrow99 hrow hnb hnr
            refine wpAnyH_ready (rs := [11]) (by kernel_rfl) (by simp) ?_
            refine AllReadyH.cons rfl (fun K hK => ?_) (AllReadyH.nil)
            go_simp
            refine hK.out _ _ (by (try dsimp only); exact hHeld) (fun hHeld => ?_)
            clear hK K
            (try simp only [Act.put, List.getElem_toArray, List.getElem_cons_zero, List.getElem_cons_succ, List.setIfInBounds_toArray, List.set_cons_zero, List.set_cons_succ])
            refine wpAnyH_ready (rs := [12]) (by kernel_rfl) (by simp) ?_
            refine AllReadyH.cons rfl (fun K hK => ?_) (AllReadyH.nil)
            obtain ⟨q0, f0, q1, f1, q2, f2, q3, f3⟩ := E99.out
            go_simp
            have SF := Lib.hid (S99.out.setNew (p := ⟨b, 3, none⟩) (by simp; omega) (.slice A99 (xs.length + 1) c99))
            have hl : (xs ++ [(v4, v7)]).length = xs.length + 1 := by simp
            have FG := Lib.hid (show GS w (p99.setCell ⟨b, 3, none⟩ (.slice A99 (xs.length + 1) c99)) g b ((K0 + 2) + 2) (9) from ⟨⟨i, z, nm, A99, c99, xs ++ [(v4, v7)], hnm, by omega, by rw [hl]; simp [go_sem, *], by rw [hl, List.flatMap_append]; exact ownsRow_setCell_below O99.out (by simp) _⟩, C99.out.set (by simp; omega) _, SF.out, blk4_set _ (by simp; omega) _ R99.out⟩)
            refine hK.out _ _ (by (try dsimp only); exact SF.out) (fun hHeld => ?_)
            clear hK K
            (try simp only [Act.put, List.getElem_toArray, List.getElem_cons_zero, List.getElem_cons_succ, List.setIfInBounds_toArray, List.set_cons_zero, List.set_cons_succ])
            clear q0 f0 q1 f1 q2 f2 q3 f3
            refine wpAnyH_done (by kernel_rfl) ?_ _
            go_upto_region 23 with fail
            obtain ⟨⟨i, z, nm, A, c, xs, hnm, hxl, ⟨q0, f0, q1, f1, q2, f2, q3, f3⟩, ho⟩, hcu, hsu, ⟨y0, l0, y1, l1, y2, l2, y3, l3⟩⟩ := FG.out
            have OU := Lib.hid ho
            have CU := Lib.hid hcu
            have SU := Lib.hid hsu
            clear ho hcu hsu
            go_wp2_with fail
            exact bodyPost_ret (v := .agg #[.int .i64 i, .string nm, .int .i64 z, .slice A xs.length c]) (by simp [results, Try.results66, go_sem, *]) rfl ⟨i, z, nm, _, xs, rfl, hnm, by omega, own_base (ownsRow_setCell_below (ownsRow_setCell_below (ownsRow_setCell_below (ownsRow_setCell_below OU.out (by first | (simp; done) | (simp; omega)) _) (by first | (simp; done) | (simp; omega)) _) (by first | (simp; done) | (simp; omega)) _) (by first | (simp; done) | (simp; omega)) _) (by omega), ((((CU.out.set (by first | (simp; done) | (simp; omega)) _).set (by first | (simp; done) | (simp; omega)) _).set (by first | (simp; done) | (simp; omega)) _).set (by first | (simp; done) | (simp; omega)) _).mono (by omega), (((SU.out.setNew (by first | (simp; done) | (simp; omega)) _).setNew (by first | (simp; done) | (simp; omega)) _).setNew (by first | (simp; done) | (simp; omega)) _).setNew (by first | (simp; done) | (simp; omega)) _⟩
          · skip
            go_simp
            have ka : Kept p93 (p93.alloc (.cells #[.int .i64 (-1), .int .i64 10, .int .i64 10001] 3)) := Kept.alloc (Kept.refl _) _
            refine hK.out _ _ (by (try dsimp only); exact S93.out.alloc _) (fun hHeld => ?_)
            clear hK K
            (try simp only [Act.put, List.getElem_toArray, List.getElem_cons_zero, List.getElem_cons_succ, List.setIfInBounds_toArray, List.set_cons_zero, List.set_cons_succ])
            have E102 := Lib.hid (blk4 ka E93.out)
            have O102 := Lib.hid (own_kept O93.out ka)
            have C102 := Lib.hid (C93.out.kept ka)
            have S102 := Lib.hid (S93.out.alloc (.cells #[.int .i64 (-1), .int .i64 10, .int .i64 10001] 3))
            have R102 := Lib.hid (blk4 ka R93.out)
            have NI6_102 := Lib.hid (NI6_93.out.kept ka)
            have NI3_102 := Lib.hid (NumsIn.lit (w := p93) (xs := [-1, 10, 10001]) (t := 3) (n := p93.heap.size) (cs := #[.int .i64 (-1), .int .i64 10, .int .i64 10001]) (by rfl) rfl)
            have hg102 : p93.heap.size ≠ g := fun e => by have := S93.out.size; omega
            clear ka
            generalize p93.alloc (.cells #[.int .i64 (-1), .int .i64 10, .int .i64 10001] 3) = p102 at *
            refine wpAnyH_ready (rs := [1, 4]) (by kernel_rfl) (by simp) ?_
            refine AllReadyH.cons rfl (fun K hK => ?_) (AllReadyH.cons rfl (fun K hK => ?_) (AllReadyH.nil))
            · skip
              have s3 := E102.out.2.2.2.2.2.2.1
              go_simp
              refine hK.out _ _ (by (try dsimp only); exact S102.out) (fun hHeld => ?_)
              clear hK K
              (try simp only [Act.put, List.getElem_toArray, List.getElem_cons_zero, List.getElem_cons_succ, List.setIfInBounds_toArray, List.set_cons_zero, List.set_cons_succ])
              clear s3
              refine wpAnyH_ready (rs := [4]) (by kernel_rfl) (by simp) ?_
              refine AllReadyH.cons rfl (fun K hK => ?_) (AllReadyH.nil)
              go_simp
              go_at_call 67
              refine (among_any g _ 3 K0 [-1, 10, 10001] _ C102.out (by omega) NI3_102.out hg102 (by decide) (by decide)).mono ?_
              rintro e p104 ⟨v4, rfl, -, hc104, hs104⟩
              (try go_wp2_with fail)
              refine hK.out _ _ (by (try dsimp only); exact S102.out.trans hs104) (fun hHeld => ?_)
              clear hK K
              (try simp only [Act.put, List.getElem_toArray, List.getElem_cons_zero, List.getElem_cons_succ, List.setIfInBounds_toArray, List.set_cons_zero, List.set_cons_succ])
              have E104 := Lib.hid (blk4_stir hs104 (by omega) E102.out)
              have O104 := Lib.hid (hs104.own O102.out (by omega))
              have C104 := Lib.hid hc104
              have S104 := Lib.hid (S102.out.trans hs104)
              have R104 := Lib.hid (blk4_stir hs104 (by omega) R102.out)
              have NI6_104 := Lib.hid (NI6_102.out.stir hs104 hg93)
              have NI3_104 := Lib.hid (NI3_102.out.stir hs104 hg102)
              clear hc104 hs104
              refine wpAnyH_ready (rs := [7]) (by kernel_rfl) (by simp) ?_
              refine AllReadyH.cons rfl (fun K hK => ?_) (AllReadyH.nil)
              go_simp
              go_at_call 67
              refine (among_any g _ 3 (K0 + 2) [0, -501, 2001] _ C104.out (by omega) NI6_104.out hg93 (by decide) (by decide)).mono ?_
              rintro e p105 ⟨v7, rfl, -, hc105, hs105⟩
              (try go_wp2_with fail)
              refine hK.out _ _ (by (try dsimp only); exact S104.out.trans hs105) (fun hHeld => ?_)
              clear hK K
              (try simp only [Act.put, List.getElem_toArray, List.getElem_cons_zero, List.getElem_cons_succ, List.setIfInBounds_toArray, List.set_cons_zero, List.set_cons_succ])
              have E105 := Lib.hid (blk4_stir hs105 (by omega) E104.out)
              have O105 := Lib.hid (hs105.own O104.out (by omega))
              have C105 := Lib.hid hc105
              have S105 := Lib.hid (S104.out.trans hs105)
              have R105 := Lib.hid (blk4_stir hs105 (by omega) R104.out)
              have NI6_105 := Lib.hid (NI6_104.out.stir hs105 hg93)
              have NI3_105 := Lib.hid (NI3_104.out.stir hs105 hg102)
              clear hc105 hs105
              refine wpAnyH_take (i := 8) (v := ?_) rfl (by kernel_rfl) (by kernel_rfl) (by kernel_rfl) (fun _ _ _ h => h) (Or.inl ⟨by kernel_rfl, ?_⟩) (by assumption) ?_
              rotate_left
              focus (intro w' hSw; (try dsimp only at hSw); go_simp; (try with_reducible rfl))
              (try simp only [Act.put, List.getElem_toArray, List.getElem_cons_zero, List.getElem_cons_succ, List.setIfInBounds_toArray, List.set_cons_zero, List.set_cons_succ])
              refine wpAnyH_ready (rs := [9]) (by kernel_rfl) (by simp) ?_
              refine AllReadyH.cons rfl (fun K hK => ?_) (AllReadyH.nil)
              go_simp
              have ka : Kept p105 (p105.alloc (.cells #[.int .i64 v4, .int .i64 v7] 28)) := Kept.alloc (Kept.refl _) _
              refine hK.out _ _ (by (try dsimp only); exact S105.out.alloc _) (fun hHeld => ?_)
              clear hK K
              (try simp only [Act.put, List.getElem_toArray, List.getElem_cons_zero, List.getElem_cons_succ, List.setIfInBounds_toArray, List.set_cons_zero, List.set_cons_succ])
              have E106 := Lib.hid (blk4 ka E105.out)
              have O106 := Lib.hid (own_kept O105.out ka)
              have C106 := Lib.hid (C105.out.kept ka)
              have S106 := Lib.hid (S105.out.alloc (.cells #[.int .i64 v4, .int .i64 v7] 28))
              have R106 := Lib.hid (blk4 ka R105.out)
              have NI6_106 := Lib.hid (NI6_105.out.kept ka)
              have NI3_106 := Lib.hid (NI3_105.out.kept ka)
              have B106 := Lib.hid (heap_alloc_new p105 (.cells #[.int .i64 v4, .int .i64 v7] 28))
              clear ka
              generalize p105.alloc (.cells #[.int .i64 v4, .int .i64 v7] 28) = p106 at *
              refine wpAnyH_ready (rs := [10]) (by kernel_rfl) (by simp) ?_
              refine AllReadyH.cons rfl (fun K hK => ?_) (AllReadyH.nil)
              refine step_append_own1 _ (by rfl) _ _ _ (by rfl) (b + 1) 28 i0 _ 16 Try.underlying24 hi0 hz0 hz1 hz2 rfl _ xs.length _ (by rfl) O106.out _ (v4, v7) (by rfl) B106.out (by unfold maxLen; omega) (by omega) (by have := World.block_lt_of_cell? _ _ E106.out.1; simp at this; omega) ?_
              intro A107 c107 p107 hown107 hgrow107
              have hrow : ∀ q, (Value.slice A xs.length c).ownBlock = some q → b + 1 ≤ q := fun q hq => (O106.out.lt q hq).1
              have hnb : some b ≠ (Value.slice A xs.length c).ownBlock := fun e => by have := hrow b e.symm; omega
              have hnr : some w.heap.size ≠ (Value.slice A xs.length c).ownBlock := fun e => by have := hrow _ e.symm; omega
              have S107 := Lib.hid (S106.out.grown hgrow107 (fun q hq => by have := hrow q hq; omega))
              refine hK.out _ _ (by (try dsimp only); exact S107.out) (fun hHeld => ?_)
              clear hK K
              (try simp only [Act.put, List.getElem_toArray, List.getElem_cons_zero, List.getElem_cons_succ, List.setIfInBounds_toArray, List.set_cons_zero, List.set_cons_succ])
              have E107 := Lib.hid (blk4_grown hgrow107 hnb E106.out)
              have O107 := Lib.hid hown107
              have C107 := Lib.hid (C106.out.grown hgrow107 (fun q hq => by have := hrow q hq; omega))
              have R107 := Lib.hid (blk4_grown hgrow107 hnr R106.out)
              clear hown107 hgrow107 hrow hnb hnr
              refine wpAnyH_ready (rs := [11]) (by kernel_rfl) (by simp) ?_
              refine AllReadyH.cons rfl (fun K hK => ?_) (AllReadyH.nil)
              go_simp
              refine hK.out _ _ (by (try dsimp only); exact hHeld) (fun hHeld => ?_)
              clear hK K
              (try simp only [Act.put, List.getElem_toArray, List.getElem_cons_zero, List.getElem_cons_succ, List.setIfInBounds_toArray, List.set_cons_zero, List.set_cons_succ])
              refine wpAnyH_ready (rs := [12]) (by kernel_rfl) (by simp) ?_
              refine AllReadyH.cons rfl (fun K hK => ?_) (AllReadyH.nil)
              obtain ⟨q0, f0, q1, f1, q2, f2, q3, f3⟩ := E107.out
              go_simp
              have SF := Lib.hid (S107.out.setNew (p := ⟨b, 3, none⟩) (by simp; omega) (.slice A107 (xs.length + 1) c107))
              have hl : (xs ++ [(v4, v7)]).length = xs.length + 1 := by simp
              have FG := Lib.hid (show GS w (p107.setCell ⟨b, 3, none⟩ (.slice A107 (xs.length + 1) c107)) g b ((K0 + 2) + 2) (9) from ⟨⟨i, z, nm, A107, c107, xs ++ [(v4, v7)], hnm, by omega, by rw [hl]; simp [go_sem, *], by rw [hl, List.flatMap_append]; exact ownsRow_setCell_below O107.out (by simp) _⟩, C107.out.set (by simp; omega) _, SF.out, blk4_set _ (by simp; omega) _ R107.out⟩)
              refine hK.out _ _ (by (try dsimp only); exact SF.out) (fun hHeld => ?_)
              clear hK K
              (try simp only [Act.put, List.getElem_toArray, List.getElem_cons_zero, List.getElem_cons_succ, List.setIfInBounds_toArray, List.set_cons_zero, List.set_cons_succ])
              clear q0 f0 q1 f1 q2 f2 q3 f3
              refine wpAnyH_done (by kernel_rfl) ?_ _
              go_upto_region 23 with fail
              obtain ⟨⟨i, z, nm, A, c, xs, hnm, hxl, ⟨q0, f0, q1, f1, q2, f2, q3, f3⟩, ho⟩, hcu, hsu, ⟨y0, l0, y1, l1, y2, l2, y3, l3⟩⟩ := FG.out
              have OU := Lib.hid ho
              have CU := Lib.hid hcu
              have SU := Lib.hid hsu
              clear ho hcu hsu
              go_wp2_with fail
              exact bodyPost_ret (v := .agg #[.int .i64 i, .string nm, .int .i64 z, .slice A xs.length c]) (by simp [results, Try.results66, go_sem, *]) rfl ⟨i, z, nm, _, xs, rfl, hnm, by omega, own_base (ownsRow_setCell_below (ownsRow_setCell_below (ownsRow_setCell_below (ownsRow_setCell_below OU.out (by first | (simp; done) | (simp; omega)) _) (by first | (simp; done) | (simp; omega)) _) (by first | (simp; done) | (simp; omega)) _) (by first | (simp; done) | (simp; omega)) _) (by omega), ((((CU.out.set (by first | (simp; done) | (simp; omega)) _).set (by first | (simp; done) | (simp; omega)) _).set (by first | (simp; done) | (simp; omega)) _).set (by first | (simp; done) | (simp; omega)) _).mono (by omega), (((SU.out.setNew (by first | (simp; done) | (simp; omega)) _).setNew (by first | (simp; done) | (simp; omega)) _).setNew (by first | (simp; done) | (simp; omega)) _).setNew (by first | (simp; done) | (simp; omega)) _⟩
            · skip
              go_simp
              go_at_call 67
              refine (among_any g _ 3 K0 [-1, 10, 10001] _ C102.out (by omega) NI3_102.out hg102 (by decide) (by decide)).mono ?_
              rintro e p110 ⟨v4, rfl, -, hc110, hs110⟩
              (try go_wp2_with fail)
              refine hK.out _ _ (by (try dsimp only); exact S102.out.trans hs110) (fun hHeld => ?_)
              clear hK K
              (try simp only [Act.put, List.getElem_toArray, List.getElem_cons_zero, List.getElem_cons_succ, List.setIfInBounds_toArray, List.set_cons_zero, List.set_cons_succ])
              have E110 := Lib.hid (blk4_stir hs110 (by omega) E102.out)
              have O110 := Lib.hid (hs110.own O102.out (by omega))
              have C110 := Lib.hid hc110
              have S110 := Lib.hid (S102.out.trans hs110)
              have R110 := Lib.hid (blk4_stir hs110 (by omega) R102.out)
              have NI6_110 := Lib.hid (NI6_102.out.stir hs110 hg93)
              have NI3_110 := Lib.hid (NI3_102.out.stir hs110 hg102)
              clear hc110 hs110
              refine wpAnyH_ready (rs := [1, 7]) (by kernel_rfl) (by simp) ?_
              refine AllReadyH.cons rfl (fun K hK => ?_) (AllReadyH.cons rfl (fun K hK => ?_) (AllReadyH.nil))
              · skip
                have s3 := E110.out.2.2.2.2.2.2.1
                go_simp
                refine hK.out _ _ (by (try dsimp only); exact S110.out) (fun hHeld => ?_)
                clear hK K
                (try simp only [Act.put, List.getElem_toArray, List.getElem_cons_zero, List.getElem_cons_succ, List.setIfInBounds_toArray, List.set_cons_zero, List.set_cons_succ])
                clear s3
                refine wpAnyH_ready (rs := [7]) (by kernel_rfl) (by simp) ?_
                refine AllReadyH.cons rfl (fun K hK => ?_) (AllReadyH.nil)
                go_simp
                go_at_call 67
                refine (among_any g _ 3 (K0 + 2) [0, -501, 2001] _ C110.out (by omega) NI6_110.out hg93 (by decide) (by decide)).mono ?_
                rintro e p112 ⟨v7, rfl, -, hc112, hs112⟩
                (try go_wp2_with fail)
                refine hK.out _ _ (by (try dsimp only); exact S110.out.trans hs112) (fun hHeld => ?_)
                clear hK K
                (try simp only [Act.put, List.getElem_toArray, List.getElem_cons_zero, List.getElem_cons_succ, List.setIfInBounds_toArray, List.set_cons_zero, List.set_cons_succ])
                have E112 := Lib.hid (blk4_stir hs112 (by omega) E110.out)
                have O112 := Lib.hid (hs112.own O110.out (by omega))
                have C112 := Lib.hid hc112
                have S112 := Lib.hid (S110.out.trans hs112)
                have R112 := Lib.hid (blk4_stir hs112 (by omega) R110.out)
                have NI6_112 := Lib.hid (NI6_110.out.stir hs112 hg93)
                have NI3_112 := Lib.hid (NI3_110.out.stir hs112 hg102)
                clear hc112 hs112
                refine wpAnyH_take (i := 8) (v := ?_) rfl (by kernel_rfl) (by kernel_rfl) (by kernel_rfl) (fun _ _ _ h => h) (Or.inl ⟨by kernel_rfl, ?_⟩) (by assumption) ?_
                rotate_left
                focus (intro w' hSw; (try dsimp only at hSw); go_simp; (try with_reducible rfl))
                (try simp only [Act.put, List.getElem_toArray, List.getElem_cons_zero, List.getElem_cons_succ, List.setIfInBounds_toArray, List.set_cons_zero, List.set_cons_succ])
                refine wpAnyH_ready (rs := [9]) (by kernel_rfl) (by simp) ?_
                refine AllReadyH.cons rfl (fun K hK => ?_) (AllReadyH.nil)
                go_simp
                have ka : Kept p112 (p112.alloc (.cells #[.int .i64 v4, .int .i64 v7] 28)) := Kept.alloc (Kept.refl _) _
                refine hK.out _ _ (by (try dsimp only); exact S112.out.alloc _) (fun hHeld => ?_)
                clear hK K
                (try simp only [Act.put, List.getElem_toArray, List.getElem_cons_zero, List.getElem_cons_succ, List.setIfInBounds_toArray, List.set_cons_zero, List.set_cons_succ])
                have E113 := Lib.hid (blk4 ka E112.out)
                have O113 := Lib.hid (own_kept O112.out ka)
                have C113 := Lib.hid (C112.out.kept ka)
                have S113 := Lib.hid (S112.out.alloc (.cells #[.int .i64 v4, .int .i64 v7] 28))
                have R113 := Lib.hid (blk4 ka R112.out)
                have NI6_113 := Lib.hid (NI6_112.out.kept ka)
                have NI3_113 := Lib.hid (NI3_112.out.kept ka)
                have B113 := Lib.hid (heap_alloc_new p112 (.cells #[.int .i64 v4, .int .i64 v7] 28))
                clear ka
                generalize p112.alloc (.cells #[.int .i64 v4, .int .i64 v7] 28) = p113 at *
                refine wpAnyH_ready (rs := [10]) (by kernel_rfl) (by simp) ?_
                refine AllReadyH.cons rfl (fun K hK => ?_) (AllReadyH.nil)
                refine step_append_own1 _ (by rfl) _ _ _ (by rfl) (b + 1) 28 i0 _ 16 Try.underlying24 hi0 hz0 hz1 hz2 rfl _ xs.length _ (by rfl) O113.out _ (v4, v7) (by rfl) B113.out (by unfold maxLen; omega) (by omega) (by have := World.block_lt_of_cell? _ _ E113.out.1; simp at this; omega) ?_
                intro A114 c114 p114 hown114 hgrow114
                have hrow : ∀ q, (Value.slice A xs.length c).ownBlock = some q → b + 1 ≤ q := fun q hq => (O113.out.lt q hq).1
                have hnb : some b ≠ (Value.slice A xs.length c).ownBlock := fun e => by have := hrow b e.symm; omega
                have hnr : some w.heap.size ≠ (Value.slice A xs.length c).ownBlock := fun e => by have := hrow _ e.symm; omega
                have S114 := Lib.hid (S113.out.grown hgrow114 (fun q hq => by have := hrow q hq; omega))
                refine hK.out _ _ (by (try dsimp only); exact S114.out) (fun hHeld => ?_)
                clear hK K
                (try simp only [Act.put, List.getElem_toArray, List.getElem_cons_zero, List.getElem_cons_succ, List.setIfInBounds_toArray, List.set_cons_zero, List.set_cons_succ])
                have E114 := Lib.hid (blk4_grown hgrow114 hnb E113.out)
                have O114 := Lib.hid hown114
                have C114 := Lib.hid (C113.out.grown hgrow114 (fun q hq => by have := hrow q hq; omega))
                have R114 := Lib.hid (blk4_grown hgrow114 hnr R113.out)
                clear hown114 hgrow114 hrow hnb hnr
                refine wpAnyH_ready (rs := [11]) (by kernel_rfl) (by simp) ?_
                refine AllReadyH.cons rfl (fun K hK => ?_) (AllReadyH.nil)
                go_simp
                refine hK.out _ _ (by (try dsimp only); exact hHeld) (fun hHeld => ?_)
                clear hK K
                (try simp only [Act.put, List.getElem_toArray, List.getElem_cons_zero, List.getElem_cons_succ, List.setIfInBounds_toArray, List.set_cons_zero, List.set_cons_succ])
                refine wpAnyH_ready (rs := [12]) (by kernel_rfl) (by simp) ?_
                refine AllReadyH.cons rfl (fun K hK => ?_) (AllReadyH.nil)
                obtain ⟨q0, f0, q1, f1, q2, f2, q3, f3⟩ := E114.out
                go_simp
                have SF := Lib.hid (S114.out.setNew (p := ⟨b, 3, none⟩) (by simp; omega) (.slice A114 (xs.length + 1) c114))
                have hl : (xs ++ [(v4, v7)]).length = xs.length + 1 := by simp
                have FG := Lib.hid (show GS w (p114.setCell ⟨b, 3, none⟩ (.slice A114 (xs.length + 1) c114)) g b ((K0 + 2) + 2) (9) from ⟨⟨i, z, nm, A114, c114, xs ++ [(v4, v7)], hnm, by omega, by rw [hl]; simp [go_sem, *], by rw [hl, List.flatMap_append]; exact ownsRow_setCell_below O114.out (by simp) _⟩, C114.out.set (by simp; omega) _, SF.out, blk4_set _ (by simp; omega) _ R114.out⟩)
                refine hK.out _ _ (by (try dsimp only); exact SF.out) (fun hHeld => ?_)
                clear hK K
                (try simp only [Act.put, List.getElem_toArray, List.getElem_cons_zero, List.getElem_cons_succ, List.setIfInBounds_toArray, List.set_cons_zero, List.set_cons_succ])
                clear q0 f0 q1 f1 q2 f2 q3 f3
                refine wpAnyH_done (by kernel_rfl) ?_ _
                go_upto_region 23 with fail
                obtain ⟨⟨i, z, nm, A, c, xs, hnm, hxl, ⟨q0, f0, q1, f1, q2, f2, q3, f3⟩, ho⟩, hcu, hsu, ⟨y0, l0, y1, l1, y2, l2, y3, l3⟩⟩ := FG.out
                have OU := Lib.hid ho
                have CU := Lib.hid hcu
                have SU := Lib.hid hsu
                clear ho hcu hsu
                go_wp2_with fail
                exact bodyPost_ret (v := .agg #[.int .i64 i, .string nm, .int .i64 z, .slice A xs.length c]) (by simp [results, Try.results66, go_sem, *]) rfl ⟨i, z, nm, _, xs, rfl, hnm, by omega, own_base (ownsRow_setCell_below (ownsRow_setCell_below (ownsRow_setCell_below (ownsRow_setCell_below OU.out (by first | (simp; done) | (simp; omega)) _) (by first | (simp; done) | (simp; omega)) _) (by first | (simp; done) | (simp; omega)) _) (by first | (simp; done) | (simp; omega)) _) (by omega), ((((CU.out.set (by first | (simp; done) | (simp; omega)) _).set (by first | (simp; done) | (simp; omega)) _).set (by first | (simp; done) | (simp; omega)) _).set (by first | (simp; done) | (simp; omega)) _).mono (by omega), (((SU.out.setNew (by first | (simp; done) | (simp; omega)) _).setNew (by first | (simp; done) | (simp; omega)) _).setNew (by first | (simp; done) | (simp; omega)) _).setNew (by first | (simp; done) | (simp; omega)) _⟩
              · skip
                go_simp
                go_at_call 67
                refine (among_any g _ 3 (K0 + 2) [0, -501, 2001] _ C110.out (by omega) NI6_110.out hg93 (by decide) (by decide)).mono ?_
                rintro e p117 ⟨v7, rfl, -, hc117, hs117⟩
                (try go_wp2_with fail)
                refine hK.out _ _ (by (try dsimp only); exact S110.out.trans hs117) (fun hHeld => ?_)
                clear hK K
                (try simp only [Act.put, List.getElem_toArray, List.getElem_cons_zero, List.getElem_cons_succ, List.setIfInBounds_toArray, List.set_cons_zero, List.set_cons_succ])
                have E117 := Lib.hid (blk4_stir hs117 (by omega) E110.out)
                have O117 := Lib.hid (hs117.own O110.out (by omega))
                have C117 := Lib.hid hc117
                have S117 := Lib.hid (S110.out.trans hs117)
                have R117 := Lib.hid (blk4_stir hs117 (by omega) R110.out)
                have NI6_117 := Lib.hid (NI6_110.out.stir hs117 hg93)
                have NI3_117 := Lib.hid (NI3_110.out.stir hs117 hg102)
                clear hc117 hs117
                refine wpAnyH_take (i := 8) (v := ?_) rfl (by kernel_rfl) (by kernel_rfl) (by kernel_rfl) (fun _ _ _ h => h) (Or.inl ⟨by kernel_rfl, ?_⟩) (by assumption) ?_
                rotate_left
                focus (intro w' hSw; (try dsimp only at hSw); go_simp; (try with_reducible rfl))
                (try simp only [Act.put, List.getElem_toArray, List.getElem_cons_zero, List.getElem_cons_succ, List.setIfInBounds_toArray, List.set_cons_zero, List.set_cons_succ])
                refine wpAnyH_ready (rs := [1, 9]) (by kernel_rfl) (by simp) ?_
                refine AllReadyH.cons rfl (fun K hK => ?_) (AllReadyH.cons rfl (fun K hK => ?_) (AllReadyH.nil))
                · skip
                  have s3 := E117.out.2.2.2.2.2.2.1
                  go_simp
                  refine hK.out _ _ (by (try dsimp only); exact S117.out) (fun hHeld => ?_)
                  clear hK K
                  (try simp only [Act.put, List.getElem_toArray, List.getElem_cons_zero, List.getElem_cons_succ, List.setIfInBounds_toArray, List.set_cons_zero, List.set_cons_succ])
                  clear s3
                  refine wpAnyH_ready (rs := [9]) (by kernel_rfl) (by simp) ?_
                  refine AllReadyH.cons rfl (fun K hK => ?_) (AllReadyH.nil)
                  go_simp
                  have ka : Kept p117 (p117.alloc (.cells #[.int .i64 v4, .int .i64 v7] 28)) := Kept.alloc (Kept.refl _) _
                  refine hK.out _ _ (by (try dsimp only); exact S117.out.alloc _) (fun hHeld => ?_)
                  clear hK K
                  (try simp only [Act.put, List.getElem_toArray, List.getElem_cons_zero, List.getElem_cons_succ, List.setIfInBounds_toArray, List.set_cons_zero, List.set_cons_succ])
                  have E119 := Lib.hid (blk4 ka E117.out)
                  have O119 := Lib.hid (own_kept O117.out ka)
                  have C119 := Lib.hid (C117.out.kept ka)
                  have S119 := Lib.hid (S117.out.alloc (.cells #[.int .i64 v4, .int .i64 v7] 28))
                  have R119 := Lib.hid (blk4 ka R117.out)
                  have NI6_119 := Lib.hid (NI6_117.out.kept ka)
                  have NI3_119 := Lib.hid (NI3_117.out.kept ka)
                  have B119 := Lib.hid (heap_alloc_new p117 (.cells #[.int .i64 v4, .int .i64 v7] 28))
                  clear ka
                  generalize p117.alloc (.cells #[.int .i64 v4, .int .i64 v7] 28) = p119 at *
                  refine wpAnyH_ready (rs := [10]) (by kernel_rfl) (by simp) ?_
                  refine AllReadyH.cons rfl (fun K hK => ?_) (AllReadyH.nil)
                  refine step_append_own1 _ (by rfl) _ _ _ (by rfl) (b + 1) 28 i0 _ 16 Try.underlying24 hi0 hz0 hz1 hz2 rfl _ xs.length _ (by rfl) O119.out _ (v4, v7) (by rfl) B119.out (by unfold maxLen; omega) (by omega) (by have := World.block_lt_of_cell? _ _ E119.out.1; simp at this; omega) ?_
                  intro A120 c120 p120 hown120 hgrow120
                  have hrow : ∀ q, (Value.slice A xs.length c).ownBlock = some q → b + 1 ≤ q := fun q hq => (O119.out.lt q hq).1
                  have hnb : some b ≠ (Value.slice A xs.length c).ownBlock := fun e => by have := hrow b e.symm; omega
                  have hnr : some w.heap.size ≠ (Value.slice A xs.length c).ownBlock := fun e => by have := hrow _ e.symm; omega
                  have S120 := Lib.hid (S119.out.grown hgrow120 (fun q hq => by have := hrow q hq; omega))
                  refine hK.out _ _ (by (try dsimp only); exact S120.out) (fun hHeld => ?_)
                  clear hK K
                  (try simp only [Act.put, List.getElem_toArray, List.getElem_cons_zero, List.getElem_cons_succ, List.setIfInBounds_toArray, List.set_cons_zero, List.set_cons_succ])
                  have E120 := Lib.hid (blk4_grown hgrow120 hnb E119.out)
                  have O120 := Lib.hid hown120
                  have C120 := Lib.hid (C119.out.grown hgrow120 (fun q hq => by have := hrow q hq; omega))
                  have R120 := Lib.hid (blk4_grown hgrow120 hnr R119.out)
                  clear hown120 hgrow120 hrow hnb hnr
                  refine wpAnyH_ready (rs := [11]) (by kernel_rfl) (by simp) ?_
                  refine AllReadyH.cons rfl (fun K hK => ?_) (AllReadyH.nil)
                  go_simp
                  refine hK.out _ _ (by (try dsimp only); exact hHeld) (fun hHeld => ?_)
                  clear hK K
                  (try simp only [Act.put, List.getElem_toArray, List.getElem_cons_zero, List.getElem_cons_succ, List.setIfInBounds_toArray, List.set_cons_zero, List.set_cons_succ])
                  refine wpAnyH_ready (rs := [12]) (by kernel_rfl) (by simp) ?_
                  refine AllReadyH.cons rfl (fun K hK => ?_) (AllReadyH.nil)
                  obtain ⟨q0, f0, q1, f1, q2, f2, q3, f3⟩ := E120.out
                  go_simp
                  have SF := Lib.hid (S120.out.setNew (p := ⟨b, 3, none⟩) (by simp; omega) (.slice A120 (xs.length + 1) c120))
                  have hl : (xs ++ [(v4, v7)]).length = xs.length + 1 := by simp
                  have FG := Lib.hid (show GS w (p120.setCell ⟨b, 3, none⟩ (.slice A120 (xs.length + 1) c120)) g b ((K0 + 2) + 2) (9) from ⟨⟨i, z, nm, A120, c120, xs ++ [(v4, v7)], hnm, by omega, by rw [hl]; simp [go_sem, *], by rw [hl, List.flatMap_append]; exact ownsRow_setCell_below O120.out (by simp) _⟩, C120.out.set (by simp; omega) _, SF.out, blk4_set _ (by simp; omega) _ R120.out⟩)
                  refine hK.out _ _ (by (try dsimp only); exact SF.out) (fun hHeld => ?_)
                  clear hK K
                  (try simp only [Act.put, List.getElem_toArray, List.getElem_cons_zero, List.getElem_cons_succ, List.setIfInBounds_toArray, List.set_cons_zero, List.set_cons_succ])
                  clear q0 f0 q1 f1 q2 f2 q3 f3
                  refine wpAnyH_done (by kernel_rfl) ?_ _
                  go_upto_region 23 with fail
                  obtain ⟨⟨i, z, nm, A, c, xs, hnm, hxl, ⟨q0, f0, q1, f1, q2, f2, q3, f3⟩, ho⟩, hcu, hsu, ⟨y0, l0, y1, l1, y2, l2, y3, l3⟩⟩ := FG.out
                  have OU := Lib.hid ho
                  have CU := Lib.hid hcu
                  have SU := Lib.hid hsu
                  clear ho hcu hsu
                  go_wp2_with fail
                  exact bodyPost_ret (v := .agg #[.int .i64 i, .string nm, .int .i64 z, .slice A xs.length c]) (by simp [results, Try.results66, go_sem, *]) rfl ⟨i, z, nm, _, xs, rfl, hnm, by omega, own_base (ownsRow_setCell_below (ownsRow_setCell_below (ownsRow_setCell_below (ownsRow_setCell_below OU.out (by first | (simp; done) | (simp; omega)) _) (by first | (simp; done) | (simp; omega)) _) (by first | (simp; done) | (simp; omega)) _) (by first | (simp; done) | (simp; omega)) _) (by omega), ((((CU.out.set (by first | (simp; done) | (simp; omega)) _).set (by first | (simp; done) | (simp; omega)) _).set (by first | (simp; done) | (simp; omega)) _).set (by first | (simp; done) | (simp; omega)) _).mono (by omega), (((SU.out.setNew (by first | (simp; done) | (simp; omega)) _).setNew (by first | (simp; done) | (simp; omega)) _).setNew (by first | (simp; done) | (simp; omega)) _).setNew (by first | (simp; done) | (simp; omega)) _⟩
                · skip
                  go_simp
                  have ka : Kept p117 (p117.alloc (.cells #[.int .i64 v4, .int .i64 v7] 28)) := Kept.alloc (Kept.refl _) _
                  refine hK.out _ _ (by (try dsimp only); exact S117.out.alloc _) (fun hHeld => ?_)
                  clear hK K
                  (try simp only [Act.put, List.getElem_toArray, List.getElem_cons_zero, List.getElem_cons_succ, List.setIfInBounds_toArray, List.set_cons_zero, List.set_cons_succ])
                  have E123 := Lib.hid (blk4 ka E117.out)
                  have O123 := Lib.hid (own_kept O117.out ka)
                  have C123 := Lib.hid (C117.out.kept ka)
                  have S123 := Lib.hid (S117.out.alloc (.cells #[.int .i64 v4, .int .i64 v7] 28))
                  have R123 := Lib.hid (blk4 ka R117.out)
                  have NI6_123 := Lib.hid (NI6_117.out.kept ka)
                  have NI3_123 := Lib.hid (NI3_117.out.kept ka)
                  have B123 := Lib.hid (heap_alloc_new p117 (.cells #[.int .i64 v4, .int .i64 v7] 28))
                  clear ka
                  generalize p117.alloc (.cells #[.int .i64 v4, .int .i64 v7] 28) = p123 at *
                  refine wpAnyH_ready (rs := [1]) (by kernel_rfl) (by simp) ?_
                  refine AllReadyH.cons rfl (fun K hK => ?_) (AllReadyH.nil)
                  have s3 := E123.out.2.2.2.2.2.2.1
                  go_simp
                  refine hK.out _ _ (by (try dsimp only); exact S123.out) (fun hHeld => ?_)
                  clear hK K
                  (try simp only [Act.put, List.getElem_toArray, List.getElem_cons_zero, List.getElem_cons_succ, List.setIfInBounds_toArray, List.set_cons_zero, List.set_cons_succ])
                  clear s3
                  refine wpAnyH_ready (rs := [10]) (by kernel_rfl) (by simp) ?_
                  refine AllReadyH.cons rfl (fun K hK => ?_) (AllReadyH.nil)
                  refine step_append_own1 _ (by rfl) _ _ _ (by rfl) (b + 1) 28 i0 _ 16 Try.underlying24 hi0 hz0 hz1 hz2 rfl _ xs.length _ (by rfl) O123.out _ (v4, v7) (by rfl) B123.out (by unfold maxLen; omega) (by omega) (by have := World.block_lt_of_cell? _ _ E123.out.1; simp at this; omega) ?_
                  intro A125 c125 p125 hown125 hgrow125
                  have hrow : ∀ q, (Value.slice A xs.length c).ownBlock = some q → b + 1 ≤ q := fun q hq => (O123.out.lt q hq).1
                  have hnb : some b ≠ (Value.slice A xs.length c).ownBlock := fun e => by have := hrow b e.symm; omega
                  have hnr : some w.heap.size ≠ (Value.slice A xs.length c).ownBlock := fun e => by have := hrow _ e.symm; omega
                  have S125 := Lib.hid (S123.out.grown hgrow125 (fun q hq => by have := hrow q hq; omega))
                  refine hK.out _ _ (by (try dsimp only); exact S125.out) (fun hHeld => ?_)
                  clear hK K
                  (try simp only [Act.put, List.getElem_toArray, List.getElem_cons_zero, List.getElem_cons_succ, List.setIfInBounds_toArray, List.set_cons_zero, List.set_cons_succ])
                  have E125 := Lib.hid (blk4_grown hgrow125 hnb E123.out)
                  have O125 := Lib.hid hown125
                  have C125 := Lib.hid (C123.out.grown hgrow125 (fun q hq => by have := hrow q hq; omega))
                  have R125 := Lib.hid (blk4_grown hgrow125 hnr R123.out)
                  clear hown125 hgrow125 hrow hnb hnr
                  refine wpAnyH_ready (rs := [11]) (by kernel_rfl) (by simp) ?_
                  refine AllReadyH.cons rfl (fun K hK => ?_) (AllReadyH.nil)
                  go_simp
                  refine hK.out _ _ (by (try dsimp only); exact hHeld) (fun hHeld => ?_)
                  clear hK K
                  (try simp only [Act.put, List.getElem_toArray, List.getElem_cons_zero, List.getElem_cons_succ, List.setIfInBounds_toArray, List.set_cons_zero, List.set_cons_succ])
                  refine wpAnyH_ready (rs := [12]) (by kernel_rfl) (by simp) ?_
                  refine AllReadyH.cons rfl (fun K hK => ?_) (AllReadyH.nil)
                  obtain ⟨q0, f0, q1, f1, q2, f2, q3, f3⟩ := E125.out
                  go_simp
                  have SF := Lib.hid (S125.out.setNew (p := ⟨b, 3, none⟩) (by simp; omega) (.slice A125 (xs.length + 1) c125))
                  have hl : (xs ++ [(v4, v7)]).length = xs.length + 1 := by simp
                  have FG := Lib.hid (show GS w (p125.setCell ⟨b, 3, none⟩ (.slice A125 (xs.length + 1) c125)) g b ((K0 + 2) + 2) (9) from ⟨⟨i, z, nm, A125, c125, xs ++ [(v4, v7)], hnm, by omega, by rw [hl]; simp [go_sem, *], by rw [hl, List.flatMap_append]; exact ownsRow_setCell_below O125.out (by simp) _⟩, C125.out.set (by simp; omega) _, SF.out, blk4_set _ (by simp; omega) _ R125.out⟩)
                  refine hK.out _ _ (by (try dsimp only); exact SF.out) (fun hHeld => ?_)
                  clear hK K
                  (try simp only [Act.put, List.getElem_toArray, List.getElem_cons_zero, List.getElem_cons_succ, List.setIfInBounds_toArray, List.set_cons_zero, List.set_cons_succ])
                  clear q0 f0 q1 f1 q2 f2 q3 f3
                  refine wpAnyH_done (by kernel_rfl) ?_ _
                  go_upto_region 23 with fail
                  obtain ⟨⟨i, z, nm, A, c, xs, hnm, hxl, ⟨q0, f0, q1, f1, q2, f2, q3, f3⟩, ho⟩, hcu, hsu, ⟨y0, l0, y1, l1, y2, l2, y3, l3⟩⟩ := FG.out
                  have OU := Lib.hid ho
                  have CU := Lib.hid hcu
                  have SU := Lib.hid hsu
                  clear ho hcu hsu
                  go_wp2_with fail
                  exact bodyPost_ret (v := .agg #[.int .i64 i, .string nm, .int .i64 z, .slice A xs.length c]) (by simp [results, Try.results66, go_sem, *]) rfl ⟨i, z, nm, _, xs, rfl, hnm, by omega, own_base (ownsRow_setCell_below (ownsRow_setCell_below (ownsRow_setCell_below (ownsRow_setCell_below OU.out (by first | (simp; done) | (simp; omega)) _) (by first | (simp; done) | (simp; omega)) _) (by first | (simp; done) | (simp; omega)) _) (by first | (simp; done) | (simp; omega)) _) (by omega), ((((CU.out.set (by first | (simp; done) | (simp; omega)) _).set (by first | (simp; done) | (simp; omega)) _).set (by first | (simp; done) | (simp; omega)) _).set (by first | (simp; done) | (simp; omega)) _).mono (by omega), (((SU.out.setNew (by first | (simp; done) | (simp; omega)) _).setNew (by first | (simp; done) | (simp; omega)) _).setNew (by first | (simp; done) | (simp; omega)) _).setNew (by first | (simp; done) | (simp; omega)) _⟩
      have t3 : (x7 == 3) = false := by simp [e3]
      by_cases e4 : x7 = 4
      · have t4 : (x7 == 4) = true := by simp [e4]
        clear e0 e1 e2 e3 e4
        obtain ⟨⟨i, z, nm, A, c, xs, hnm, hxl, he, ho⟩, hcu, hsu, hre⟩ := G7.out
        have EA := Lib.hid (blk4 (Kept.alloc (Kept.refl w7) (.cells #[] 28)) he)
        have OA := Lib.hid (World.ownsRow_lit (base := b + 1) (e := 28) (size := 2) w7 #[] 0 (by have := World.block_lt_of_cell? _ _ he.1; simp at this; omega) (by simp [maxLen]) rfl)
        have CA := Lib.hid (hcu.kept (Kept.alloc (Kept.refl w7) (.cells #[] 28)))
        have SA := Lib.hid (hsu.alloc (.cells #[] 28))
        have RA := Lib.hid (blk4 (Kept.alloc (Kept.refl w7) (.cells #[] 28)) hre)
        obtain ⟨q0, f0, q1, f1, q2, f2, q3, f3⟩ := EA.out
        clear he ho hcu hsu hre
        go_upto_region 19 with fail
        have GA := Lib.hid (show GS w ((w7.alloc (.cells #[] 28)).setCell ⟨b, 3, none⟩ (.slice (some ⟨w7.heap.size, 0, none⟩) 0 0)) g b (k + 50) 0 from
          ⟨⟨i, z, nm, some ⟨w7.heap.size, 0, none⟩, 0, [], hnm, by simp, by simp [go_sem, *], ownsRow_setCell_below OA.out (by simp) _⟩, CA.out.set (p := ⟨b, 3, none⟩) (by simp; omega) _, SA.out.setNew (by simp; omega) _, blk4_set _ (by simp; omega) _ RA.out⟩)
        clear q0 f0 q1 f1 q2 f2 q3 f3 EA OA CA SA RA G7 hnm hxl
        generalize (w7.alloc (.cells #[] 28)).setCell ⟨b, 3, none⟩ (.slice (some ⟨w7.heap.size, 0, none⟩) 0 0) = w8 at *
        clear i z nm A c xs
        go_wp2_with fail
        go_loopw [8] (fun n wr => ∃ q : Nat, q ≤ 16 ∧ n = .int .i64 (q : Int) ∧ GS w wr g b (k + 50 + 2 * (q : Int)) q) (fun n _ => 17 - (intOf n).toNat)
        case atStart => exact ⟨0, by omega, rfl, GA.out.mono (by omega) (by omega)⟩
        case round =>
          clear GA
          obtain ⟨q, hq, rfl, hgs⟩ := hrel
          have GR := Lib.hid hgs
          clear hgs
          go_wp2_with fail
          refine (pick_any g (k + 50 + 2 * (q : Int)) 2 _ GR.out.cur (by omega) (by omega)).mono ?_
          rintro e w9 ⟨y9, rfl, ⟨y90, y91⟩, hc9, hs9⟩
          have GY := Lib.hid (GR.out.step hg hbw hs9 hc9)
          clear hc9 hs9 GR
          by_cases hlt : (q : Int) < 15 + y9
          · obtain ⟨⟨i, z, nm, A, c, xs, hnm, hxl, he, ho⟩, hcu, hsu, hre⟩ := GY.out
            have kr : Kept w9 (w9.alloc (.cells #[.int .i64 (10 * (q : Int)), .int .i64 ((q : Int) % 4)] 28)) := Kept.alloc (Kept.refl _) _
            have EU := Lib.hid he
            have OU := Lib.hid (own_kept ho kr)
            have EK := Lib.hid (blk4 kr he)
            have CK := Lib.hid (hcu.kept kr)
            have SK := Lib.hid (hsu.alloc (.cells #[.int .i64 (10 * (q : Int)), .int .i64 ((q : Int) % 4)] 28))
            have RK := Lib.hid (blk4 kr hre)
            obtain ⟨q0, f0, q1, f1, q2, f2, q3, f3⟩ := EU.out
            clear he ho hcu hsu hre kr GY
            have hrow : ∀ j, (Value.slice A xs.length c).ownBlock = some j → b + 1 ≤ j := fun j hj => (OU.out.lt j hj).1
            have HROW := Lib.hid hrow
            have hnb : some b ≠ (Value.slice A xs.length c).ownBlock := fun e => by have := hrow b e.symm; omega
            have hnr : some w.heap.size ≠ (Value.slice A xs.length c).ownBlock := fun e => by have := hrow _ e.symm; omega
            have HNB := Lib.hid hnb
            have HNR := Lib.hid hnr
            have hb9 : b < w9.heap.size := by have h := World.block_lt_of_cell? _ _ q0; simpa using h
            clear hrow hnb hnr
            go_wp2_with (at_builtin; refine wpList_append_own_at _ rfl (.tmp 87) (.tmp 93) _ rfl (b + 1) 28 i0 _ 2 16 Try.underlying24 hi0 hz0 hz1 hz2 rfl (by decide) _ xs.length _ rfl OU.out ⟨w9.heap.size, 0, none⟩ 1 1 [.int .i64 (10 * (q : Int)), .int .i64 ((q : Int) % 4)] rfl rfl (World.news_of_block (cs := #[.int .i64 (10 * (q : Int)), .int .i64 ((q : Int) % 4)]) (heap_alloc_new w9 _)) (by simp [Value.oneCell']) (by unfold maxLen; omega) (by omega) (by simp; omega) ?_; intro v1 wn hown1 hgrow1 _ _; obtain ⟨A9, c9, rfl, -, -, -⟩ := own_form hown1; (have E9 := Lib.hid (blk4_grown hgrow1 HNB.out EK.out)); clear q0 f0 q1 f1 q2 f2 q3 f3; obtain ⟨q0, f0, q1, f1, q2, f2, q3, f3⟩ := E9.out)
            have hl : (xs ++ [(10 * (q : Int), (q : Int) % 4)]).length = xs.length + 1 := by simp
            have GN := Lib.hid (show GS w (wn.setCell ⟨b, 3, none⟩ (.slice A9 (xs.length + 1) c9)) g b (k + 50 + 2 * (q : Int) + 2) (q + 1) from
              ⟨⟨i, z, nm, A9, c9, xs ++ [(10 * (q : Int), (q : Int) % 4)], hnm, by omega, by rw [hl]; simp [go_sem, *], by rw [hl, List.flatMap_append]; exact ownsRow_setCell_below hown1 (by simp) _⟩,
                (CK.out.grown hgrow1 (fun j hj => by have := HROW.out j hj; omega)).set (p := ⟨b, 3, none⟩) (by simp; omega) _, (SK.out.grown hgrow1 (fun j hj => by have := HROW.out j hj; omega)).setNew (by simp; omega) _, blk4_set _ (by simp; omega) _ (blk4_grown hgrow1 HNR.out RK.out)⟩)
            go_roundw
            case rel => exact ⟨q + 1, by omega, by go_num, GN.out.mono (by omega) (Nat.le_refl _)⟩
            case measure => simp [intOf]; omega
          · have G9 := Lib.hid (GY.out.mono (k' := k + 150) (m' := 40) (by omega) (by omega))
            clear GY
            obtain ⟨⟨i, z, nm, A, c, xs, hnm, hxl, ⟨q0, f0, q1, f1, q2, f2, q3, f3⟩, ho⟩, hcu, hsu, ⟨y0, l0, y1, l1, y2, l2, y3, l3⟩⟩ := G9.out
            have OU := Lib.hid ho
            have CU := Lib.hid hcu
            have SU := Lib.hid hsu
            clear ho hcu hsu
            go_wp2_with fail
            exact bodyPost_ret (v := .agg #[.int .i64 i, .string nm, .int .i64 z, .slice A xs.length c]) (by simp [results, Try.results66, go_sem, *]) rfl ⟨i, z, nm, _, xs, rfl, hnm, by omega, own_base (ownsRow_setCell_below (ownsRow_setCell_below (ownsRow_setCell_below (ownsRow_setCell_below OU.out (by first | (simp; done) | (simp; omega)) _) (by first | (simp; done) | (simp; omega)) _) (by first | (simp; done) | (simp; omega)) _) (by first | (simp; done) | (simp; omega)) _) (by omega), ((((CU.out.set (by first | (simp; done) | (simp; omega)) _).set (by first | (simp; done) | (simp; omega)) _).set (by first | (simp; done) | (simp; omega)) _).set (by first | (simp; done) | (simp; omega)) _).mono (by omega), (((SU.out.setNew (by first | (simp; done) | (simp; omega)) _).setNew (by first | (simp; done) | (simp; omega)) _).setNew (by first | (simp; done) | (simp; omega)) _).setNew (by first | (simp; done) | (simp; omega)) _⟩
      · have t4 : (x7 == 4) = false := by simp [e4]
        clear e0 e1 e2 e3 e4
        have G9 := Lib.hid (G7.out)
        clear G7
        obtain ⟨⟨i, z, nm, A, c, xs, hnm, hxl, ⟨q0, f0, q1, f1, q2, f2, q3, f3⟩, ho⟩, hcu, hsu, ⟨y0, l0, y1, l1, y2, l2, y3, l3⟩⟩ := G9.out
        have OU := Lib.hid ho
        have CU := Lib.hid hcu
        have SU := Lib.hid hsu
        clear ho hcu hsu
        go_wp2_with fail
        exact bodyPost_ret (v := .agg #[.int .i64 i, .string nm, .int .i64 z, .slice A xs.length c]) (by simp [results, Try.results66, go_sem, *]) rfl ⟨i, z, nm, _, xs, rfl, hnm, by omega, own_base (ownsRow_setCell_below (ownsRow_setCell_below (ownsRow_setCell_below (ownsRow_setCell_below OU.out (by first | (simp; done) | (simp; omega)) _) (by first | (simp; done) | (simp; omega)) _) (by first | (simp; done) | (simp; omega)) _) (by first | (simp; done) | (simp; omega)) _) (by omega), ((((CU.out.set (by first | (simp; done) | (simp; omega)) _).set (by first | (simp; done) | (simp; omega)) _).set (by first | (simp; done) | (simp; omega)) _).set (by first | (simp; done) | (simp; omega)) _).mono (by omega), (((SU.out.setNew (by first | (simp; done) | (simp; omega)) _).setNew (by first | (simp; done) | (simp; omega)) _).setNew (by first | (simp; done) | (simp; omega)) _).setNew (by first | (simp; done) | (simp; omega)) _⟩
end Go.Proofs.Ytopdnhlolfehcaa
