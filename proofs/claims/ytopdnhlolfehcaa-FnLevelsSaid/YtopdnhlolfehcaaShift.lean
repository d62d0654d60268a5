/-
  Contracts of newGauge, asGauge and ShiftZero, the program's and the reference's.
  Conditions: none.
-/
import Derived.Test.YtopdnhlolfehcaaHighW
import Derived.Deep.Upon
import Derived.Laws.OwnMore
import Derived.BigRegion
namespace Go.Proofs.Ytopdnhlolfehcaa
open Go.ChangeShapes Go.WideShapes Go.ChangeAt Go.RowKit
set_option linter.unusedVariables false
set_option linter.unusedSimpArgs false

theorem flat_pair : ∀ (xs : List (Int × Int)) (j : Nat) (u : Value), (xs.flatMap pairC)[j]? = some u → ∃ i, i < xs.length ∧ ((j = i * 2 ∧ u = .int .i64 (P1 xs i)) ∨ (j = i * 2 + 1 ∧ u = .int .i64 (P2 xs i)))
  | [], j, u, h => by simp at h
  | x :: xs, 0, u, h => ⟨0, by simp, .inl ⟨rfl, by simpa [List.flatMap_cons, pairC, P1] using h.symm⟩⟩
  | x :: xs, 1, u, h => ⟨0, by simp, .inr ⟨rfl, by simpa [List.flatMap_cons, pairC, P2] using h.symm⟩⟩
  | x :: xs, j + 2, u, h => by
    obtain ⟨i, hi, hx⟩ := flat_pair xs j u (by simpa [List.flatMap_cons, pairC] using h)
    refine ⟨i + 1, by simp; omega, ?_⟩
    rcases hx with ⟨rfl, rfl⟩ | ⟨rfl, rfl⟩
    · exact .inl ⟨by omega, by simp [P1]⟩
    · exact .inr ⟨by omega, by simp [P2]⟩
theorem flat_one (xs : List (Int × Int)) : ∀ u ∈ xs.flatMap pairC, u.oneCell' = true := by
  intro u hu
  obtain ⟨p, -, hp⟩ := List.mem_flatMap.1 hu
  simp only [pairC, List.mem_cons, List.not_mem_nil, or_false] at hp
  rcases hp with rfl | rfl <;> rfl
theorem flat_len (xs : List (Int × Int)) : (xs.flatMap pairC).length = xs.length * 2 := by
  induction xs with
  | nil => rfl
  | cons x xs ih => rw [List.flatMap_cons, List.length_append, ih]; simp [pairC]; omega
/-- append(own, list...) where the list lies anywhere. -/
theorem wpList_append_list {P : Program} (w : World) {ops : Array Oper} {rest : List Oper} {o : Oper} {a : Act} {Q : Exit → Act → World → Prop} (hgd : o.guard = none) (s x : Operand) (t : TypeId)
    (ho : o.op = .call { callee := .builtin .append, args := #[s, x], argTypes := #[t, t] })
    (base : Nat) (e : TypeId) (i : TypeInfo) (z : Value) (bytes : Nat) (ht : P.underlying t = some (.slice e)) (hi : P.info? e = some i) (hz : i.zero = some z)
    (hsize : i.size = 2) (hby : i.bytes = bytes) (hzs : z.cells.size = 2)
    (v : Value) (n : Nat) (zs : List Value) (hs : a.eval s = v) (hown : w.ownsRow base e 2 v n zs)
    (u : Value) (xs : List (Int × Int)) (hx : a.eval x = u) (hL : Lies w 2 pairC u xs)
    (h63 : n + xs.length ≤ maxLen) (hbytes : (n + xs.length) * bytes ≤ 140737488355328) (hbase : base ≤ w.heap.size)
    (h : ∀ v' w', w'.ownsRow base e 2 v' (n + xs.length) (zs ++ xs.flatMap pairC) → w.grownBy w' v.ownBlock → wpList P ops Q rest (a.put o.dst v') w') : wpList P ops Q (o :: rest) a w := by
  obtain ⟨A, c, rfl, hlc, hcm, hA⟩ := lies_pairs hL
  by_cases h0 : 0 < xs.length
  · obtain ⟨b, off, rfl, hc⟩ := hA h0
    refine wpList_append_own_at w hgd s x t ho base e i z 2 bytes ht hi hz hsize hby hzs (by decide) v n zs hs hown ⟨b, off, none⟩ xs.length c (xs.flatMap pairC) hx (flat_len xs) (fun j u hu => ?_) (flat_one xs) h63 hbytes hbase (fun v' w' h1 h2 _ _ => h v' w' h1 h2)
    obtain ⟨i, hi, hx⟩ := flat_pair xs j u hu
    rcases hx with ⟨rfl, rfl⟩ | ⟨rfl, rfl⟩
    · simpa [Addr.add_lit] using (hc i hi).1
    · simpa [Addr.add_lit, Nat.add_assoc] using (hc i hi).2
  · have e0 : xs = [] := List.length_eq_zero_iff.1 (by omega)
    subst e0
    obtain ⟨B, c', rfl, hle, -, -⟩ := own_form hown
    have hS : Src P i.size t (.slice A 0 c) 0 [] w := by
      cases A with
      | none => exact Src.ofNil w ht c
      | some ad => exact Src.ofSlice w ht ad 0 c [] (by simp) (by simp) (by simp)
    have hr := run_append_nothing w t t o.type e i ht hi B n c' hle _ hS
    refine wpList_plain hgd fun K hK => ?_
    unfold Oper.wp execOp
    simp only [List.length_nil] at hx
    simp only [ho, resolve, invoke, builtin, Sem.run_bind, Sem.run_pure, Result.andThen_ok, List.map_toArray, List.map_cons, List.map_nil, hs, hx, hr]
    exact hK _ _ (h _ _ (by simpa using hown) (grown_of_kept (Kept.refl w)))
set_option maxRecDepth 100000 in
set_option maxHeartbeats 2000000 in
theorem newGauge_any (id : Int) (nm : ByteArray) (z : Int) (v : Value) (xs : List (Int × Int)) (hn : xs.length ≤ 1048576) (w : World) (hL : Lies w 2 pairC v xs) : Calls Try.prog 69 #[.agg #[.int .i64 id, .string nm, .int .i64 z, v]] w fun e w' => ∃ u, e = .returned (.agg #[.int .i64 id, .string nm, .int .i64 z, u]) ∧ w'.ownsRow w.heap.size 28 2 u xs.length (xs.flatMap pairC) ∧ Kept w w' := by
  obtain ⟨i0, hi0, hz0, hz1, hz2⟩ := info_parts infoReading
  have HL := Lib.hid hL
  obtain ⟨A, c, rfl, hlc, hcm, hA⟩ := hL
  clear hA
  go_enter Try.func69, Try.ntmps69
  have HO : Hid (∀ (W : World) (n : Nat), W.heap.size = n → (W.alloc (Obj.cells #[] 28)).ownsRow n 28 2 (.slice (some ⟨n, 0, none⟩) 0 0) 0 []) := Lib.hid (fun W n e => by subst e; exact World.ownsRow_lit (e := 28) (size := 2) W #[] 0 (Nat.le_refl _) (by simp [maxLen]) rfl)
  go_wp2_with (
    at_builtin
    refine wpList_append_list _ rfl (.tmp 3) (.tmp 5) _ rfl (w.heap.size + 1 + 1) 28 i0 _ 16 Try.underlying24 hi0 hz0 hz1 hz2 rfl _ 0 [] rfl (HO.out _ _ (by simp)) _ xs rfl (HL.out.kept (by (repeat (first | exact Kept.refl _ | assumption | refine Kept.alloc ?_ _ | refine Kept.drew ?_ | refine Kept.drewN ?_ _ | refine Kept.setCell ?_ (by first | (simp; done) | (simp; omega) | omega | exact Kept.size (by (repeat (first | exact Kept.refl _ | assumption | refine Kept.alloc ?_ _ | refine Kept.drew ?_ | refine Kept.drewN ?_ _ | refine Kept.trans ?_ (by assumption))))) _ | refine Kept.trans ?_ (by assumption))))) (by unfold maxLen; omega) (by omega) (by first | (simp; done) | (simp; omega)) ?_
    intro v1 w1 hown1 hgrow1
    have hk : Kept ((w.alloc (.cells #[.int .i64 id, .string nm, .int .i64 z, .slice A xs.length c] 26)).alloc (.cells #[.int .i64 0, .string { data := #[] }, .int .i64 0, .slice none 0 0] 26)) w1 := Kept.of_grown (Kept.alloc (Kept.refl _) _) hgrow1 (Or.inr rfl) (by simp)
    rw [Nat.zero_add, List.nil_append] at hown1
    obtain ⟨A1, c1, rfl, -, -, -⟩ := own_form hown1
    have a0 := hk.keep (show ((w.alloc (.cells #[.int .i64 id, .string nm, .int .i64 z, .slice A xs.length c] 26)).alloc (.cells #[.int .i64 0, .string { data := #[] }, .int .i64 0, .slice none 0 0] 26)).cell? ⟨w.heap.size, 0, none⟩ = some (.int .i64 id) by simp [go_sem])
    have af0 := hk.free (show ((w.alloc (.cells #[.int .i64 id, .string nm, .int .i64 z, .slice A xs.length c] 26)).alloc (.cells #[.int .i64 0, .string { data := #[] }, .int .i64 0, .slice none 0 0] 26)).cell? ⟨w.heap.size, 0, none⟩ = some (.int .i64 id) by simp [go_sem]) (by simp [go_sem])
    have a1 := hk.keep (show ((w.alloc (.cells #[.int .i64 id, .string nm, .int .i64 z, .slice A xs.length c] 26)).alloc (.cells #[.int .i64 0, .string { data := #[] }, .int .i64 0, .slice none 0 0] 26)).cell? ⟨w.heap.size, 1, none⟩ = some (.string nm) by simp [go_sem])
    have af1 := hk.free (show ((w.alloc (.cells #[.int .i64 id, .string nm, .int .i64 z, .slice A xs.length c] 26)).alloc (.cells #[.int .i64 0, .string { data := #[] }, .int .i64 0, .slice none 0 0] 26)).cell? ⟨w.heap.size, 1, none⟩ = some (.string nm) by simp [go_sem]) (by simp [go_sem])
    have a2 := hk.keep (show ((w.alloc (.cells #[.int .i64 id, .string nm, .int .i64 z, .slice A xs.length c] 26)).alloc (.cells #[.int .i64 0, .string { data := #[] }, .int .i64 0, .slice none 0 0] 26)).cell? ⟨w.heap.size, 2, none⟩ = some (.int .i64 z) by simp [go_sem])
    have af2 := hk.free (show ((w.alloc (.cells #[.int .i64 id, .string nm, .int .i64 z, .slice A xs.length c] 26)).alloc (.cells #[.int .i64 0, .string { data := #[] }, .int .i64 0, .slice none 0 0] 26)).cell? ⟨w.heap.size, 2, none⟩ = some (.int .i64 z) by simp [go_sem]) (by simp [go_sem])
    have a3 := hk.keep (show ((w.alloc (.cells #[.int .i64 id, .string nm, .int .i64 z, .slice A xs.length c] 26)).alloc (.cells #[.int .i64 0, .string { data := #[] }, .int .i64 0, .slice none 0 0] 26)).cell? ⟨w.heap.size, 3, none⟩ = some (.slice A xs.length c) by simp [go_sem])
    have af3 := hk.free (show ((w.alloc (.cells #[.int .i64 id, .string nm, .int .i64 z, .slice A xs.length c] 26)).alloc (.cells #[.int .i64 0, .string { data := #[] }, .int .i64 0, .slice none 0 0] 26)).cell? ⟨w.heap.size, 3, none⟩ = some (.slice A xs.length c) by simp [go_sem]) (by simp [go_sem])
    have b0 := hk.keep (show ((w.alloc (.cells #[.int .i64 id, .string nm, .int .i64 z, .slice A xs.length c] 26)).alloc (.cells #[.int .i64 0, .string { data := #[] }, .int .i64 0, .slice none 0 0] 26)).cell? ⟨w.heap.size + 1, 0, none⟩ = some (.int .i64 0) by simp [go_sem])
    have bf0 := hk.free (show ((w.alloc (.cells #[.int .i64 id, .string nm, .int .i64 z, .slice A xs.length c] 26)).alloc (.cells #[.int .i64 0, .string { data := #[] }, .int .i64 0, .slice none 0 0] 26)).cell? ⟨w.heap.size + 1, 0, none⟩ = some (.int .i64 0) by simp [go_sem]) (by simp [go_sem])
    have b1 := hk.keep (show ((w.alloc (.cells #[.int .i64 id, .string nm, .int .i64 z, .slice A xs.length c] 26)).alloc (.cells #[.int .i64 0, .string { data := #[] }, .int .i64 0, .slice none 0 0] 26)).cell? ⟨w.heap.size + 1, 1, none⟩ = some (.string { data := #[] }) by simp [go_sem])
    have bf1 := hk.free (show ((w.alloc (.cells #[.int .i64 id, .string nm, .int .i64 z, .slice A xs.length c] 26)).alloc (.cells #[.int .i64 0, .string { data := #[] }, .int .i64 0, .slice none 0 0] 26)).cell? ⟨w.heap.size + 1, 1, none⟩ = some (.string { data := #[] }) by simp [go_sem]) (by simp [go_sem])
    have b2 := hk.keep (show ((w.alloc (.cells #[.int .i64 id, .string nm, .int .i64 z, .slice A xs.length c] 26)).alloc (.cells #[.int .i64 0, .string { data := #[] }, .int .i64 0, .slice none 0 0] 26)).cell? ⟨w.heap.size + 1, 2, none⟩ = some (.int .i64 0) by simp [go_sem])
    have bf2 := hk.free (show ((w.alloc (.cells #[.int .i64 id, .string nm, .int .i64 z, .slice A xs.length c] 26)).alloc (.cells #[.int .i64 0, .string { data := #[] }, .int .i64 0, .slice none 0 0] 26)).cell? ⟨w.heap.size + 1, 2, none⟩ = some (.int .i64 0) by simp [go_sem]) (by simp [go_sem])
    have b3 := hk.keep (show ((w.alloc (.cells #[.int .i64 id, .string nm, .int .i64 z, .slice A xs.length c] 26)).alloc (.cells #[.int .i64 0, .string { data := #[] }, .int .i64 0, .slice none 0 0] 26)).cell? ⟨w.heap.size + 1, 3, none⟩ = some (.slice none 0 0) by simp [go_sem])
    have bf3 := hk.free (show ((w.alloc (.cells #[.int .i64 id, .string nm, .int .i64 z, .slice A xs.length c] 26)).alloc (.cells #[.int .i64 0, .string { data := #[] }, .int .i64 0, .slice none 0 0] 26)).cell? ⟨w.heap.size + 1, 3, none⟩ = some (.slice none 0 0) by simp [go_sem]) (by simp [go_sem])
    have HK := Lib.hid ((Kept.alloc (Kept.alloc (Kept.refl w) _) _).trans hk)
    have HU := Lib.hid hown1
    clear hk hown1 hgrow1)
  exact bodyPost_ret (v := .agg #[.int .i64 id, .string nm, .int .i64 z, .slice A1 xs.length c1]) (by simp [results, Try.results69, go_sem, *]) rfl ⟨_, rfl, own_base (ownsRow_setCell_below (ownsRow_setCell_below (ownsRow_setCell_below (ownsRow_setCell_below (ownsRow_setCell_below HU.out (by simp) _) (by simp) _) (by simp) _) (by simp) _) (by simp) _) (by simp), (((((HK.out.setCell (by simp) _).setCell (by simp) _).setCell (by simp) _).setCell (by simp) _).setCell (by simp) _)⟩
/-- The empty gauge. -/
def noG : Value := .agg #[.int .i64 0, .string { data := #[] }, .int .i64 0, .slice none 0 0]
def asG (id : Int) (nm : ByteArray) (z : Int) (v : Value) (xs : List (Int × Int)) : Value := if gaugeB id nm z xs = true then .agg #[.int .i64 id, .string nm, .int .i64 z, v] else noG
set_option maxRecDepth 100000 in
theorem asGauge_any (id : Int) (nm : ByteArray) (z : Int) (v : Value) (xs : List (Int × Int)) (hs : nm.size ≤ maxLen) (w : World) (hL : Lies w 2 pairC v xs) : Calls Try.prog 71 #[.agg #[.int .i64 id, .string nm, .int .i64 z, v]] w fun e w' => e = .returned (.tuple #[asG id nm z v xs, .bool (gaugeB id nm z xs)]) ∧ Kept w w' := by
  have HL := Lib.hid hL
  obtain ⟨A, c, rfl, hlc, hcm, hA⟩ := hL
  clear hA
  unfold asG
  cases h1 : gaugeB id nm z xs
  · go_enter Try.func71, Try.ntmps71
    go_wp2_with fail
    refine (isGauge_any _ _ _ _ _ hs _ (by exact HL.out.kept (by (repeat (first | exact Kept.refl _ | assumption | refine Kept.alloc ?_ _ | refine Kept.drew ?_ | refine Kept.drewN ?_ _ | refine Kept.setCell ?_ (by first | (simp; done) | (simp; omega) | omega | exact Kept.size (by (repeat (first | exact Kept.refl _ | assumption | refine Kept.alloc ?_ _ | refine Kept.drew ?_ | refine Kept.drewN ?_ _ | refine Kept.trans ?_ (by assumption))))) _ | refine Kept.trans ?_ (by assumption)))))).mono ?_
    rintro e w1 ⟨rfl, hk⟩
    have a0 := hk.keep (show ((w.alloc (.cells #[.int .i64 id, .string nm, .int .i64 z, .slice A xs.length c] 26)).alloc (.cells #[.int .i64 0, .string { data := #[] }, .int .i64 0, .slice none 0 0] 26)).cell? ⟨w.heap.size, 0, none⟩ = some (.int .i64 id) by simp [go_sem])
    have af0 := hk.free (show ((w.alloc (.cells #[.int .i64 id, .string nm, .int .i64 z, .slice A xs.length c] 26)).alloc (.cells #[.int .i64 0, .string { data := #[] }, .int .i64 0, .slice none 0 0] 26)).cell? ⟨w.heap.size, 0, none⟩ = some (.int .i64 id) by simp [go_sem]) (by simp [go_sem])
    have a1 := hk.keep (show ((w.alloc (.cells #[.int .i64 id, .string nm, .int .i64 z, .slice A xs.length c] 26)).alloc (.cells #[.int .i64 0, .string { data := #[] }, .int .i64 0, .slice none 0 0] 26)).cell? ⟨w.heap.size, 1, none⟩ = some (.string nm) by simp [go_sem])
    have af1 := hk.free (show ((w.alloc (.cells #[.int .i64 id, .string nm, .int .i64 z, .slice A xs.length c] 26)).alloc (.cells #[.int .i64 0, .string { data := #[] }, .int .i64 0, .slice none 0 0] 26)).cell? ⟨w.heap.size, 1, none⟩ = some (.string nm) by simp [go_sem]) (by simp [go_sem])
    have a2 := hk.keep (show ((w.alloc (.cells #[.int .i64 id, .string nm, .int .i64 z, .slice A xs.length c] 26)).alloc (.cells #[.int .i64 0, .string { data := #[] }, .int .i64 0, .slice none 0 0] 26)).cell? ⟨w.heap.size, 2, none⟩ = some (.int .i64 z) by simp [go_sem])
    have af2 := hk.free (show ((w.alloc (.cells #[.int .i64 id, .string nm, .int .i64 z, .slice A xs.length c] 26)).alloc (.cells #[.int .i64 0, .string { data := #[] }, .int .i64 0, .slice none 0 0] 26)).cell? ⟨w.heap.size, 2, none⟩ = some (.int .i64 z) by simp [go_sem]) (by simp [go_sem])
    have a3 := hk.keep (show ((w.alloc (.cells #[.int .i64 id, .string nm, .int .i64 z, .slice A xs.length c] 26)).alloc (.cells #[.int .i64 0, .string { data := #[] }, .int .i64 0, .slice none 0 0] 26)).cell? ⟨w.heap.size, 3, none⟩ = some (.slice A xs.length c) by simp [go_sem])
    have af3 := hk.free (show ((w.alloc (.cells #[.int .i64 id, .string nm, .int .i64 z, .slice A xs.length c] 26)).alloc (.cells #[.int .i64 0, .string { data := #[] }, .int .i64 0, .slice none 0 0] 26)).cell? ⟨w.heap.size, 3, none⟩ = some (.slice A xs.length c) by simp [go_sem]) (by simp [go_sem])
    have b0 := hk.keep (show ((w.alloc (.cells #[.int .i64 id, .string nm, .int .i64 z, .slice A xs.length c] 26)).alloc (.cells #[.int .i64 0, .string { data := #[] }, .int .i64 0, .slice none 0 0] 26)).cell? ⟨w.heap.size + 1, 0, none⟩ = some (.int .i64 0) by simp [go_sem])
    have bf0 := hk.free (show ((w.alloc (.cells #[.int .i64 id, .string nm, .int .i64 z, .slice A xs.length c] 26)).alloc (.cells #[.int .i64 0, .string { data := #[] }, .int .i64 0, .slice none 0 0] 26)).cell? ⟨w.heap.size + 1, 0, none⟩ = some (.int .i64 0) by simp [go_sem]) (by simp [go_sem])
    have b1 := hk.keep (show ((w.alloc (.cells #[.int .i64 id, .string nm, .int .i64 z, .slice A xs.length c] 26)).alloc (.cells #[.int .i64 0, .string { data := #[] }, .int .i64 0, .slice none 0 0] 26)).cell? ⟨w.heap.size + 1, 1, none⟩ = some (.string { data := #[] }) by simp [go_sem])
    have bf1 := hk.free (show ((w.alloc (.cells #[.int .i64 id, .string nm, .int .i64 z, .slice A xs.length c] 26)).alloc (.cells #[.int .i64 0, .string { data := #[] }, .int .i64 0, .slice none 0 0] 26)).cell? ⟨w.heap.size + 1, 1, none⟩ = some (.string { data := #[] }) by simp [go_sem]) (by simp [go_sem])
    have b2 := hk.keep (show ((w.alloc (.cells #[.int .i64 id, .string nm, .int .i64 z, .slice A xs.length c] 26)).alloc (.cells #[.int .i64 0, .string { data := #[] }, .int .i64 0, .slice none 0 0] 26)).cell? ⟨w.heap.size + 1, 2, none⟩ = some (.int .i64 0) by simp [go_sem])
    have bf2 := hk.free (show ((w.alloc (.cells #[.int .i64 id, .string nm, .int .i64 z, .slice A xs.length c] 26)).alloc (.cells #[.int .i64 0, .string { data := #[] }, .int .i64 0, .slice none 0 0] 26)).cell? ⟨w.heap.size + 1, 2, none⟩ = some (.int .i64 0) by simp [go_sem]) (by simp [go_sem])
    have b3 := hk.keep (show ((w.alloc (.cells #[.int .i64 id, .string nm, .int .i64 z, .slice A xs.length c] 26)).alloc (.cells #[.int .i64 0, .string { data := #[] }, .int .i64 0, .slice none 0 0] 26)).cell? ⟨w.heap.size + 1, 3, none⟩ = some (.slice none 0 0) by simp [go_sem])
    have bf3 := hk.free (show ((w.alloc (.cells #[.int .i64 id, .string nm, .int .i64 z, .slice A xs.length c] 26)).alloc (.cells #[.int .i64 0, .string { data := #[] }, .int .i64 0, .slice none 0 0] 26)).cell? ⟨w.heap.size + 1, 3, none⟩ = some (.slice none 0 0) by simp [go_sem]) (by simp [go_sem])
    have HK := Lib.hid ((Kept.alloc (Kept.alloc (Kept.refl w) _) _).trans hk)
    have HKB := Lib.hid hk
    clear hk
    rw [h1]
    go_wp2_with fail
    exact bodyPost_ret (v := .tuple #[noG, .bool false]) (by simp [results, Try.results71, go_sem, noG, *]) rfl ⟨rfl, ((((HK.out.setCell (by simp) _).setCell (by simp) _).setCell (by simp) _).setCell (by simp) _)⟩
  · go_enter Try.func71, Try.ntmps71
    go_wp2_with fail
    refine (isGauge_any _ _ _ _ _ hs _ (by exact HL.out.kept (by (repeat (first | exact Kept.refl _ | assumption | refine Kept.alloc ?_ _ | refine Kept.drew ?_ | refine Kept.drewN ?_ _ | refine Kept.setCell ?_ (by first | (simp; done) | (simp; omega) | omega | exact Kept.size (by (repeat (first | exact Kept.refl _ | assumption | refine Kept.alloc ?_ _ | refine Kept.drew ?_ | refine Kept.drewN ?_ _ | refine Kept.trans ?_ (by assumption))))) _ | refine Kept.trans ?_ (by assumption)))))).mono ?_
    rintro e w1 ⟨rfl, hk⟩
    have a0 := hk.keep (show ((w.alloc (.cells #[.int .i64 id, .string nm, .int .i64 z, .slice A xs.length c] 26)).alloc (.cells #[.int .i64 0, .string { data := #[] }, .int .i64 0, .slice none 0 0] 26)).cell? ⟨w.heap.size, 0, none⟩ = some (.int .i64 id) by simp [go_sem])
    have af0 := hk.free (show ((w.alloc (.cells #[.int .i64 id, .string nm, .int .i64 z, .slice A xs.length c] 26)).alloc (.cells #[.int .i64 0, .string { data := #[] }, .int .i64 0, .slice none 0 0] 26)).cell? ⟨w.heap.size, 0, none⟩ = some (.int .i64 id) by simp [go_sem]) (by simp [go_sem])
    have a1 := hk.keep (show ((w.alloc (.cells #[.int .i64 id, .string nm, .int .i64 z, .slice A xs.length c] 26)).alloc (.cells #[.int .i64 0, .string { data := #[] }, .int .i64 0, .slice none 0 0] 26)).cell? ⟨w.heap.size, 1, none⟩ = some (.string nm) by simp [go_sem])
    have af1 := hk.free (show ((w.alloc (.cells #[.int .i64 id, .string nm, .int .i64 z, .slice A xs.length c] 26)).alloc (.cells #[.int .i64 0, .string { data := #[] }, .int .i64 0, .slice none 0 0] 26)).cell? ⟨w.heap.size, 1, none⟩ = some (.string nm) by simp [go_sem]) (by simp [go_sem])
    have a2 := hk.keep (show ((w.alloc (.cells #[.int .i64 id, .string nm, .int .i64 z, .slice A xs.length c] 26)).alloc (.cells #[.int .i64 0, .string { data := #[] }, .int .i64 0, .slice none 0 0] 26)).cell? ⟨w.heap.size, 2, none⟩ = some (.int .i64 z) by simp [go_sem])
    have af2 := hk.free (show ((w.alloc (.cells #[.int .i64 id, .string nm, .int .i64 z, .slice A xs.length c] 26)).alloc (.cells #[.int .i64 0, .string { data := #[] }, .int .i64 0, .slice none 0 0] 26)).cell? ⟨w.heap.size, 2, none⟩ = some (.int .i64 z) by simp [go_sem]) (by simp [go_sem])
    have a3 := hk.keep (show ((w.alloc (.cells #[.int .i64 id, .string nm, .int .i64 z, .slice A xs.length c] 26)).alloc (.cells #[.int .i64 0, .string { data := #[] }, .int .i64 0, .slice none 0 0] 26)).cell? ⟨w.heap.size, 3, none⟩ = some (.slice A xs.length c) by simp [go_sem])
    have af3 := hk.free (show ((w.alloc (.cells #[.int .i64 id, .string nm, .int .i64 z, .slice A xs.length c] 26)).alloc (.cells #[.int .i64 0, .string { data := #[] }, .int .i64 0, .slice none 0 0] 26)).cell? ⟨w.heap.size, 3, none⟩ = some (.slice A xs.length c) by simp [go_sem]) (by simp [go_sem])
    have b0 := hk.keep (show ((w.alloc (.cells #[.int .i64 id, .string nm, .int .i64 z, .slice A xs.length c] 26)).alloc (.cells #[.int .i64 0, .string { data := #[] }, .int .i64 0, .slice none 0 0] 26)).cell? ⟨w.heap.size + 1, 0, none⟩ = some (.int .i64 0) by simp [go_sem])
    have bf0 := hk.free (show ((w.alloc (.cells #[.int .i64 id, .string nm, .int .i64 z, .slice A xs.length c] 26)).alloc (.cells #[.int .i64 0, .string { data := #[] }, .int .i64 0, .slice none 0 0] 26)).cell? ⟨w.heap.size + 1, 0, none⟩ = some (.int .i64 0) by simp [go_sem]) (by simp [go_sem])
    have b1 := hk.keep (show ((w.alloc (.cells #[.int .i64 id, .string nm, .int .i64 z, .slice A xs.length c] 26)).alloc (.cells #[.int .i64 0, .string { data := #[] }, .int .i64 0, .slice none 0 0] 26)).cell? ⟨w.heap.size + 1, 1, none⟩ = some (.string { data := #[] }) by simp [go_sem])
    have bf1 := hk.free (show ((w.alloc (.cells #[.int .i64 id, .string nm, .int .i64 z, .slice A xs.length c] 26)).alloc (.cells #[.int .i64 0, .string { data := #[] }, .int .i64 0, .slice none 0 0] 26)).cell? ⟨w.heap.size + 1, 1, none⟩ = some (.string { data := #[] }) by simp [go_sem]) (by simp [go_sem])
    have b2 := hk.keep (show ((w.alloc (.cells #[.int .i64 id, .string nm, .int .i64 z, .slice A xs.length c] 26)).alloc (.cells #[.int .i64 0, .string { data := #[] }, .int .i64 0, .slice none 0 0] 26)).cell? ⟨w.heap.size + 1, 2, none⟩ = some (.int .i64 0) by simp [go_sem])
    have bf2 := hk.free (show ((w.alloc (.cells #[.int .i64 id, .string nm, .int .i64 z, .slice A xs.length c] 26)).alloc (.cells #[.int .i64 0, .string { data := #[] }, .int .i64 0, .slice none 0 0] 26)).cell? ⟨w.heap.size + 1, 2, none⟩ = some (.int .i64 0) by simp [go_sem]) (by simp [go_sem])
    have b3 := hk.keep (show ((w.alloc (.cells #[.int .i64 id, .string nm, .int .i64 z, .slice A xs.length c] 26)).alloc (.cells #[.int .i64 0, .string { data := #[] }, .int .i64 0, .slice none 0 0] 26)).cell? ⟨w.heap.size + 1, 3, none⟩ = some (.slice none 0 0) by simp [go_sem])
    have bf3 := hk.free (show ((w.alloc (.cells #[.int .i64 id, .string nm, .int .i64 z, .slice A xs.length c] 26)).alloc (.cells #[.int .i64 0, .string { data := #[] }, .int .i64 0, .slice none 0 0] 26)).cell? ⟨w.heap.size + 1, 3, none⟩ = some (.slice none 0 0) by simp [go_sem]) (by simp [go_sem])
    have HK := Lib.hid ((Kept.alloc (Kept.alloc (Kept.refl w) _) _).trans hk)
    have HKB := Lib.hid hk
    clear hk
    rw [h1]
    go_wp2_with fail
    exact bodyPost_ret (v := .tuple #[.agg #[.int .i64 id, .string nm, .int .i64 z, .slice A xs.length c], .bool true]) (by simp [results, Try.results71, go_sem, *]) rfl ⟨rfl, ((((HK.out.setCell (by simp) _).setCell (by simp) _).setCell (by simp) _).setCell (by simp) _)⟩
end Go.Proofs.Ytopdnhlolfehcaa
