/-
  The contract of the draw of a list of spots.
  Conditions: none.
-/
import Derived.Test.YtnkofjfcioaaaaaDraw2
import Derived.Test.YtnkofjfcioaaaaaCode
import Derived.Test.YtnkofjfcioaaaaaPairs
import Derived.Maps.AppendAt
namespace Go.Proofs.Ytnkofjfcioaaaaa
open Go.ChangeShapes Go.WideShapes Go.ChangeAt Go.RowKit
set_option linter.unusedVariables false
set_option linter.unusedSimpArgs false

theorem cell_of_grown {a b : World} {row : Option Nat} (h : a.grownBy b row) {p : Addr} {v : Value} (hp : ∀ k, row = some k → p.block ≠ k) (hc : a.cell? p = some v) : b.cell? p = some v :=
  h.cell hc (by intro e; exact hp _ e.symm rfl)
theorem free_of_grown {a b : World} {row : Option Nat} (h : a.grownBy b row) {p : Addr} {v : Value} (hp : ∀ k, row = some k → p.block ≠ k) (hc : a.cell? p = some v) (hf : a.frozen? p = false) : b.frozen? p = false :=
  (World.frozen?_of_block (h.block p.block (World.block_lt_of_cell? a _ hc) (by intro e; exact hp _ e.symm rfl))).trans hf
theorem Cur.grown {a b : World} {g : Nat} {n : Int} {row : Option Nat} (h : Cur a g n) (q : a.grownBy b row) (hr : ∀ k, row = some k → g < k) : Cur b g n := by
  obtain ⟨⟨A, len, cap, h0, hc⟩, h1, ⟨s, h2⟩, f1, f2, hpos⟩ := h
  have hn : ∀ k, row = some k → g ≠ k := fun k hk => Nat.ne_of_lt (hr k hk)
  refine ⟨⟨A, len, cap, cell_of_grown q hn h0, hc.1, hc.2.1, fun hl => ?_⟩, cell_of_grown q hn h1, ⟨s, cell_of_grown q hn h2⟩, free_of_grown q hn h1 f1, free_of_grown q hn h2 f2, hpos⟩
  obtain ⟨b', off, e, hb, hx⟩ := hc.2.2 hl
  refine ⟨b', off, e, hb, fun i hi => ?_⟩
  obtain ⟨x, x0, x1, hx⟩ := hx i hi
  exact ⟨x, x0, x1, cell_of_grown q (fun k hk => Nat.ne_of_lt (Nat.lt_trans hb (hr k hk))) hx⟩
theorem CurB.grown {a b : World} {g : Nat} {k : Int} {row : Option Nat} (h : CurB a g k) (q : a.grownBy b row) (hr : ∀ k, row = some k → g < k) : CurB b g k := let ⟨n, h1, h2⟩ := h; ⟨n, h1, h2.grown q hr⟩
theorem Stir.grown {g : Nat} {w a b : World} {row : Option Nat} (h : Stir g w a) (q : a.grownBy b row) (hr : ∀ k, row = some k → w.heap.size ≤ k) : Stir g w b :=
  ⟨q.os.trans h.by_.os, q.tape.trans h.by_.tape, q.output.trans h.by_.output, Nat.le_trans h.by_.size q.size, fun k hk hg =>
    (q.block k (Nat.lt_of_lt_of_le hk h.by_.size) (fun e => absurd (hr k e.symm) (by omega))).trans (h.by_.block k hk hg)⟩
theorem own_row_ge {a : World} {base size n : Nat} {e : TypeId} {v : Value} {xs : List Value} (ho : a.ownsRow base e size v n xs) : ∀ k, v.ownBlock = some k → base ≤ k := fun k hk => (ho.lt k hk).1
theorem news_two (W : World) (x y : Value) (t : TypeId) : ∀ (j : Nat) (u : Value), [x, y][j]? = some u → (W.alloc (.cells #[x, y] t)).cell? ((⟨W.heap.size, 0, none⟩ : Addr).add j) = some u := fun j u hu => by
  rw [Go.WideShapes.add_plain]
  simpa using (BoxN.new W [x, y] t j u hu).1
def sliceLen : Value → Nat
  | .slice _ n _ => n
  | _ => 0
set_option maxRecDepth 100000 in
set_option maxHeartbeats 2000000 in
theorem spots_any (g : Nat) (k : Int) (w : World) (hC : CurB w g k) (hk : k ≤ 700000) : Calls Try.prog 68 #[.pointer (some ⟨g, 0, none⟩)] w fun e w' => ∃ (v : Value) (xs : List (Int × Int)), e = .returned v ∧ xs.length ≤ 13 ∧ w'.ownsRow w.heap.size 26 2 v xs.length (xs.flatMap pairC) ∧ CurB w' g (k + 200) ∧ Stir g w w' := by
  obtain ⟨i0, hi0, hz0, hz1, hz2⟩ := info_parts infoSpot
  have hg := hC.lt
  have C0 := Lib.hid hC
  clear hC
  go_enter Try.func68, Try.ntmps68
  have O0 : Hid ((w.alloc (.cells #[] 26)).ownsRow w.heap.size 26 2 (.slice (some ⟨w.heap.size, 0, none⟩) 0 0) 0 []) := Lib.hid (World.ownsRow_lit (e := 26) (size := 2) w #[] 0 (Nat.le_refl _) (by simp [maxLen]) rfl)
  go_wp2_with fail
  refine (pick_any g k 8 _ (C0.out.kept (Kept.alloc (Kept.refl _) _)) (by omega) (by omega)).mono ?_
  rintro e w1 ⟨n0, rfl, ⟨n00, n01⟩, hc1, hs1⟩
  have O1 := Lib.hid (hs1.own O0.out hg)
  have C1 := Lib.hid hc1
  have S1 : Hid (Stir g w w1) := Lib.hid ((Stir.kept (Kept.alloc (Kept.refl _) _)).trans hs1)
  obtain ⟨m0, rfl⟩ : ∃ m : Nat, n0 = (m : Int) := ⟨n0.toNat, by omega⟩
  have hm0 : m0 ≤ 7 := by omega
  clear hc1 hs1 O0 C0 n00 n01
  go_wp2_with fail
  go_loopw [3, 4] (fun v i wr => ∃ (m : Nat) (xs : List (Int × Int)), i = .int .i64 (m : Int) ∧ xs.length + m ≤ 7 ∧ wr.ownsRow w.heap.size 26 2 v xs.length (xs.flatMap pairC) ∧ CurB wr g (k + 2 + 8 * (xs.length : Int)) ∧ Stir g w wr) (fun _ i _ => (intOf i).toNat)
  case atStart => exact ⟨m0, [], rfl, by simpa using hm0, O1.out, by simpa using C1.out, S1.out⟩
  case round =>
    clear C1 S1 O1
    obtain ⟨m, xs, rfl, hxm, ho, hc, hs⟩ := hrel
    obtain ⟨A, cp, rfl, hle, hcap, -⟩ := own_form ho
    have HO := Lib.hid ho
    have HC := Lib.hid hc
    have HS := Lib.hid hs
    have hsz := hs.size
    clear ho hc hs
    by_cases hlt : 0 < m
    · go_wp2_with fail
      refine (spot_any g _ _ HC.out (by omega)).mono ?_
      rintro e w2 ⟨x, y, rfl, hc2, hs2⟩
      have hsz2 := hs2.size
      have O2 := Lib.hid (own_kept (hs2.own HO.out hg) (Kept.alloc (Kept.refl w2) (.cells #[.int .i64 x, .int .i64 y] 26)))
      have C2 := Lib.hid (hc2.kept (Kept.alloc (Kept.refl w2) (.cells #[.int .i64 x, .int .i64 y] 26)))
      have S2 := Lib.hid ((HS.out.trans hs2).alloc (.cells #[.int .i64 x, .int .i64 y] 26))
      clear hc2 hs2
      go_wp2_with (at_builtin; refine wpList_append_own_at _ rfl (.tmp 12) (.tmp 15) _ rfl w.heap.size 26 i0 _ 2 16 Try.underlying42 hi0 hz0 hz1 hz2 rfl (by decide) _ xs.length _ rfl O2.out ⟨w2.heap.size, 0, none⟩ 1 1 [.int .i64 x, .int .i64 y] rfl rfl (news_two _ _ _ _) (by simp [Value.oneCell']) (by unfold maxLen; omega) (by omega) (by simp; omega) ?_; intro v1 w3 hown1 hgrow1 _ _)
      have hr := own_row_ge O2.out
      have C3 := Lib.hid (C2.out.grown hgrow1 (fun k hk => Nat.lt_of_lt_of_le hg (hr k hk)))
      have S3 := Lib.hid (S2.out.grown hgrow1 hr)
      have O3 := Lib.hid hown1
      clear hown1 hgrow1 hr C2 S2 O2 HO HC HS
      obtain ⟨m, rfl⟩ : ∃ m' : Nat, m = m' + 1 := ⟨m - 1, by omega⟩
      go_wp2_with fail
      go_roundw
      case rel => exact ⟨m, xs ++ [(x, y)], by go_num, by first | (simp; done) | (simp; omega), by rw [List.length_append, List.flatMap_append]; exact O3.out, by have hq := C3.out; refine hq.mono ?_; first | (simp; done) | (simp; omega), S3.out⟩
      case measure => simp [intOf]
    · have e : m = 0 := by omega
      subst e
      have hl : xs.length ≤ 7 := by omega
      clear hxm hlt
      go_wp2_with fail
      refine (one_any g _ 32 _ HC.out (by omega) (by omega)).mono ?_
      rintro e w2 ⟨t, rfl, hc2, hs2⟩
      have hsz2 := hs2.size
      have O2 := Lib.hid (hs2.own HO.out hg)
      have C2 : Hid (CurB w2 g (k + 62 + 2 * (xs.length : Int))) := Lib.hid (hc2.mono (by omega))
      have S2 := Lib.hid (HS.out.trans hs2)
      clear hc2 hs2 HO HC HS
      cases t
      · go_wp2_with fail
        go_ret
        exact ⟨_, xs, rfl, by omega, O2.out, C2.out.mono (by omega), S2.out⟩
      · go_wp2_with fail
        go_loopw [3] (fun v wr => ∃ xs : List (Int × Int), xs.length ≤ 13 ∧ wr.ownsRow w.heap.size 26 2 v xs.length (xs.flatMap pairC) ∧ CurB wr g (k + 62 + 2 * (xs.length : Int)) ∧ Stir g w wr) (fun v _ => 14 - sliceLen v)
        case atStart => exact ⟨xs, by omega, O2.out, C2.out, S2.out⟩
        case round =>
          clear C2 S2 O2 hsz2 hsz hl
          clear hle hcap
          obtain ⟨ys, hxm, ho, hc, hs⟩ := hrel
          obtain ⟨A', cp', rfl, hle, hcap, -⟩ := own_form ho
          have HO := Lib.hid ho
          have HC := Lib.hid hc
          have HS := Lib.hid hs
          have hsz := hs.size
          clear ho hc hs
          go_wp2_with fail
          refine (pick_any g _ 2 _ HC.out (by omega) (by omega)).mono ?_
          rintro e w4 ⟨z, rfl, ⟨z0, z1⟩, hc4, hs4⟩
          have z1 : z < 2 := by omega
          have hsz4 := hs4.size
          have O4 := Lib.hid (hs4.own HO.out hg)
          have C4 : Hid (CurB w4 g (k + 62 + 2 * (ys.length : Int) + 2)) := Lib.hid hc4
          have S4 := Lib.hid (HS.out.trans hs4)
          clear hc4 hs4 HO HC HS
          by_cases hlt : (ys.length : Int) < 12 + z
          · have hl2 : ys.length ≤ 12 := by omega
            have O5 := Lib.hid (own_kept O4.out (Kept.alloc (Kept.refl w4) (.cells #[.int .i64 7, .int .i64 (ys.length : Int)] 26)))
            have C5 := Lib.hid (C4.out.kept (Kept.alloc (Kept.refl w4) (.cells #[.int .i64 7, .int .i64 (ys.length : Int)] 26)))
            have S5 := Lib.hid (S4.out.alloc (.cells #[.int .i64 7, .int .i64 (ys.length : Int)] 26))
            go_wp2_with (at_builtin; refine wpList_append_own_at _ rfl (.tmp 25) (.tmp 29) _ rfl w.heap.size 26 i0 _ 2 16 Try.underlying42 hi0 hz0 hz1 hz2 rfl (by decide) _ ys.length _ rfl O5.out ⟨w4.heap.size, 0, none⟩ 1 1 [.int .i64 7, .int .i64 (ys.length : Int)] rfl rfl (news_two _ _ _ _) (by simp [Value.oneCell']) (by unfold maxLen; omega) (by omega) (by simp; omega) ?_; intro v1 w5 hown1 hgrow1 _ _)
            have hr := own_row_ge O5.out
            have C6 := Lib.hid (C5.out.grown hgrow1 (fun k hk => Nat.lt_of_lt_of_le hg (hr k hk)))
            have S6 := Lib.hid (S5.out.grown hgrow1 hr)
            obtain ⟨A6, cp6, rfl, hle6, hcap6, -⟩ := own_form hown1
            have O6 := Lib.hid hown1
            clear hown1 hgrow1 hr C5 S5 O5 C4 S4 O4
            go_roundw
            case rel => exact ⟨ys ++ [(7, (ys.length : Int))], by first | (simp; done) | (simp; omega), by rw [List.length_append, List.flatMap_append]; exact O6.out, by have hq := C6.out; refine hq.mono ?_; first | (simp; done) | (simp; omega), S6.out⟩
            case measure => simp [sliceLen]; omega
          · have hge : 12 + z ≤ (ys.length : Int) := by omega
            go_wp2_with fail
            go_ret
            exact ⟨_, ys, rfl, hxm, O4.out, C4.out.mono (by omega), S4.out⟩
end Go.Proofs.Ytnkofjfcioaaaaa
