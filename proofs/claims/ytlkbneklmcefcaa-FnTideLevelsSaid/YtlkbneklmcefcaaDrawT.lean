/-
  Contracts of the draws of a tide curve and of a time.
  Conditions: none.
-/
import Derived.Test.YtlkbneklmcefcaaCode
import Derived.Test.YtlkbneklmcefcaaGaps
import Derived.Maps.AppendAt
import Derived.Deep.AppendLies
namespace Go.Proofs.Ytlkbneklmcefcaa
open Go.ChangeShapes Go.WideShapes Go.ChangeAt Go.RowKit
set_option linter.unusedVariables false
set_option linter.unusedSimpArgs false

theorem cell_of_grown {a b : World} {row : Option Nat} (h : a.grownBy b row) {p : Addr} {v : Value} (hp : ∀ k, row = some k → p.block ≠ k) (hc : a.cell? p = some v) : b.cell? p = some v :=
  h.cell hc (by intro e; exact hp _ e.symm rfl)
theorem free_of_grown {a b : World} {row : Option Nat} (h : a.grownBy b row) {p : Addr} {v : Value} (hp : ∀ k, row = some k → p.block ≠ k) (hc : a.cell? p = some v) (hf : a.frozen? p = false) : b.frozen? p = false :=
  (World.frozen?_of_block (h.block p.block (World.block_lt_of_cell? a _ hc) (by intro e; exact hp _ e.symm rfl))).trans hf
theorem Cur.grown {a b : World} {g : Nat} {n : Int} {row : Option Nat} (h : Cur a g n) (q : a.grownBy b row) (hr : ∀ k, row = some k → g < k) : Cur b g n := by
  obtain ⟨⟨A, len, cap, h0, hc⟩, h1, ⟨s, h2⟩, f1, f2, hpos⟩ := h
  have hn : ∀ k, row = some k → g ≠ k := fun k hk => Nat.ne_of_lt (hr k hk)
  refine ⟨⟨A, len, cap, cell_of_grown q hn h0, hc.1, hc.2.1, fun hl => ?_⟩, cell_of_grown q hn h1, ⟨s, cell_of_grown q hn h2⟩, free_of_grown q hn h1 f1, free_of_grown q hn h2 f2, hpos⟩
  obtain ⟨b', off, e, hb, hx⟩ := hc.2.2 hl
  refine ⟨b', off, e, hb, fun i hi => ?_⟩
  obtain ⟨x, x0, x1, hx⟩ := hx i hi
  exact ⟨x, x0, x1, cell_of_grown q (fun k hk => Nat.ne_of_lt (Nat.lt_trans hb (hr k hk))) hx⟩
theorem CurB.grown {a b : World} {g : Nat} {k : Int} {row : Option Nat} (h : CurB a g k) (q : a.grownBy b row) (hr : ∀ k, row = some k → g < k) : CurB b g k := let ⟨n, h1, h2⟩ := h; ⟨n, h1, h2.grown q hr⟩
theorem Stir.grown {g : Nat} {w a b : World} {row : Option Nat} (h : Stir g w a) (q : a.grownBy b row) (hr : ∀ k, row = some k → w.heap.size ≤ k) : Stir g w b :=
  ⟨q.os.trans h.by_.os, q.tape.trans h.by_.tape, q.output.trans h.by_.output, Nat.le_trans h.by_.size q.size, fun k hk hg =>
    (q.block k (Nat.lt_of_lt_of_le hk h.by_.size) (fun e => absurd (hr k e.symm) (by omega))).trans (h.by_.block k hk hg)⟩
theorem own_row_ge {a : World} {base size n : Nat} {e : TypeId} {v : Value} {xs : List Value} (ho : a.ownsRow base e size v n xs) : ∀ k, v.ownBlock = some k → base ≤ k := fun k hk => (ho.lt k hk).1
theorem news_two (W : World) (x y : Value) (t : TypeId) : ∀ (j : Nat) (u : Value), [x, y][j]? = some u → (W.alloc (.cells #[x, y] t)).cell? ((⟨W.heap.size, 0, none⟩ : Addr).add j) = some u :=
  World.news_of_block (cs := #[x, y]) (t := t) (fr := (0, 0)) (heap_alloc_new W _)
def sliceLen : Value → Nat
  | .slice _ n _ => n
  | _ => 0
set_option maxRecDepth 100000 in
set_option maxHeartbeats 2000000 in
theorem tides_any (g : Nat) (k : Int) (w : World) (hC : CurB w g k) (hk : k ≤ 700000) : Calls Try.prog 71 #[.pointer (some ⟨g, 0, none⟩)] w fun e w' => ∃ (v : Value) (xs : List (Int × Int)), e = .returned v ∧ xs.length ≤ 13 ∧ w'.ownsRow w.heap.size 53 2 v xs.length (xs.flatMap pairC) ∧ CurB w' g (k + 200) ∧ Stir g w w' := by
  obtain ⟨i0, hi0, hz0, hz1, hz2⟩ := info_parts infoTide
  have hg := hC.lt
  go_enter Try.func71, Try.ntmps71
  have O0 : Hid ((w.alloc (.cells #[] 53)).ownsRow w.heap.size 53 2 (.slice (some ⟨w.heap.size, 0, none⟩) 0 0) 0 []) := Lib.hid (World.ownsRow_lit (e := 53) (size := 2) w #[] 0 (Nat.le_refl _) (by simp [maxLen]) rfl)
  have C0 := Lib.hid (hC.kept (Kept.alloc (Kept.refl w) (.cells #[] 53)))
  have S0 : Hid (Stir g w (w.alloc (.cells #[] 53))) := Lib.hid ((Stir.refl g w).alloc _)
  clear hC
  go_wp2_with fail
  refine (among_any g _ 4 (k) [0, 0, 100, 9900] _ (C0.out.kept (Kept.alloc (Kept.refl _) _)) (by omega) (by exact NumsIn.lit (by rfl) (by simp)) (by first | (simp; done) | (simp; omega) | omega) (by decide) (by decide)).mono ?_
  rintro e w1 ⟨x1, rfl, -, hc1, hs1⟩
  have O1 := Lib.hid (hs1.own (own_kept O0.out (Kept.alloc (Kept.refl _) _)) (by omega))
  have C1 := Lib.hid hc1
  have S1 := Lib.hid ((S0.out.alloc _).trans hs1)
  have z1 := S1.out.size
  clear hc1 hs1
  go_wp2_with fail
  refine (pick_any g (k + 2) 7 _ C1.out (by omega) (by omega)).mono ?_
  rintro e w2 ⟨n0, rfl, ⟨n00, n01⟩, hc2, hs2⟩
  have O2 := Lib.hid (hs2.own O1.out (by omega))
  have C2 := Lib.hid hc2
  have S2 := Lib.hid (S1.out.trans hs2)
  have z2 := S2.out.size
  clear hc2 hs2
  obtain ⟨m0, rfl⟩ : ∃ m : Nat, n0 = (m : Int) := ⟨n0.toNat, by omega⟩
  have hm0 : m0 ≤ 6 := by omega
  clear O0 C0 S0 O1 C1 S1 n00 n01
  go_wp2_with fail
  go_loopw [3, 4, 5] (fun v tm i wr => ∃ (m : Nat) (xs : List (Int × Int)) (t : Int), tm = .int .i64 t ∧ i = .int .i64 (m : Int) ∧ xs.length + m = m0 + 1 ∧ wr.ownsRow w.heap.size 53 2 v xs.length (xs.flatMap pairC) ∧ CurB wr g (k + 4 + 4 * (xs.length : Int)) ∧ Stir g w wr) (fun _ _ i _ => (intOf i).toNat)
  case atStart => exact ⟨m0 + 1, [], _, rfl, by go_num, by simp, O2.out, by have hq := C2.out; refine hq.mono ?_; simp; omega, S2.out⟩
  case round =>
    clear C2 S2 O2
    obtain ⟨m, xs, t, rfl, rfl, hxm, ho, hc, hs⟩ := hrel
    obtain ⟨A, cp, rfl, hle, hcap, -⟩ := own_form ho
    have Or := Lib.hid ho
    have Cr := Lib.hid hc
    have Sr := Lib.hid hs
    have zr := hs.size
    clear ho hc hs
    by_cases hlt : 0 < m
    · go_wp2_with fail
      refine (among_any g _ 7 (k + 4 + 4 * (xs.length : Int)) [0, 20, 75, 150, 200, -30, 310] _ (Cr.out.kept (Kept.alloc (Kept.refl _) _)) (by omega) (by exact NumsIn.lit (by rfl) (by simp)) (by first | (simp; done) | (simp; omega) | omega) (by decide) (by decide)).mono ?_
      rintro e w3 ⟨x3, rfl, -, hc3, hs3⟩
      have O3 := Lib.hid (hs3.own (own_kept Or.out (Kept.alloc (Kept.refl _) _)) (by omega))
      have C3 := Lib.hid hc3
      have S3 := Lib.hid ((Sr.out.alloc _).trans hs3)
      have z3 := S3.out.size
      clear hc3 hs3
      have Oa := Lib.hid (own_kept O3.out (Kept.alloc (Kept.refl w3) (.cells #[.int .i64 t, .int .i64 x3] 53)))
      have Ca := Lib.hid (C3.out.kept (Kept.alloc (Kept.refl w3) (.cells #[.int .i64 t, .int .i64 x3] 53)))
      have Sa := Lib.hid (S3.out.alloc (.cells #[.int .i64 t, .int .i64 x3] 53))
      go_wp2_with (at_builtin; refine wpList_append_own_at _ rfl (.tmp 17) (.tmp 23) _ rfl w.heap.size 53 i0 _ 2 16 Try.underlying25 hi0 hz0 hz1 hz2 rfl (by decide) _ xs.length _ rfl Oa.out ⟨w3.heap.size, 0, none⟩ 1 1 [.int .i64 t, .int .i64 x3] rfl rfl (news_two _ _ _ _) (by simp [Value.oneCell']) (by unfold maxLen; omega) (by omega) (by simp; omega) ?_; intro v4 w4 hown1 hgrow1 _ _)
      have hr := own_row_ge Oa.out
      have C4 := Lib.hid (Ca.out.grown hgrow1 (fun k hk => Nat.lt_of_lt_of_le hg (hr k hk)))
      have S4 := Lib.hid (Sa.out.grown hgrow1 hr)
      obtain ⟨A4, cp4, rfl, -, -, -⟩ := own_form hown1
      have O4 := Lib.hid hown1
      have z4 := S4.out.size
      clear hown1 hgrow1 hr Oa Ca Sa
      go_wp2_with fail
      refine (among_any g _ 7 (k + 4 + 4 * (xs.length : Int) + 2) [1, 10, 30, 30, 60, 61, 200] _ (C4.out.kept (Kept.alloc (Kept.refl _) _)) (by omega) (by exact NumsIn.lit (by rfl) (by simp)) (by first | (simp; done) | (simp; omega) | omega) (by decide) (by decide)).mono ?_
      rintro e w5 ⟨x5, rfl, -, hc5, hs5⟩
      have O5 := Lib.hid (hs5.own (own_kept O4.out (Kept.alloc (Kept.refl _) _)) (by omega))
      have C5 := Lib.hid hc5
      have S5 := Lib.hid ((S4.out.alloc _).trans hs5)
      have z5 := S5.out.size
      clear hc5 hs5
      obtain ⟨m, rfl⟩ : ∃ m' : Nat, m = m' + 1 := ⟨m - 1, by omega⟩
      go_wp2_with fail
      go_roundw
      case rel => exact ⟨m, xs ++ [(t, x3)], _, rfl, by go_num, by first | (simp; done) | (simp; omega), by rw [List.length_append, List.flatMap_append]; exact O5.out, by have hq := C5.out; refine hq.mono ?_; first | (simp; done) | (simp; omega), S5.out⟩
      case measure => simp [intOf]
    · have e : m = 0 := by omega
      subst e
      have hl1 : 1 ≤ xs.length := by omega
      have hl7 : xs.length ≤ 7 := by omega
      clear hxm hlt
      go_wp2_with fail
      refine (pick_any g _ 32 _ Cr.out (by omega) (by omega)).mono ?_
      rintro e w6 ⟨z, rfl, -, hc6, hs6⟩
      have O6 := Lib.hid (hs6.own Or.out (by omega))
      have C6 := Lib.hid hc6
      have S6 := Lib.hid (Sr.out.trans hs6)
      have z6 := S6.out.size
      clear hc6 hs6
      clear Or Cr Sr
      by_cases h0 : z = 0
      · subst h0
        go_wp2_with fail
        refine (among_any g _ 3 (k + 4 + 4 * (xs.length : Int) + 2) [0, 10000, 10001] _ (C6.out.kept (Kept.alloc (Kept.refl _) _)) (by omega) (by exact NumsIn.lit (by rfl) (by simp)) (by first | (simp; done) | (simp; omega) | omega) (by decide) (by decide)).mono ?_
        rintro e w7 ⟨x7, rfl, -, hc7, hs7⟩
        have O7 := Lib.hid (hs7.own (own_kept O6.out (Kept.alloc (Kept.refl _) _)) (by omega))
        have C7 := Lib.hid hc7
        have S7 := Lib.hid ((S6.out.alloc _).trans hs7)
        have z7 := S7.out.size
        clear hc7 hs7
        go_wp2_with fail
        refine (among_any g _ 3 (k + 4 + 4 * (xs.length : Int) + 2 + 2) [2000, 2001, -1001] _ (C7.out.kept (Kept.alloc (Kept.refl _) _)) (by omega) (by exact NumsIn.lit (by rfl) (by simp)) (by first | (simp; done) | (simp; omega) | omega) (by decide) (by decide)).mono ?_
        rintro e w8 ⟨x8, rfl, -, hc8, hs8⟩
        have O8 := Lib.hid (hs8.own (own_kept O7.out (Kept.alloc (Kept.refl _) _)) (by omega))
        have C8 := Lib.hid hc8
        have S8 := Lib.hid ((S7.out.alloc _).trans hs8)
        have z8 := S8.out.size
        clear hc8 hs8
        have Oa := Lib.hid (own_kept O8.out (Kept.alloc (Kept.refl w8) (.cells #[.int .i64 x7, .int .i64 x8] 53)))
        have Ca := Lib.hid (C8.out.kept (Kept.alloc (Kept.refl w8) (.cells #[.int .i64 x7, .int .i64 x8] 53)))
        have Sa := Lib.hid (S8.out.alloc (.cells #[.int .i64 x7, .int .i64 x8] 53))
        go_wp2_with (at_builtin; refine wpList_append_own_at _ rfl (.tmp 34) (.tmp 42) _ rfl w.heap.size 53 i0 _ 2 16 Try.underlying25 hi0 hz0 hz1 hz2 rfl (by decide) _ xs.length _ rfl Oa.out ⟨w8.heap.size, 0, none⟩ 1 1 [.int .i64 x7, .int .i64 x8] rfl rfl (news_two _ _ _ _) (by simp [Value.oneCell']) (by unfold maxLen; omega) (by omega) (by simp; omega) ?_; intro v9 w9 hown1 hgrow1 _ _)
        have hr := own_row_ge Oa.out
        have C9 := Lib.hid (Ca.out.grown hgrow1 (fun k hk => Nat.lt_of_lt_of_le hg (hr k hk)))
        have S9 := Lib.hid (Sa.out.grown hgrow1 hr)
        obtain ⟨A9, cp9, rfl, -, -, -⟩ := own_form hown1
        have O9 := Lib.hid hown1
        have z9 := S9.out.size
        clear hown1 hgrow1 hr Oa Ca Sa
        go_wp2_with fail
        go_ret
        exact ⟨_, xs ++ [(x7, x8)], rfl, by first | (simp; done) | (simp; omega), by rw [List.length_append, List.flatMap_append]; exact O9.out, by have hq := C9.out; refine hq.mono ?_; omega, S9.out⟩
      · by_cases h1 : z = 1
        · subst h1
          have On : Hid ((w6.alloc (.cells #[] 53)).ownsRow w.heap.size 53 2 (.slice (some ⟨w6.heap.size, 0, none⟩) 0 0) 0 []) := Lib.hid (own_base (World.ownsRow_lit (e := 53) (size := 2) w6 #[] 0 (Nat.le_refl _) (by simp [maxLen]) rfl) (by omega))
          go_wp2_with fail
          go_ret
          exact ⟨_, [], rfl, by simp, On.out, by have hq := C6.out.kept (Kept.alloc (Kept.refl w6) (.cells #[] 53)); refine hq.mono ?_; omega, S6.out.alloc _⟩
        · by_cases h2 : z = 2
          · subst h2
            go_wp2_with fail
            go_loopw [3] (fun v wr => ∃ xs : List (Int × Int), (1 ≤ xs.length ∧ xs.length ≤ 13) ∧ wr.ownsRow w.heap.size 53 2 v xs.length (xs.flatMap pairC) ∧ CurB wr g (k + 40 + 2 * (xs.length : Int)) ∧ Stir g w wr) (fun v _ => 14 - sliceLen v)
            case atStart => exact ⟨xs, ⟨by omega, by omega⟩, O6.out, by have hq := C6.out; refine hq.mono ?_; omega, S6.out⟩
            case round =>
              clear C6 S6 O6 hl1 hl7 hle hcap
              obtain ⟨ys, ⟨hl1, hl13⟩, ho, hc, hs⟩ := hrel
              obtain ⟨A', cp', rfl, hle, hcap, -⟩ := own_form ho
              have Or := Lib.hid ho
              have Cr := Lib.hid hc
              have Sr := Lib.hid hs
              have zr := hs.size
              clear ho hc hs
              go_wp2_with fail
              refine (pick_any g _ 2 _ Cr.out (by omega) (by omega)).mono ?_
              rintro e w10 ⟨z2, rfl, ⟨z20, z21⟩, hc10, hs10⟩
              have O10 := Lib.hid (hs10.own Or.out (by omega))
              have C10 := Lib.hid hc10
              have S10 := Lib.hid (Sr.out.trans hs10)
              have z10 := S10.out.size
              clear hc10 hs10
              have z22 : z2 < 2 := by omega
              clear Or Cr Sr z21
              by_cases hlt : (ys.length : Int) < 12 + z2
              · have hl2 : ys.length ≤ 12 := by omega
                obtain ⟨A2, c2, hA2, -, -, hcell⟩ := lies_pairs (pairs_own O10.out)
                injection hA2 with hA2 _ hA3
                subst hA2 hA3
                obtain ⟨b, off, rfl, hcc⟩ := hcell (by omega)
                have c0 := (hcc (ys.length - 1) (by omega)).1
                have e1 : ((ys.length : Int) - 1).toNat = ys.length - 1 := by omega
                have k0 : (0 : Int) ≤ (ys.length : Int) - 1 := by omega
                have k1 : (ys.length : Int) - 1 < (ys.length : Int) := by omega
                clear hcc hcell
                generalize P1 ys (ys.length - 1) = tl at c0
                have Oa := Lib.hid (own_kept O10.out (Kept.alloc (Kept.refl w10) (.cells #[.int .i64 (wrap64 (tl + 5)), .int .i64 10] 53)))
                have Ca := Lib.hid (C10.out.kept (Kept.alloc (Kept.refl w10) (.cells #[.int .i64 (wrap64 (tl + 5)), .int .i64 10] 53)))
                have Sa := Lib.hid (S10.out.alloc (.cells #[.int .i64 (wrap64 (tl + 5)), .int .i64 10] 53))
                go_wp2_with (at_builtin; refine wpList_append_own_at _ rfl (.tmp 55) (.tmp 65) _ rfl w.heap.size 53 i0 _ 2 16 Try.underlying25 hi0 hz0 hz1 hz2 rfl (by decide) _ ys.length _ rfl Oa.out ⟨w10.heap.size, 0, none⟩ 1 1 [.int .i64 (wrap64 (tl + 5)), .int .i64 10] rfl rfl (news_two _ _ _ _) (by simp [Value.oneCell']) (by unfold maxLen; omega) (by omega) (by simp; omega) ?_; intro v11 w11 hown1 hgrow1 _ _)
                have hr := own_row_ge Oa.out
                have C11 := Lib.hid (Ca.out.grown hgrow1 (fun k hk => Nat.lt_of_lt_of_le hg (hr k hk)))
                have S11 := Lib.hid (Sa.out.grown hgrow1 hr)
                obtain ⟨A11, cp11, rfl, -, -, -⟩ := own_form hown1
                have O11 := Lib.hid hown1
                have z11 := S11.out.size
                clear hown1 hgrow1 hr Oa Ca Sa
                go_roundw
                case rel => exact ⟨ys ++ [(wrap64 (tl + 5), 10)], ⟨by first | (simp; done) | (simp; omega), by first | (simp; done) | (simp; omega)⟩, by rw [List.length_append, List.flatMap_append]; exact O11.out, by have hq := C11.out; refine hq.mono ?_; first | (simp; done) | (simp; omega), S11.out⟩
                case measure => simp [sliceLen]; omega
              · have hge : 12 + z2 ≤ (ys.length : Int) := by omega
                go_wp2_with fail
                go_ret
                exact ⟨_, ys, rfl, hl13, O10.out, by have hq := C10.out; refine hq.mono ?_; omega, S10.out⟩
          · have h0 : (z == 0) = false := by simp [h0]
            have h1 : (z == 1) = false := by simp [h1]
            have h2 : (z == 2) = false := by simp [h2]
            go_wp2_with fail
            go_ret
            exact ⟨_, xs, rfl, by omega, O6.out, by have hq := C6.out; refine hq.mono ?_; omega, S6.out⟩
set_option maxRecDepth 100000 in
set_option maxHeartbeats 2000000 in
theorem timeOf_any (g B : Nat) (k : Int) (v : Value) (xs : List (Int × Int)) (w : World) (hC : CurB w g k) (hk : k ≤ 800000) (hx : xs.length ≤ 1000) (hO : w.ownsRow B 53 2 v xs.length (xs.flatMap pairC)) (hgB : g < B) : Calls Try.prog 72 #[.pointer (some ⟨g, 0, none⟩), v] w fun e w' => ∃ x : Int, e = .returned (.int .i64 x) ∧ CurB w' g (k + 10) ∧ Stir g w w' := by
  have hg := hC.lt
  obtain ⟨A, c, rfl, hlc, hcm, hA⟩ := lies_pairs (pairs_own hO)
  have Oz := Lib.hid hO
  have Cz := Lib.hid hC
  clear hO hC
  have hS0 := Lib.hid (Stir.refl g w)
  by_cases h0 : xs.length = 0
  · have h1 : ((xs.length : Int) == 0) = true := beq_iff_eq.2 (by omega)
    clear hA
    go_enter Try.func72, Try.ntmps72
    go_wp2_with fail
    refine (among_any g _ 5 k [-1, 0, 50, 10000, 10001] _ (Cz.out.kept (Kept.alloc (Kept.refl _) _)) (by omega) (by exact NumsIn.lit (by rfl) (by simp)) (by omega) (by decide) (by decide)).mono ?_
    rintro e w1 ⟨x1, rfl, -, hc1, hs1⟩
    have C1 := Lib.hid (hc1.mono (k' := k + 10) (by omega))
    have S1 := Lib.hid ((hS0.out.alloc _).trans hs1)
    clear hc1 hs1
    go_wp2_with fail
    go_ret
    exact ⟨_, rfl, C1.out, S1.out⟩
  · have h1 : ((xs.length : Int) == 0) = false := beq_eq_false_iff_ne.2 (by omega)
    obtain ⟨b, off, rfl, hcc⟩ := hA (by omega)
    have hb : b ≠ g ∧ off = 0 := by
      obtain ⟨A', c', e', -, -, hA'⟩ := own_form Oz.out
      injection e' with e' _ _
      obtain ⟨b', e2, hb', -⟩ := hA' (by omega)
      rw [e2] at e'
      injection e' with e'
      injection e' with e' e3
      omega
    obtain ⟨hb, rfl⟩ := hb
    have HCC := Lib.hid hcc
    clear hcc hA
    go_enter Try.func72, Try.ntmps72
    go_wp2_with fail
    refine (one_any g k 10 _ Cz.out (by omega) (by omega)).mono ?_
    rintro e w1 ⟨t, rfl, hc1, hs1⟩
    have C1 := Lib.hid hc1
    have S1 := Lib.hid hs1
    have z1 := hs1.size
    clear hc1 hs1 Cz
    cases t
    rotate_left
    · go_wp2_with fail
      refine (among_any g _ 5 (k + 2) [-1, 0, 50, 10000, 10001] _ (C1.out.kept (Kept.alloc (Kept.refl _) _)) (by omega) (by exact NumsIn.lit (by rfl) (by simp)) (by omega) (by decide) (by decide)).mono ?_
      rintro e w2 ⟨x2, rfl, -, hc2, hs2⟩
      have C2 := Lib.hid (hc2.mono (k' := k + 10) (by omega))
      have S2 := Lib.hid ((S1.out.alloc _).trans hs2)
      clear hc2 hs2
      go_wp2_with fail
      go_ret
      exact ⟨_, rfl, C2.out, S2.out⟩
    · go_wp2_with fail
      refine wp_region_held_drew (S := fun w' => Stir g w w') (by kernel_rfl) (by (try dsimp only); exact S1.out.drew) (fun hHeld => ?_)
      refine wpAnyH_take (i := 0) (v := ?_) rfl (by kernel_rfl) (by kernel_rfl) (by kernel_rfl) (fun _ _ _ h => h) (Or.inl ⟨by kernel_rfl, ?_⟩) (by assumption) ?_
      rotate_left
      focus (intro w hSw; (try dsimp only at hSw); go_simp; (try with_reducible rfl))
      (try simp only [Act.put, List.getElem_toArray, List.getElem_cons_zero, List.getElem_cons_succ, List.setIfInBounds_toArray, List.set_cons_zero, List.set_cons_succ])
      refine wpAnyH_take (i := 1) (v := ?_) rfl (by kernel_rfl) (by kernel_rfl) (by kernel_rfl) (fun _ _ _ h => h) (Or.inl ⟨by kernel_rfl, ?_⟩) (by assumption) ?_
      rotate_left
      focus (intro w hSw; (try dsimp only at hSw); go_simp; (try with_reducible rfl))
      (try simp only [Act.put, List.getElem_toArray, List.getElem_cons_zero, List.getElem_cons_succ, List.setIfInBounds_toArray, List.set_cons_zero, List.set_cons_succ])
      refine wpAnyH_take (i := 2) (v := ?_) rfl (by kernel_rfl) (by kernel_rfl) (by kernel_rfl) (fun _ _ _ h => h) (Or.inl ⟨by kernel_rfl, ?_⟩) (by assumption) ?_
      rotate_left
      focus (intro w hSw; (try dsimp only at hSw); go_simp; (try with_reducible rfl))
      (try simp only [Act.put, List.getElem_toArray, List.getElem_cons_zero, List.getElem_cons_succ, List.setIfInBounds_toArray, List.set_cons_zero, List.set_cons_succ])
      refine wpAnyH_take (i := 3) (v := ?_) rfl (by kernel_rfl) (by kernel_rfl) (by kernel_rfl) (fun _ _ _ h => h) (Or.inl ⟨by kernel_rfl, ?_⟩) (by assumption) ?_
      rotate_left
      focus (intro w hSw; (try dsimp only at hSw); go_simp; (try with_reducible rfl))
      (try simp only [Act.put, List.getElem_toArray, List.getElem_cons_zero, List.getElem_cons_succ, List.setIfInBounds_toArray, List.set_cons_zero, List.set_cons_succ])
      refine wpAnyH_take (i := 8) (v := ?_) rfl (by kernel_rfl) (by kernel_rfl) (by kernel_rfl) (fun _ _ _ h => h) (Or.inl ⟨by kernel_rfl, ?_⟩) (by assumption) ?_
      rotate_left
      focus (intro w hSw; (try dsimp only at hSw); go_simp; (try with_reducible rfl))
      (try simp only [Act.put, List.getElem_toArray, List.getElem_cons_zero, List.getElem_cons_succ, List.setIfInBounds_toArray, List.set_cons_zero, List.set_cons_succ])
      refine wpAnyH_ready (rs := [4, 9]) (by kernel_rfl) (by simp) ?_
      refine AllReadyH.cons rfl (fun K hK => ?_) (AllReadyH.cons rfl (fun K hK => ?_) (AllReadyH.nil))
      · go_simp
        go_at_call 80
        refine (pick_any g (k + 2) (xs.length : Int) _ (C1.out.kept (Kept.drew (Kept.refl _))) (by omega) (by omega)).mono ?_
        rintro e w2 ⟨p, rfl, ⟨p0, p1⟩, hc2, hs2⟩
        have C2 := Lib.hid hc2
        have S2 := Lib.hid hs2
        obtain ⟨q, rfl⟩ : ∃ q : Nat, p = (q : Int) := ⟨p.toNat, by omega⟩
        have hq : q < xs.length := by omega
        have q0 : (0 : Int) ≤ (q : Int) := by omega
        have q1 : (q : Int) < (xs.length : Int) := by omega
        have kf : ∀ w' : World, Stir g w w' → w'.cell? ⟨b, 0 + q * 2, none⟩ = some (.int .i64 (P1 xs q)) := fun w' h => h.keep hb (HCC.out q hq).1
        try simp only [Nat.zero_add] at kf
        generalize P1 xs q = tq at kf
        clear p0 p1
        refine hK.out _ _ (by (try dsimp only); exact hHeld.trans S2.out) (fun hHeld => ?_)
        clear hK K
        (try simp only [Act.put, List.getElem_toArray, List.getElem_cons_zero, List.getElem_cons_succ, List.setIfInBounds_toArray, List.set_cons_zero, List.set_cons_succ])
        refine wpAnyH_take (i := 5) (v := ?_) rfl (by kernel_rfl) (by kernel_rfl) (by kernel_rfl) (fun _ _ _ h => h) (Or.inl ⟨by kernel_rfl, ?_⟩) (by assumption) ?_
        rotate_left
        focus (intro w hSw; (try dsimp only at hSw); go_simp; (try with_reducible rfl))
        (try simp only [Act.put, List.getElem_toArray, List.getElem_cons_zero, List.getElem_cons_succ, List.setIfInBounds_toArray, List.set_cons_zero, List.set_cons_succ])
        refine wpAnyH_take (i := 6) (v := ?_) rfl (by kernel_rfl) (by kernel_rfl) (by kernel_rfl) (fun _ _ _ h => h) (Or.inl ⟨by kernel_rfl, ?_⟩) (by assumption) ?_
        rotate_left
        focus (intro w hSw; (try dsimp only at hSw); go_simp; (try with_reducible rfl))
        (try simp only [Act.put, List.getElem_toArray, List.getElem_cons_zero, List.getElem_cons_succ, List.setIfInBounds_toArray, List.set_cons_zero, List.set_cons_succ])
        refine wpAnyH_take (i := 7) (v := ?_) rfl (by kernel_rfl) (by kernel_rfl) (by kernel_rfl) (fun _ _ _ h => h) (Or.inl ⟨by kernel_rfl, ?_⟩) (by assumption) ?_
        rotate_left
        focus (intro w hSw; (try dsimp only at hSw); go_simp; (try with_reducible rfl))
        (try simp only [Act.put, List.getElem_toArray, List.getElem_cons_zero, List.getElem_cons_succ, List.setIfInBounds_toArray, List.set_cons_zero, List.set_cons_succ])
        refine wpAnyH_ready (rs := [9]) (by kernel_rfl) (by simp) ?_
        refine AllReadyH.cons rfl (fun K hK => ?_) AllReadyH.nil
        go_simp
        refine hK.out _ _ (by (try dsimp only); exact hHeld.alloc _) (fun hHeld => ?_)
        clear hK K
        (try simp only [Act.put, List.getElem_toArray, List.getElem_cons_zero, List.getElem_cons_succ, List.setIfInBounds_toArray, List.set_cons_zero, List.set_cons_succ])
        refine wpAnyH_ready (rs := [10]) (by kernel_rfl) (by simp) ?_
        refine AllReadyH.cons rfl (fun K hK => ?_) AllReadyH.nil
        go_simp
        go_at_call 73
        refine (among_any g _ 6 (k + 2 + 2) [0, 0, 1, 7, 15, 30] _ (C2.out.kept (Kept.alloc (Kept.refl _) _)) (by omega) (by exact NumsIn.lit (by rfl) (by simp)) (by first | omega | (have := S1.out.size; have := S2.out.size; simp at *; omega)) (by decide) (by decide)).mono ?_
        rintro e w3 ⟨y, rfl, -, hc3, hs3⟩
        have C3 := Lib.hid hc3
        have S3 := Lib.hid hs3
        refine hK.out _ _ (by (try dsimp only); exact hHeld.trans S3.out) (fun hHeld => ?_)
        clear hK K
        (try simp only [Act.put, List.getElem_toArray, List.getElem_cons_zero, List.getElem_cons_succ, List.setIfInBounds_toArray, List.set_cons_zero, List.set_cons_succ])
        refine wpAnyH_ready (rs := [11]) (by kernel_rfl) (by simp) ?_
        refine AllReadyH.cons rfl (fun K hK => ?_) AllReadyH.nil
        go_simp
        refine hK.out _ _ (by (try dsimp only); exact hHeld) (fun hHeld => ?_)
        clear hK K
        (try simp only [Act.put, List.getElem_toArray, List.getElem_cons_zero, List.getElem_cons_succ, List.setIfInBounds_toArray, List.set_cons_zero, List.set_cons_succ])
        refine wpAnyH_ready (rs := [12]) (by kernel_rfl) (by simp) ?_
        refine AllReadyH.cons rfl (fun K hK => ?_) AllReadyH.nil
        go_simp
        refine hK.out _ _ (by (try dsimp only); exact hHeld) (fun hHeld => ?_)
        clear hK K
        (try simp only [Act.put, List.getElem_toArray, List.getElem_cons_zero, List.getElem_cons_succ, List.setIfInBounds_toArray, List.set_cons_zero, List.set_cons_succ])
        refine wpAnyH_done (by kernel_rfl) ?_ _
        have SF := Lib.hid hHeld
        go_wp2_with fail
        go_ret
        exact ⟨_, rfl, C3.out.mono (by omega), SF.out⟩
      · go_simp
        refine hK.out _ _ (by (try dsimp only); exact hHeld.alloc _) (fun hHeld => ?_)
        clear hK K
        (try simp only [Act.put, List.getElem_toArray, List.getElem_cons_zero, List.getElem_cons_succ, List.setIfInBounds_toArray, List.set_cons_zero, List.set_cons_succ])
        refine wpAnyH_ready (rs := [4]) (by kernel_rfl) (by simp) ?_
        refine AllReadyH.cons rfl (fun K hK => ?_) AllReadyH.nil
        go_simp
        go_at_call 80
        refine (pick_any g (k + 2) (xs.length : Int) _ (C1.out.kept (Kept.alloc (Kept.drew (Kept.refl _)) _)) (by omega) (by omega)).mono ?_
        rintro e w2 ⟨p, rfl, ⟨p0, p1⟩, hc2, hs2⟩
        have C2 := Lib.hid hc2
        have S2 := Lib.hid hs2
        obtain ⟨q, rfl⟩ : ∃ q : Nat, p = (q : Int) := ⟨p.toNat, by omega⟩
        have hq : q < xs.length := by omega
        have q0 : (0 : Int) ≤ (q : Int) := by omega
        have q1 : (q : Int) < (xs.length : Int) := by omega
        have kf : ∀ w' : World, Stir g w w' → w'.cell? ⟨b, 0 + q * 2, none⟩ = some (.int .i64 (P1 xs q)) := fun w' h => h.keep hb (HCC.out q hq).1
        try simp only [Nat.zero_add] at kf
        generalize P1 xs q = tq at kf
        clear p0 p1
        refine hK.out _ _ (by (try dsimp only); exact hHeld.trans S2.out) (fun hHeld => ?_)
        clear hK K
        (try simp only [Act.put, List.getElem_toArray, List.getElem_cons_zero, List.getElem_cons_succ, List.setIfInBounds_toArray, List.set_cons_zero, List.set_cons_succ])
        refine wpAnyH_take (i := 5) (v := ?_) rfl (by kernel_rfl) (by kernel_rfl) (by kernel_rfl) (fun _ _ _ h => h) (Or.inl ⟨by kernel_rfl, ?_⟩) (by assumption) ?_
        rotate_left
        focus (intro w hSw; (try dsimp only at hSw); go_simp; (try with_reducible rfl))
        (try simp only [Act.put, List.getElem_toArray, List.getElem_cons_zero, List.getElem_cons_succ, List.setIfInBounds_toArray, List.set_cons_zero, List.set_cons_succ])
        refine wpAnyH_take (i := 6) (v := ?_) rfl (by kernel_rfl) (by kernel_rfl) (by kernel_rfl) (fun _ _ _ h => h) (Or.inl ⟨by kernel_rfl, ?_⟩) (by assumption) ?_
        rotate_left
        focus (intro w hSw; (try dsimp only at hSw); go_simp; (try with_reducible rfl))
        (try simp only [Act.put, List.getElem_toArray, List.getElem_cons_zero, List.getElem_cons_succ, List.setIfInBounds_toArray, List.set_cons_zero, List.set_cons_succ])
        refine wpAnyH_take (i := 7) (v := ?_) rfl (by kernel_rfl) (by kernel_rfl) (by kernel_rfl) (fun _ _ _ h => h) (Or.inl ⟨by kernel_rfl, ?_⟩) (by assumption) ?_
        rotate_left
        focus (intro w hSw; (try dsimp only at hSw); go_simp; (try with_reducible rfl))
        (try simp only [Act.put, List.getElem_toArray, List.getElem_cons_zero, List.getElem_cons_succ, List.setIfInBounds_toArray, List.set_cons_zero, List.set_cons_succ])
        refine wpAnyH_ready (rs := [10]) (by kernel_rfl) (by simp) ?_
        refine AllReadyH.cons rfl (fun K hK => ?_) AllReadyH.nil
        go_simp
        go_at_call 73
        refine (among_any g _ 6 (k + 2 + 2) [0, 0, 1, 7, 15, 30] _ (C2.out) (by omega) (by exact NumsIn.stir (NumsIn.lit (n := w1.heap.size) (by rfl) (by simp)) S2.out (by omega)) (by omega) (by decide) (by decide)).mono ?_
        rintro e w3 ⟨y, rfl, -, hc3, hs3⟩
        have C3 := Lib.hid hc3
        have S3 := Lib.hid hs3
        refine hK.out _ _ (by (try dsimp only); exact hHeld.trans S3.out) (fun hHeld => ?_)
        clear hK K
        (try simp only [Act.put, List.getElem_toArray, List.getElem_cons_zero, List.getElem_cons_succ, List.setIfInBounds_toArray, List.set_cons_zero, List.set_cons_succ])
        refine wpAnyH_ready (rs := [11]) (by kernel_rfl) (by simp) ?_
        refine AllReadyH.cons rfl (fun K hK => ?_) AllReadyH.nil
        go_simp
        refine hK.out _ _ (by (try dsimp only); exact hHeld) (fun hHeld => ?_)
        clear hK K
        (try simp only [Act.put, List.getElem_toArray, List.getElem_cons_zero, List.getElem_cons_succ, List.setIfInBounds_toArray, List.set_cons_zero, List.set_cons_succ])
        refine wpAnyH_ready (rs := [12]) (by kernel_rfl) (by simp) ?_
        refine AllReadyH.cons rfl (fun K hK => ?_) AllReadyH.nil
        go_simp
        refine hK.out _ _ (by (try dsimp only); exact hHeld) (fun hHeld => ?_)
        clear hK K
        (try simp only [Act.put, List.getElem_toArray, List.getElem_cons_zero, List.getElem_cons_succ, List.setIfInBounds_toArray, List.set_cons_zero, List.set_cons_succ])
        refine wpAnyH_done (by kernel_rfl) ?_ _
        have SF := Lib.hid hHeld
        go_wp2_with fail
        go_ret
        exact ⟨_, rfl, C3.out.mono (by omega), SF.out⟩
end Go.Proofs.Ytlkbneklmcefcaa
