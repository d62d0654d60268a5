/-
  The contract of DrawJoinStrings.
  Conditions: none.
-/
import Derived.Test.YtlnhdjajbiahbaaDrawS
import Derived.Deep.OwnRows
import Derived.Deep.DeepCutAuto
namespace Go.Proofs.Ytlnhdjajbiahbaa
open Go.ChangeShapes Go.WideShapes Go.ChangeAt Go.RowKit
set_option linter.unusedVariables false
set_option linter.unusedSimpArgs false

theorem cell_of_grown {a b : World} {row : Option Nat} (h : a.grownBy b row) {p : Addr} {v : Value} (hp : ∀ k, row = some k → p.block ≠ k) (hc : a.cell? p = some v) : b.cell? p = some v :=
  h.cell hc (by intro e; exact hp _ e.symm rfl)
theorem free_of_grown {a b : World} {row : Option Nat} (h : a.grownBy b row) {p : Addr} {v : Value} (hp : ∀ k, row = some k → p.block ≠ k) (hc : a.cell? p = some v) (hf : a.frozen? p = false) : b.frozen? p = false :=
  (World.frozen?_of_block (h.block p.block (World.block_lt_of_cell? a _ hc) (by intro e; exact hp _ e.symm rfl))).trans hf
theorem Cur.grown {a b : World} {g : Nat} {n : Int} {row : Option Nat} (h : Cur a g n) (q : a.grownBy b row) (hr : ∀ k, row = some k → g < k) : Cur b g n := by
  obtain ⟨⟨A, len, cap, h0, hc⟩, h1, ⟨s, h2⟩, f1, f2, hpos⟩ := h
  have hn : ∀ k, row = some k → g ≠ k := fun k hk => Nat.ne_of_lt (hr k hk)
  refine ⟨⟨A, len, cap, cell_of_grown q hn h0, hc.1, hc.2.1, fun hl => ?_⟩, cell_of_grown q hn h1, ⟨s, cell_of_grown q hn h2⟩, free_of_grown q hn h1 f1, free_of_grown q hn h2 f2, hpos⟩
  obtain ⟨b', off, e, hb, hx⟩ := hc.2.2 hl
  refine ⟨b', off, e, hb, fun i hi => ?_⟩
  obtain ⟨x, x0, x1, hx⟩ := hx i hi
  exact ⟨x, x0, x1, cell_of_grown q (fun k hk => Nat.ne_of_lt (Nat.lt_trans hb (hr k hk))) hx⟩
theorem CurB.grown {a b : World} {g : Nat} {k : Int} {row : Option Nat} (h : CurB a g k) (q : a.grownBy b row) (hr : ∀ k, row = some k → g < k) : CurB b g k := let ⟨n, h1, h2⟩ := h; ⟨n, h1, h2.grown q hr⟩
theorem Stir.grown {g : Nat} {w a b : World} {row : Option Nat} (h : Stir g w a) (q : a.grownBy b row) (hr : ∀ k, row = some k → w.heap.size ≤ k) : Stir g w b :=
  ⟨q.os.trans h.by_.os, q.tape.trans h.by_.tape, q.output.trans h.by_.output, Nat.le_trans h.by_.size q.size, fun k hk hg =>
    (q.block k (Nat.lt_of_lt_of_le hk h.by_.size) (fun e => absurd (hr k e.symm) (by omega))).trans (h.by_.block k hk hg)⟩
theorem own_row_ge {a : World} {base size n : Nat} {e : TypeId} {v : Value} {xs : List Value} (ho : a.ownsRow base e size v n xs) : ∀ k, v.ownBlock = some k → base ≤ k := fun k hk => (ho.lt k hk).1
def zb (n : Nat) : ByteArray := ⟨(List.replicate n (0 : UInt8)).toArray⟩
theorem zb_size (n : Nat) : (zb n).size = n := by simp [zb, ByteArray.size]
theorem infoByte : (Try.prog.info? 5).map (fun i => (i.zero, i.size, i.bytes)) = some (some (.int .u8 0), 1, 1) := by kernel_rfl
theorem run_zeros (W : World) (n : Nat) : (convert 32 9 (.slice (some ⟨W.heap.size, 0, none⟩) n n)).run Try.prog (W.alloc (.cells (madeCells #[.int .u8 0] n) 5)) = .ok (.string (zb n)) (W.alloc (.cells (madeCells #[.int .u8 0] n) 5)) := by
  have hrow := World.rowIs_made W (.int .u8 0) n 5
  have h := run_convert_bytes_back (P := Try.prog) (W.alloc (.cells (madeCells #[.int .u8 0] n) 5)) 32 9 5 ⟨W.heap.size, 0, none⟩ n (List.replicate n (0 : UInt8)) Try.underlying32 Try.underlying5 Try.underlying9 (fun j hj => by
    have hj' : j < n := by simpa using hj
    rw [Go.WideShapes.add_plain, Nat.zero_add]
    rw [hrow.cell hj']
    simp)
  rw [List.length_replicate] at h
  exact h
set_option maxRecDepth 100000 in
set_option maxHeartbeats 2000000 in
theorem drawJoinStrings_any (v : Value) (w : World) (hc : CodeW w v) : Calls Try.prog 17 #[v] w fun e w' => ∃ (l : Value) (xs : List ByteArray) (t : ByteArray), e = .returned (.tuple #[l, .string t]) ∧ xs.length ≤ 4 ∧ (∀ x ∈ xs, x.size ≤ 5000) ∧ t.size ≤ 2 ∧ Lies w' 1 strC l xs ∧ Kept w w' := by
  obtain ⟨i0, hi0, hz0, hz1, hz2⟩ := info_parts infoStr
  obtain ⟨j0, hj0, hy0, hy1, hy2⟩ := info_parts infoByte
  obtain ⟨A, len, cap, rfl, hc⟩ := hc
  have HC := Lib.hid hc
  clear hc
  go_enter Try.func17, Try.ntmps17
  have C0 := Lib.hid (CurB.new (W := w) (g := w.heap.size) rfl HC.out 46)
  have K0 : Hid (Kept w (w.alloc (.cells #[.slice A len cap, .int .i64 0, .int .u64 0] 46))) := Lib.hid (Kept.alloc (Kept.refl _) _)
  have O0 : Hid (((w.alloc (.cells #[.slice A len cap, .int .i64 0, .int .u64 0] 46)).alloc (.cells #[] 9)).ownsRow (w.heap.size + 1) 9 1 (.slice (some ⟨w.heap.size + 1, 0, none⟩) 0 0) 0 []) := Lib.hid (by have hq := World.ownsRow_lit (e := 9) (size := 1) (w.alloc (.cells #[.slice A len cap, .int .i64 0, .int .u64 0] 46)) #[] 0 (Nat.le_refl _) (by simp [maxLen]) rfl; simpa only [World.size_alloc] using hq)
  go_wp2_with fail
  refine (pick_any w.heap.size 0 4 _ (C0.out.kept (Kept.alloc (Kept.refl _) _)) (by omega) (by omega)).mono ?_
  rintro e w1 ⟨n0, rfl, ⟨n00, n01⟩, hc1, hs1⟩
  obtain ⟨m0, rfl⟩ : ∃ m : Nat, n0 = (m : Int) := ⟨n0.toNat, by omega⟩
  have hm0 : m0 ≤ 3 := by omega
  have O1 := Lib.hid (hs1.own O0.out (by omega))
  have C1 := Lib.hid hc1
  have S1 := Lib.hid ((Stir.kept (g := w.heap.size) (Kept.alloc (Kept.refl (w.alloc (.cells #[.slice A len cap, .int .i64 0, .int .u64 0] 46))) (.cells #[] 9))).trans hs1)
  clear hc1 hs1 n00 n01 O0
  go_wp2_with fail
  go_loopw [5, 7] (fun v i wr => ∃ xs : List ByteArray, xs.length ≤ m0 ∧ i = .int .i64 (xs.length : Int) ∧ (∀ x ∈ xs, x.size ≤ 5000) ∧ wr.ownsRow (w.heap.size + 1) 9 1 v xs.length (xs.flatMap strC) ∧ CurB wr w.heap.size (2 + 2 * (xs.length : Int)) ∧ Stir w.heap.size (w.alloc (.cells #[.slice A len cap, .int .i64 0, .int .u64 0] 46)) wr) (fun _ i _ => m0 - (intOf i).toNat)
  case atStart => exact ⟨[], by simp, rfl, fun x hx => absurd hx (by simp), O1.out, by have hq := C1.out; refine hq.mono ?_; simp, S1.out⟩
  case round =>
    clear C1 S1 O1
    obtain ⟨xs, hk, rfl, hsz, ho, hcu, hst⟩ := hrel
    obtain ⟨Av, cv, rfl, -, -, -⟩ := own_form ho
    have Or := Lib.hid ho
    have Cr := Lib.hid hcu
    have Sr := Lib.hid hst
    have HSZ := Lib.hid hsz
    have zr := hst.size
    simp only [World.size_alloc] at zr
    clear ho hcu hst hsz
    by_cases hlt : xs.length < m0
    · go_wp2_with fail
      refine (any1_any w.heap.size _ _ Cr.out (by omega)).mono ?_
      rintro e w3 ⟨s, rfl, hs10, hc3, hs3⟩
      have z3 := hs3.size
      have Oa := Lib.hid (own_kept (hs3.own Or.out (by omega)) (Kept.alloc (Kept.refl w3) (.cells #[.string s] 9)))
      have Ca := Lib.hid (hc3.kept (Kept.alloc (Kept.refl w3) (.cells #[.string s] 9)))
      have Sa := Lib.hid ((Sr.out.trans hs3).alloc (.cells #[.string s] 9))
      clear hc3 hs3 Or Cr Sr
      go_wp2_with (at_builtin; refine wpList_append_own_at _ rfl (.tmp 19) (.tmp 22) _ rfl (w.heap.size + 1) 9 i0 _ 1 16 Try.underlying22 hi0 hz0 hz1 hz2 rfl (by decide) _ xs.length _ rfl Oa.out ⟨w3.heap.size, 0, none⟩ 1 1 [.string s] rfl rfl (news_one _ _ _ rfl) (by simp [Value.oneCell']) (by unfold maxLen; omega) (by omega) (by simp; omega) ?_; intro v4 w4 hown1 hgrow1 _ _)
      have hr := own_row_ge Oa.out
      have C4 := Lib.hid (Ca.out.grown hgrow1 (fun k hk => by have := hr k hk; omega))
      have S4 := Lib.hid (Sa.out.grown hgrow1 (fun k hk => by have := hr k hk; simp; omega))
      have O4 := Lib.hid hown1
      clear hown1 hgrow1 hr Oa Ca Sa
      go_wp2_with fail
      go_roundw
      case rel => exact ⟨xs ++ [s], by simp; omega, by rw [List.length_append]; go_num, fun x hx => by
        rcases List.mem_append.1 hx with hx | hx
        · exact HSZ.out x hx
        · rw [List.mem_singleton] at hx
          subst hx
          omega, by rw [List.length_append, List.flatMap_append]; exact O4.out, by have hq := C4.out; refine hq.mono ?_; rw [List.length_append]; simp; omega, S4.out⟩
      case measure => simp [intOf]; omega
    · have hx3 : xs.length ≤ 3 := by omega
      have Cr2 : Hid (CurB wr w.heap.size 10) := Lib.hid (Cr.out.mono (by omega))
      have hge : (m0 : Int) ≤ (xs.length : Int) := by omega
      clear hlt hk Cr
      go_wp2_with fail
      refine (one_any w.heap.size 10 20 _ Cr2.out (by omega) (by omega)).mono ?_
      rintro e w5 ⟨t, rfl, hc5, hs5⟩
      have O5 := Lib.hid (hs5.own Or.out (by omega))
      have C5 := Lib.hid hc5
      have S5 := Lib.hid (Sr.out.trans hs5)
      have z5 := hs5.size
      clear hc5 hs5 Or Cr2 Sr
      go_upto_if 25 with fail
      go_cut [5] (fun s wx => ∃ (Am : Option Addr) (cm : Nat) (ys : List ByteArray), s = .slice Am ys.length cm ∧ ys.length ≤ 4 ∧ (∀ x ∈ ys, x.size ≤ 5000) ∧ wx.ownsRow (w.heap.size + 1) 9 1 s ys.length (ys.flatMap strC) ∧ CurB wx w.heap.size 14 ∧ Stir w.heap.size (w.alloc (.cells #[.slice A len cap, .int .i64 0, .int .u64 0] 46)) wx ∧ w.heap.size + 1 ≤ wx.heap.size)
      case first =>
        cases t
        · go_wp2_with fail
          go_meet
          exact ⟨Av, cv, xs, rfl, by omega, HSZ.out, O5.out, C5.out.mono (by omega), S5.out, by omega⟩
        · go_wp2_with fail
          refine (pick_any w.heap.size 12 20 _ (C5.out.mono (by omega)) (by omega) (by omega)).mono ?_
          rintro e w6 ⟨q0, rfl, ⟨q00, q01⟩, hc6, hs6⟩
          obtain ⟨q, rfl⟩ : ∃ q : Nat, q0 = (q : Int) := ⟨q0.toNat, by omega⟩
          have hq : q < 20 := by omega
          have hmk : ∀ W : World, (Instr.makeSlice 32 (.int .i64 (3990 + (q : Int))) (.int .i64 (3990 + (q : Int)))).run Try.prog W = .ok (.slice (some ⟨W.heap.size, 0, none⟩) (3990 + q) (3990 + q)) (W.alloc (.cells (madeCells #[.int .u8 0] (3990 + q)) 5)) := fun W => by
            have h := run_make_rowN (P := Try.prog) 32 5 j0 _ Try.underlying32 hj0 hy0 .i64 .i64 (3990 + q) (3990 + q) (Nat.le_refl _) (by rw [hy2]; omega) (by omega) W
            rw [hy1, Nat.mul_one, show ((3990 + q : Nat) : Int) = 3990 + (q : Int) by omega] at h
            exact h
          have hcv := run_zeros w6 (3990 + q)
          have z6 := hs6.size
          have O6 := Lib.hid (own_kept (hs6.own O5.out (by omega)) (Kept.alloc (Kept.alloc (Kept.refl w6) (.cells (madeCells #[.int .u8 0] (3990 + q)) 5)) (.cells #[.string (zb (3990 + q))] 9)))
          have C6 := Lib.hid (hc6.kept (Kept.alloc (Kept.alloc (Kept.refl w6) (.cells (madeCells #[.int .u8 0] (3990 + q)) 5)) (.cells #[.string (zb (3990 + q))] 9)))
          have S6 := Lib.hid (((S5.out.trans hs6).alloc (.cells (madeCells #[.int .u8 0] (3990 + q)) 5)).alloc (.cells #[.string (zb (3990 + q))] 9))
          have hzs := zb_size (3990 + q)
          clear hc6 hs6 q00 q01 O5 C5 S5
          have HSZ2 : Hid (∀ x ∈ xs ++ [zb (3990 + q)], x.size ≤ 5000) := Lib.hid (fun x hx => by
            rcases List.mem_append.1 hx with hx | hx
            · exact HSZ.out x hx
            · rw [List.mem_singleton] at hx
              subst hx
              omega)
          generalize zb (3990 + q) = zt at hcv O6 C6 S6 hzs HSZ2
          go_wp2_with (at_builtin; refine wpList_append_own_at _ rfl (.tmp 26) (.tmp 32) _ rfl (w.heap.size + 1) 9 i0 _ 1 16 Try.underlying22 hi0 hz0 hz1 hz2 rfl (by decide) _ xs.length _ rfl O6.out ⟨w6.heap.size + 1, 0, none⟩ 1 1 [.string zt] rfl rfl (news_one _ _ _ (by simp)) (by simp [Value.oneCell']) (by unfold maxLen; omega) (by omega) (by simp; omega) ?_; intro v7 w7 hown1 hgrow1 _ _)
          have hr := own_row_ge O6.out
          have C7 := Lib.hid (C6.out.grown hgrow1 (fun k hk => by have := hr k hk; omega))
          have S7 := Lib.hid (S6.out.grown hgrow1 (fun k hk => by have := hr k hk; simp; omega))
          obtain ⟨A7, c7, rfl, -, -, -⟩ := own_form hown1
          have O7 := Lib.hid hown1
          have z7 := S7.out.size
          simp only [World.size_alloc] at z7
          clear hown1 hgrow1 hr
          go_wp2_with fail
          go_meet
          exact ⟨A7, c7, xs ++ [zt], by rw [List.length_append]; rfl, by simp; omega, HSZ2.out, by rw [List.length_append, List.flatMap_append]; exact O7.out, C7.out.mono (by omega), S7.out, by omega⟩
      case rest =>
        obtain ⟨Am, cm, ys, rfl, hy4, hysz, hown, hcu, hst, hzz⟩ := hcut
        have O8 := Lib.hid hown
        have C8 := Lib.hid hcu
        have S8 := Lib.hid hst
        have HY := Lib.hid hysz
        clear hown hcu hst hysz O5 C5 S5
        go_wp2_with fail
        refine (of_any w.heap.size _ 5 14 sepL2 _ (C8.out.kept (Kept.alloc (Kept.refl _) _)) (by omega) (by exact StrsIn.lit (by rfl) (by simp)) (by omega) (by decide) (by decide)).mono ?_
        rintro e w9 ⟨b, rfl, hm, -, hs9⟩
        have HM := Lib.hid (sepL2_size b hm)
        have O9 := Lib.hid (hs9.own (own_kept O8.out (Kept.alloc (Kept.refl _) _)) (by omega))
        have S9 := Lib.hid ((S8.out.alloc _).trans hs9)
        clear hs9 hm
        have KF := Lib.hid (Stir.out K0.out S9.out (Nat.le_refl _))
        go_wp2_with fail
        go_ret2
        exact ⟨_, ys, _, rfl, hy4, HY.out, HM.out, strs_own O9.out, KF.out⟩
end Go.Proofs.Ytlnhdjajbiahbaa
