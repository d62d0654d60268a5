/-
  The draw of a list of gauges.
  Conditions: none.
-/
import Derived.Test.YtopdnhlolfehcaaGDraw
import Derived.Test.YtopdnhlolfehcaaGRow
import Derived.Laws.IdiomStrings
namespace Go.Proofs.Ytopdnhlolfehcaa
open Go.ChangeShapes Go.WideShapes Go.ChangeAt Go.RowKit
set_option linter.unusedVariables false
set_option linter.unusedSimpArgs false
set_option maxRecDepth 100000 in
set_option maxHeartbeats 8000000 in
theorem gauges_any (g : Nat) (k : Int) (w : World) (hC : CurB w g k) (hk : k ≤ 500000) : Calls Try.prog 98 #[.pointer (some ⟨g, 0, none⟩)] w fun e w' => ∃ (u : Value) (gs : List Gz), e = .returned u ∧ gs.length ≤ 10 ∧ GFit gs ∧ GRow w' w.heap.size u gs ∧ CurB w' g (k + 2000) ∧ Stir g w w' := by
  obtain ⟨i0, hi0, hz0, hz1, hz2⟩ := info_parts infoGauge
  have hg := hC.lt
  have HC := Lib.hid hC
  clear hC
  go_enter Try.func98, Try.ntmps98
  have G0 := Lib.hid (GRow.lit (w := w) (B := w.heap.size) (Nat.le_refl _))
  go_wp2_with fail
  refine (pick_any g k 5 _ (HC.out.kept (Kept.alloc (Kept.refl _) _)) (by omega) (by omega)).mono ?_
  rintro e w1 ⟨n0, rfl, ⟨n00, n01⟩, hc1, hs1⟩
  obtain ⟨m0, rfl⟩ : ∃ m : Nat, n0 = (m : Int) := ⟨n0.toNat, by omega⟩
  have G1 := Lib.hid (G0.out.stir hs1 hg)
  have C1 := Lib.hid hc1
  have S1 := Lib.hid ((Stir.kept (g := g) (Kept.alloc (Kept.refl w) (.cells #[] 26))).trans hs1)
  have m5 : m0 ≤ 4 := by omega
  clear hc1 hs1 G0 n00 n01
  go_wp2_with fail
  go_loopw [3, 4, 5] (fun s i n wr => ∃ (q : Nat) (idv : Int) (gs : List Gz), q ≤ m0 ∧ n = .int .i64 (q : Int) ∧ i = .int .i64 idv ∧ GRow wr w.heap.size s gs ∧ gs.length ≤ m0 - q ∧ GFit gs ∧ CurB wr g (k + 2 + 300 * ((m0 : Int) - (q : Int))) ∧ Stir g w wr) (fun _ _ n _ => (intOf n).toNat)
  case atStart => exact ⟨m0, 0, [], Nat.le_refl _, rfl, rfl, G1.out, by simp, GFit.nil, C1.out.mono (by omega), S1.out⟩
  case round =>
    clear G1 C1 S1
    obtain ⟨q, idv, gs, hq, rfl, rfl, hG, hl, hF, hcu, hst⟩ := hrel
    obtain ⟨A, c, rfl⟩ := hG.form
    have GR := Lib.hid hG
    have FR := Lib.hid hF
    have CU := Lib.hid hcu
    have SU := Lib.hid hst
    clear hG hF hcu hst
    by_cases hq0 : 0 < q
    · have q1 : (0 : Int) < (q : Int) := by omega
      go_wp2_with fail
      refine (pick_any g _ 3 _ CU.out (by omega) (by omega)).mono ?_
      rintro e w2 ⟨x2, rfl, -, hc2, hs2⟩
      obtain ⟨ys, ho, hr⟩ := GR.out.stir hs2 hg
      have HO := Lib.hid ho
      have HR := Lib.hid hr
      have C2 := Lib.hid hc2
      have S2 := Lib.hid (SU.out.trans hs2)
      have kl : Kept w2 (w2.alloc (.cells #[] 26)) := Kept.alloc (Kept.refl _) _
      have HL := Lib.hid (World.ownsRow_lit (e := 26) (size := 4) (base := w2.heap.size) w2 #[] 0 (Nat.le_refl _) (by simp [maxLen]) rfl)
      have HO2 := Lib.hid (own_kept ho kl)
      have HR2 : Hid (∀ i, i < gs.length → ∃ u, RowG ys i (GZ gs i) u ∧ u.oneCell' = true ∧ (w2.alloc (.cells #[] 26)).ownsRow w.heap.size 28 2 u (GZ gs i).xs.length ((GZ gs i).xs.flatMap pairC)) := Lib.hid (fun i hi => let ⟨u, a, b, c⟩ := hr i hi; ⟨u, a, b, own_kept c kl⟩)
      have ONE := Lib.hid (rowG_one ho.1 (fun i hi => let ⟨u, a, b, _⟩ := hr i hi; ⟨u, a, b⟩))
      have G2 := Lib.hid (GR.out.stir hs2 hg)
      have hz2w := S2.out.size
      have hg2 : g < w2.heap.size := by omega
      clear hc2 hs2 ho hr CU SU GR kl HO HR
      go_wp2_with (at_builtin; refine wpList_append_row _ rfl (.tmp 20) (.tmp 21) _ rfl w2.heap.size 4 26 i0 _ 56 Try.underlying62 hi0 hz0 hz1 hz2 rfl (by decide) _ 0 [] rfl HL.out _ gs.length ys w.heap.size rfl HO2.out ONE.out (by unfold maxLen; omega) (by omega) (by simp) ?_; intro v3 w3 hown3 hgrow3; rw [Nat.zero_add, List.nil_append] at hown3; obtain ⟨A3, c3, rfl, -, -, -⟩ := own_form hown3)
      have hrow3 : ∀ j, (Value.slice (some ⟨w2.heap.size, 0, none⟩) 0 0).ownBlock = some j → w2.heap.size ≤ j := fun j hj => (HL.out.lt j hj).1
      have O3 := Lib.hid hown3
      have R3 : Hid (∀ i, i < gs.length → ∃ u, RowG ys i (GZ gs i) u ∧ u.oneCell' = true ∧ w3.ownsRow w.heap.size 28 2 u (GZ gs i).xs.length ((GZ gs i).xs.flatMap pairC)) := Lib.hid (fun i hi => let ⟨u, a, b, c⟩ := HR2.out i hi; ⟨u, a, b, c.kept hgrow3 (own_unlike (by decide) c HL.out)⟩)
      have C3 := Lib.hid ((C2.out.kept (Kept.alloc (Kept.refl w2) (.cells #[] 26))).grown hgrow3 (fun j hj => by have := hrow3 j hj; omega))
      have T3 := Lib.hid (((Stir.refl g w2).alloc (.cells #[] 26)).grown hgrow3 hrow3)
      clear hown3 hgrow3 HR2 HO2 hrow3 C2
      refine (gauge_any g _ _ _ C3.out (by omega)).mono ?_
      rintro e w4 ⟨i4, z4, nm4, u4, xs4, rfl, hnm4, hxl4, ho4, hc4, hs4⟩
      obtain ⟨A4, c4, rfl, -, -, -⟩ := own_form ho4
      have hz3 := T3.out.size
      have kw : Kept w4 (w4.alloc (.cells #[.int .i64 i4, .string nm4, .int .i64 z4, .slice A4 xs4.length c4] 26)) := Kept.alloc (Kept.refl _) _
      have O4 := Lib.hid (own_kept (hs4.own O3.out hg2) kw)
      have R4 : Hid (∀ i, i < gs.length → ∃ u, RowG ys i (GZ gs i) u ∧ u.oneCell' = true ∧ (w4.alloc (.cells #[.int .i64 i4, .string nm4, .int .i64 z4, .slice A4 xs4.length c4] 26)).ownsRow w.heap.size 28 2 u (GZ gs i).xs.length ((GZ gs i).xs.flatMap pairC)) := Lib.hid (fun i hi => let ⟨u, a, b, c⟩ := R3.out i hi; ⟨u, a, b, own_kept (hs4.own c hg) kw⟩)
      have U4 := Lib.hid (own_base (own_kept ho4 kw) (base' := w.heap.size) (by omega))
      have C4 := Lib.hid (hc4.kept kw)
      have T4 := Lib.hid ((T3.out.trans hs4).alloc (.cells #[.int .i64 i4, .string nm4, .int .i64 z4, .slice A4 xs4.length c4] 26))
      have hz4 := hs4.size
      clear ho4 hc4 hs4 kw R3 C3 O3
      go_wp2_with (at_builtin; refine wpList_append_own_at _ rfl (.tmp 22) (.tmp 26) _ rfl w2.heap.size 26 i0 _ 4 56 Try.underlying62 hi0 hz0 hz1 hz2 rfl (by decide) _ gs.length _ rfl O4.out ⟨w4.heap.size, 0, none⟩ 1 1 [.int .i64 i4, .string nm4, .int .i64 z4, .slice A4 xs4.length c4] rfl rfl (World.news_of_block (cs := #[.int .i64 i4, .string nm4, .int .i64 z4, .slice A4 xs4.length c4]) (heap_alloc_new w4 _)) (by simp [Value.oneCell']) (by unfold maxLen; omega) (by omega) (by simp; omega) ?_; intro v5 w5 hown5 hgrow5 _ _; obtain ⟨A5, c5, rfl, -, -, -⟩ := own_form hown5)
      have G5 := Lib.hid (GRow.push (B := w.heap.size) ⟨i4, nm4, z4, xs4⟩ (own_base O4.out (by omega)) R4.out U4.out rfl (own_base hown5 (by omega)) hgrow5)
      have hrow4 : ∀ j, (Value.slice A3 gs.length c3).ownBlock = some j → w2.heap.size ≤ j := fun j hj => (O4.out.lt j hj).1
      have C5 := Lib.hid (C4.out.grown hgrow5 (fun j hj => by have := hrow4 j hj; omega))
      have T5 := Lib.hid (T4.out.grown hgrow5 hrow4)
      have F5 := Lib.hid (FR.out.push (g := ⟨i4, nm4, z4, xs4⟩) hnm4 hxl4)
      clear hown5 hgrow5 hrow4 R4 U4 O4 C4 T4 T3 HL ONE
      have hl5 : (gs ++ [(⟨i4, nm4, z4, xs4⟩ : Gz)]).length = gs.length + 1 := by simp
      refine (l3Good_any _ (gs ++ [⟨i4, nm4, z4, xs4⟩]) _ G5.out.lies F5.out.sized).mono ?_
      rintro e w6 ⟨rfl, k6⟩
      have G6 := Lib.hid (G5.out.kept k6)
      have C6 := Lib.hid (C5.out.kept k6)
      have T6 := Lib.hid (T5.out.trans (Stir.kept k6))
      clear k6 G5 C5 T5
      generalize gs ++ [(⟨i4, nm4, z4, xs4⟩ : Gz)] = gs5 at G6 F5 hl5 ⊢
      cases hgb : gaugesB gs5
      · go_wp2_with fail
        refine (one_any g _ 30 _ C6.out (by omega) (by omega)).mono ?_
        rintro e w7 ⟨bb, rfl, hc7, hs7⟩
        have C7 := Lib.hid hc7
        have T7 := Lib.hid (T6.out.trans hs7)
        have G7 := Lib.hid (G6.out.stir hs7 hg)
        clear hc7 hs7 G6 C6 T6
        cases bb
        · go_wp2_with fail
          go_roundw
          case rel => exact ⟨q - 1, _, gs, by omega, by rw [show (((q - 1 : Nat)) : Int) = (q : Int) - 1 by omega], rfl, G2.out.stir T7.out hg, by omega, FR.out, C7.out.mono (by omega), S2.out.trans T7.out⟩
          case measure => simp [intOf]; omega
        · go_wp2_with fail
          go_roundw
          case rel => exact ⟨q - 1, _, gs5, by omega, by rw [show (((q - 1 : Nat)) : Int) = (q : Int) - 1 by omega], rfl, G7.out, by omega, F5.out, C7.out.mono (by omega), S2.out.trans T7.out⟩
          case measure => simp [intOf]; omega
      · go_wp2_with fail
        go_roundw
        case rel => exact ⟨q - 1, _, gs5, by omega, by rw [show (((q - 1 : Nat)) : Int) = (q : Int) - 1 by omega], rfl, G6.out, by omega, F5.out, C6.out.mono (by omega), S2.out.trans T6.out⟩
        case measure => simp [intOf]; omega
    · obtain rfl : q = 0 := by omega
      go_wp2_with fail
      refine (one_any g _ 24 _ CU.out (by omega) (by omega)).mono ?_
      rintro e w8 ⟨bb, rfl, hc8, hs8⟩
      have C8 := Lib.hid (hc8.mono (k' := k + 1500) (by omega))
      have S8 := Lib.hid (SU.out.trans hs8)
      have G8 := Lib.hid (GR.out.stir hs8 hg)
      clear hc8 hs8 CU SU GR
      cases bb
      · go_wp2_with fail
        go_ret
        exact ⟨_, gs, rfl, by omega, FR.out, G8.out, C8.out.mono (by omega), S8.out⟩
      · have G9 := Lib.hid (GRow.lit (w := w8) (B := w.heap.size) S8.out.size)
        have C9 := Lib.hid (C8.out.kept (Kept.alloc (Kept.refl w8) (.cells #[] 26)))
        have S9 := Lib.hid (S8.out.alloc (.cells #[] 26))
        clear G8 C8 FR
        go_wp2_with fail
        go_loopw [3, 7] (fun s n wr => ∃ (q : Nat) (gs : List Gz), q ≤ 7 ∧ n = .int .i64 (q : Int) ∧ GRow wr w.heap.size s gs ∧ gs.length = q ∧ GFit gs ∧ CurB wr g (k + 1500 + 2 * (q : Int)) ∧ Stir g w wr) (fun _ n _ => 8 - (intOf n).toNat)
        case atStart => exact ⟨0, [], by omega, rfl, G9.out, rfl, GFit.nil, C9.out.mono (by omega), S9.out⟩
        case round =>
          clear G9 C9 S9 S8
          obtain ⟨q, gs, hq, rfl, hG, hl, hF, hcu, hst⟩ := hrel
          subst hl
          obtain ⟨A, c, rfl⟩ := hG.form
          have GR := Lib.hid hG
          have FR := Lib.hid hF
          have CU := Lib.hid hcu
          have SU := Lib.hid hst
          clear hG hF hcu hst
          go_wp2_with fail
          refine (pick_any g _ 2 _ CU.out (by omega) (by omega)).mono ?_
          rintro e w9 ⟨y9, rfl, ⟨y90, y91⟩, hc9, hs9⟩
          have C9 := Lib.hid hc9
          have S9 := Lib.hid (SU.out.trans hs9)
          have G9 := Lib.hid (GR.out.stir hs9 hg)
          clear hc9 hs9 CU SU GR
          by_cases hlt : (gs.length : Int) < 6 + y9
          · have q6 : gs.length ≤ 6 := by omega
            obtain ⟨sq, hsq, hz1', hcv⟩ : ∃ sq : ByteArray, sq = ⟨#[UInt8.ofNat (97 + gs.length)]⟩ ∧ sq.size = 1 ∧ (convert 22 9 (.slice (some ⟨w9.heap.size, 0, none⟩) 1 1)).run Try.prog (w9.alloc (.cells #[.int .u8 (97 + (gs.length : Int))] 5)) = .ok (.string sq) (w9.alloc (.cells #[.int .u8 (97 + (gs.length : Int))] 5)) := by
              refine ⟨_, rfl, rfl, ?_⟩
              exact run_convert_bytes_back (P := Try.prog) (w9.alloc (.cells #[.int .u8 (97 + (gs.length : Int))] 5)) 22 9 5 ⟨w9.heap.size, 0, none⟩ 1 [UInt8.ofNat (97 + gs.length)] Try.underlying22 Try.underlying5 Try.underlying9 (fun j hj => by
                have hj0 : j = 0 := by simpa using hj
                subst hj0
                have hn : (UInt8.ofNat (97 + gs.length)).toNat = 97 + gs.length := by rw [UInt8.toNat_ofNat']; omega
                simp only [List.getElem_cons_zero, hn]
                simp [go_sem])
            clear hsq
            have hw1 : IntKind.i64.wrap (97 + (gs.length : Int)) = 97 + (gs.length : Int) := by rw [IntKind.wrap_i64]; omega
            have hw2 : IntKind.u8.wrap (97 + (gs.length : Int)) = 97 + (gs.length : Int) := by rw [IntKind.wrap_u8]; omega
            have kk : Kept w9 ((w9.alloc (.cells #[.int .u8 (97 + (gs.length : Int))] 5)).alloc (.cells #[.int .i64 ((gs.length : Int) + 1), .string sq, .int .i64 0, .slice none 0 0] 26)) := Kept.alloc (Kept.alloc (Kept.refl _) _) _
            obtain ⟨ys, ho, hr⟩ := G9.out.kept kk
            have HO := Lib.hid ho
            have HR := Lib.hid hr
            have CK := Lib.hid (C9.out.kept kk)
            have SK := Lib.hid (S9.out.trans (Stir.kept kk))
            have hz9 := S9.out.size
            clear ho hr kk G9 C9 S9
            go_wp2_with (at_builtin; refine wpList_append_own_at _ rfl (.tmp 45) (.tmp 54) _ rfl w.heap.size 26 i0 _ 4 56 Try.underlying62 hi0 hz0 hz1 hz2 rfl (by decide) _ gs.length _ rfl HO.out ⟨w9.heap.size + 1, 0, none⟩ 1 1 [.int .i64 ((gs.length : Int) + 1), .string sq, .int .i64 0, .slice none 0 0] rfl rfl (by have h := World.news_of_block (heap_alloc_new (w9.alloc (.cells #[.int .u8 (97 + (gs.length : Int))] 5)) (.cells #[.int .i64 ((gs.length : Int) + 1), .string sq, .int .i64 0, .slice none 0 0] 26)); simpa using h) (by simp [Value.oneCell']) (by unfold maxLen; omega) (by omega) (by simp; omega) ?_; intro v5 w5 hown5 hgrow5 _ _; obtain ⟨A5, c5, rfl, -, -, -⟩ := own_form hown5)
            have hrow : ∀ j, (Value.slice A gs.length c).ownBlock = some j → w.heap.size ≤ j := fun j hj => (HO.out.lt j hj).1
            have G5 := Lib.hid (GRow.push (B := w.heap.size) ⟨(gs.length : Int) + 1, sq, 0, []⟩ HO.out HR.out (World.ownsRow_nil _ _ _ _) rfl hown5 hgrow5)
            have C5 := Lib.hid (CK.out.grown hgrow5 (fun j hj => by have := hrow j hj; omega))
            have S5 := Lib.hid (SK.out.grown hgrow5 hrow)
            have F5 := Lib.hid (FR.out.push (g := ⟨(gs.length : Int) + 1, sq, 0, []⟩) (by simp only [hz1']; omega) (by simp))
            clear hown5 hgrow5 hrow HO HR CK SK
            go_roundw
            case rel => exact ⟨gs.length + 1, _, by omega, by go_num, G5.out, by simp, F5.out, C5.out.mono (by omega), S5.out⟩
            case measure => simp [intOf]; omega
          · go_wp2_with fail
            go_ret
            exact ⟨_, gs, rfl, by omega, FR.out, G9.out, C9.out.mono (by omega), S9.out⟩
end Go.Proofs.Ytopdnhlolfehcaa
