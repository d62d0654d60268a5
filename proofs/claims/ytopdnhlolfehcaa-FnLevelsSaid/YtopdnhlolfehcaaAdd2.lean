/-
  AddReading: the reference's contract.
  Conditions: none.
-/
import Derived.Test.YtopdnhlolfehcaaAdd
import Derived.Deep.DeepCutAuto
namespace Go.Proofs.Ytopdnhlolfehcaa
open Go.ChangeShapes Go.WideShapes Go.ChangeAt Go.RowKit
set_option linter.unusedVariables false
set_option linter.unusedSimpArgs false

/-- append(own, list...): what it answers. -/
theorem run_append_list {P : Program} (w : World) (t ty : TypeId)
    (base : Nat) (e : TypeId) (i : TypeInfo) (z : Value) (bytes : Nat) (ht : P.underlying t = some (.slice e)) (hi : P.info? e = some i) (hz : i.zero = some z)
    (hsize : i.size = 2) (hby : i.bytes = bytes) (hzs : z.cells.size = 2)
    (v : Value) (n : Nat) (zs : List Value) (hown : w.ownsRow base e 2 v n zs)
    (u : Value) (xs : List (Int × Int)) (hL : Lies w 2 pairC u xs)
    (h63 : n + xs.length ≤ maxLen) (hbytes : (n + xs.length) * bytes ≤ 140737488355328) (hbase : base ≤ w.heap.size) :
    ∃ v' w', (Builtin.append_ #[t, t] ty #[v, u]).run P w = .ok v' w' ∧ w'.ownsRow base e 2 v' (n + xs.length) (zs ++ xs.flatMap pairC) ∧ w.grownBy w' v.ownBlock := by
  obtain ⟨A, c, rfl, hlc, hcm, hA⟩ := lies_pairs hL
  by_cases h0 : 0 < xs.length
  · obtain ⟨b, off, rfl, hc⟩ := hA h0
    obtain ⟨v', w', hr, h2, h3, -, -⟩ := run_append_own_at (P := P) w base t ty e i z 2 bytes ht hi hz hsize hby hzs (by decide) v n zs hown ⟨b, off, none⟩ xs.length c (xs.flatMap pairC) (flat_len xs) (fun j u hu => by
      obtain ⟨i, hi, hx⟩ := flat_pair xs j u hu
      rcases hx with ⟨rfl, rfl⟩ | ⟨rfl, rfl⟩
      · simpa [Addr.add_lit] using (hc i hi).1
      · simpa [Addr.add_lit, Nat.add_assoc] using (hc i hi).2) (flat_one xs) h63 hbytes hbase
    exact ⟨v', w', hr, h2, h3⟩
  · have e0 : xs = [] := List.length_eq_zero_iff.1 (by omega)
    subst e0
    obtain ⟨B, c', rfl, hle, -, -⟩ := own_form hown
    have hS : Src P i.size t (.slice A 0 c) 0 [] w := by
      cases A with
      | none => exact Src.ofNil w ht c
      | some ad => exact Src.ofSlice w ht ad 0 c [] (by simp) (by simp) (by simp)
    have hr := run_append_nothing w t t ty e i ht hi B n c' hle _ hS
    exact ⟨_, _, hr, by simpa using hown, grown_of_kept (Kept.refl w)⟩
/-- .. as a step of a region that draws. -/
theorem step_append_list {P : Program} (w : World) {ops : Array Oper} {o : Oper} {a : Act} {K : Act → World → Prop} {Q : Exit → Act → World → Prop} {E : Prop} (hgd : o.guard = none) (s x : Operand) (t : TypeId)
    (ho : o.op = .call { callee := .builtin .append, args := #[s, x], argTypes := #[t, t] })
    (base : Nat) (e : TypeId) (i : TypeInfo) (z : Value) (bytes : Nat) (ht : P.underlying t = some (.slice e)) (hi : P.info? e = some i) (hz : i.zero = some z)
    (hsize : i.size = 2) (hby : i.bytes = bytes) (hzs : z.cells.size = 2)
    (v : Value) (n : Nat) (zs : List Value) (hs : a.eval s = v) (hown : w.ownsRow base e 2 v n zs)
    (u : Value) (xs : List (Int × Int)) (hx : a.eval x = u) (hL : Lies w 2 pairC u xs)
    (m : Nat) (hm : n + xs.length = m) (h63 : m ≤ maxLen) (hbytes : m * bytes ≤ 140737488355328) (hbase : base ≤ w.heap.size)
    (h : ∀ A' c' w', w'.ownsRow base e 2 (.slice A' m c') m (zs ++ xs.flatMap pairC) → w.grownBy w' v.ownBlock → K (a.put o.dst (.slice A' m c')) w') :
    if Region.wanted o (yielded ops a.tmps) = true then Oper.wp P o a w K Q else E := by
  have hw : Region.wanted o (yielded ops a.tmps) = true := by simp [Region.wanted, hgd]
  rw [if_pos hw]
  subst hm
  obtain ⟨v', w', hr, h2, h3⟩ := run_append_list (P := P) w t o.type base e i z bytes ht hi hz hsize hby hzs v n zs hown u xs hL h63 hbytes hbase
  obtain ⟨A', c', rfl, -, -, -⟩ := own_form h2
  unfold Oper.wp execOp
  simp only [ho, resolve, invoke, builtin, Sem.run_bind, Sem.run_pure, Result.andThen_ok, List.map_toArray, List.map_cons, List.map_nil, hs, hx, hr]
  exact h A' c' w' h2 h3
theorem lies_lit {w : World} {g : Nat} {a b : Int} {t : TypeId} (h : w.heap[g]? = some (.cells #[.int .i64 a, .int .i64 b] t (0, 0))) : Lies w 2 pairC (.slice (some ⟨g, 0, none⟩) 1 1) [(a, b)] := by
  have h0 : w.ownsRow 0 t 2 (.slice (some ⟨g, 0, none⟩) 1 1) 1 ([(a, b)].flatMap pairC) := ⟨rfl, .inr ⟨g, 1, _, rfl, Nat.zero_le _, h, Nat.le_refl _, by simp [maxLen], rfl, rfl⟩⟩
  exact pairs_own h0
theorem lies_take {w : World} {A : Option Addr} {c k : Nat} {xs : List (Int × Int)} (h : Lies w 2 pairC (.slice A xs.length c) xs) (hk : k ≤ xs.length) : Lies w 2 pairC (.slice A k c) (xs.take k) := by
  obtain ⟨A', c', e, h1, h2, h3⟩ := h
  injection e with e1 e2 e3
  subst e1 e3
  have hl : (xs.take k).length = k := by rw [List.length_take]; omega
  refine ⟨A, c, by rw [hl], by omega, h2, fun h0 => ?_⟩
  obtain ⟨b, off, ea, hc⟩ := h3 (by omega)
  refine ⟨b, off, ea, fun i hi => ?_⟩
  rw [hl] at hi
  have := hc i (by omega)
  rw [List.getElem_take]
  exact this
theorem lies_drop {w : World} {b off c k : Nat} {xs : List (Int × Int)} (h : Lies w 2 pairC (.slice (some ⟨b, off, none⟩) xs.length c) xs) (hk : k ≤ xs.length) : Lies w 2 pairC (.slice (some ⟨b, off + k * 2, none⟩) (xs.length - k) (c - k)) (xs.drop k) := by
  obtain ⟨A', c', e, h1, h2, h3⟩ := h
  injection e with e1 e2 e3
  subst e1 e3
  have hl : (xs.drop k).length = xs.length - k := by rw [List.length_drop]
  refine ⟨_, c - k, by rw [hl], by omega, by omega, fun h0 => ?_⟩
  obtain ⟨b', off', ea, hc⟩ := h3 (by omega)
  injection ea with ea
  injection ea with e1 e2 e3
  subst e1 e2
  refine ⟨b, off + k * 2, rfl, fun i hi => ?_⟩
  rw [hl] at hi
  have := hc (k + i) (by omega)
  intro j u hu
  rw [List.getElem_drop] at hu
  have h5 := this j u hu
  rw [show off + k * 2 + i * 2 + j = off + (k + i) * 2 + j by omega]
  exact h5
theorem lies_empty (w : World) (A : Option Addr) (c : Nat) (hc : c ≤ maxLen) : Lies w 2 pairC (.slice A 0 c) [] := ⟨A, c, rfl, Nat.zero_le _, hc, fun h => absurd h (by simp)⟩
set_option maxRecDepth 100000 in
set_option maxHeartbeats 8000000 in
theorem sAddReading_any (id : Int) (nm : ByteArray) (z : Int) (v : Value) (xs : List (Int × Int)) (rt rl : Int) (hs : nm.size ≤ maxLen) (w : World) (hL : Lies w 2 pairC v xs) : Calls Try.prog 18 #[.agg #[.int .i64 id, .string nm, .int .i64 z, v], .agg #[.int .i64 rt, .int .i64 rl]] w fun e w' => ∃ u, e = .returned (.tuple #[szG (adOk id nm z xs rt rl) id nm z u, .bool (adOk id nm z xs rt rl)]) ∧ w'.ownsRow w.heap.size 28 2 u (adV id nm z xs rt rl).length ((adV id nm z xs rt rl).flatMap pairC) ∧ Kept w w' := by
  obtain ⟨i0, hi0, hz0, hz1, hz2⟩ := info_parts infoReading
  have HL := Lib.hid hL
  obtain ⟨A, c, rfl, hlc, hcm, hA⟩ := lies_pairs hL
  have HA := Lib.hid hA
  clear hL hA
  have KA0 : Kept w (((w.alloc (.cells #[.int .i64 id, .string nm, .int .i64 z, .slice A xs.length c] 26)).alloc (.cells #[.int .i64 rt, .int .i64 rl] 28)).alloc (.cells #[.int .i64 0, .string { data := #[] }, .int .i64 0, .slice none 0 0] 26)) := Kept.alloc (Kept.alloc (Kept.alloc (Kept.refl w) _) _) _
  have HKA := Lib.hid KA0
  clear KA0
  cases h1 : gaugeB id nm z xs
  · have HV := Lib.hid (ad_no (show adOk id nm z xs rt rl = false by simp [adOk, h1]))
    go_enter Try.func18, Try.ntmps18
    go_wp2_with fail
    refine (l3One_any _ _ _ _ _ hs _ (by exact HL.out.kept HKA.out)).mono ?_
    rintro e w1 ⟨rfl, hk⟩
    obtain ⟨a0, af0, a1, af1, a2, af2, a3, af3, r0, rf0, r1, rf1, b0, bf0, b1, bf1, b2, bf2, b3, bf3⟩ := ad_cells hk
    have HK := Lib.hid (HKA.out.trans hk)
    clear hk
    rw [h1]
    go_wp2_with fail
    exact bodyPost_ret (v := .tuple #[noG, .bool false]) (by simp [results, Try.results18, go_sem, noG, *]) rfl ⟨_, HV.out.1, by rw [HV.out.2]; exact World.ownsRow_nil _ _ _ _, ((((HK.out.setCell (by simp) _).setCell (by simp) _).setCell (by simp) _).setCell (by simp) _)⟩
  have hgl := (gaugeB_1 h1).2.2.1
  have H1 := Lib.hid h1
  go_enter Try.func18, Try.ntmps18
  go_wp2_with fail
  refine (l3One_any _ _ _ _ _ hs _ (by exact HL.out.kept HKA.out)).mono ?_
  rintro e w1 ⟨rfl, hk⟩
  obtain ⟨a0, af0, a1, af1, a2, af2, a3, af3, r0, rf0, r1, rf1, b0, bf0, b1, bf1, b2, bf2, b3, bf3⟩ := ad_cells hk
  rw [H1.out]
  have HK1 := Lib.hid hk
  have zb1 : w.heap.size + 1 + 1 + 1 ≤ w1.heap.size := by simpa using hk.size
  clear hk h1
  go_wp2_with fail
  clear a0 af0 a1 af1 a2 af2 a3 af3 r0 rf0 r1 rf1 b0 bf0 b1 bf1 b2 bf2 b3 bf3
  go_loopw [6] (fun i wr => ∃ k : Nat, k ≤ xs.length ∧ i = .int .i64 (k : Int) ∧ (∀ j, j < k → P1 xs j < rt) ∧ Kept w1 wr) (fun i _ => xs.length - (intOf i).toNat)
  case atStart => exact ⟨0, by omega, rfl, fun j hj => absurd hj (by omega), Kept.refl _⟩
  case round =>
    obtain ⟨k, hk, rfl, hlo, hkw⟩ := hrel
    have HLO := Lib.hid hlo
    have HQ := Lib.hid hkw
    have HWA := Lib.hid (HK1.out.trans hkw)
    have zr : w1.heap.size ≤ wr.heap.size := hkw.size
    obtain ⟨a0, af0, a1, af1, a2, af2, a3, af3, r0, rf0, r1, rf1, b0, bf0, b1, bf1, b2, bf2, b3, bf3⟩ := ad_cells HWA.out
    clear hkw hlo
    by_cases hkn : k < xs.length
    · obtain ⟨b, off, rfl, hc⟩ := HA.out (by omega)
      have x0 := (HKA.out.trans HWA.out).keep (hc k hkn).1
      have k0 : (0 : Int) ≤ (k : Int) := by omega
      have k1 : (k : Int) < (xs.length : Int) := by omega
      have k2 : (k : Int) ≤ (xs.length : Int) := by omega
      have k3 : ¬ (c = k) := by omega
      have kd : decide ((k : Int) < (xs.length : Int)) = true := by simp [hkn]
      clear hc
      by_cases hlt : P1 xs k < rt
      · have hd : decide (P1 xs k < rt) = true := by simp [hlt]
        have HX := Lib.hid (upto_succ (p := fun j => P1 xs j < rt) HLO.out hlt)
        go_wp2_with fail
        go_quiet (fail)
        go_wp2_with fail
        go_roundw
        case rel => exact ⟨k + 1, by omega, by go_num, HX.out, by have hq := HQ.out; (repeat (first | exact Kept.refl _ | assumption | refine Kept.alloc ?_ _ | refine Kept.drew ?_ | refine Kept.drewN ?_ _ | refine Kept.setCell ?_ (by first | (simp; done) | (simp; omega) | omega | exact Kept.size (by (repeat (first | exact Kept.refl _ | assumption | refine Kept.alloc ?_ _ | refine Kept.drew ?_ | refine Kept.drewN ?_ _ | refine Kept.trans ?_ (by assumption))))) _ | refine Kept.trans ?_ (by assumption)))⟩
        case measure => simp [intOf]; omega
      · have hd : decide (P1 xs k < rt) = false := by simp [hlt]
        have HAT := Lib.hid (at_is xs rt k hk HLO.out (fun _ => hlt))
        have kp : (0 : Int) < ((xs.length - k : Nat) : Int) := by omega
        have kq : 0 < xs.length - k := by omega
        have kpd : decide (0 < xs.length - k) = true := decide_eq_true kq
        by_cases heq : P1 xs k = rt
        · have hde : (P1 xs k == rt) = true := by simp [heq]
          have HAD := Lib.hid (ad_same (rl := rl) HAT.out hkn heq)
          have HLW := Lib.hid ((lies_drop (k := k + 1) (HL.out) (by omega)).kept (HKA.out.trans HWA.out))
          go_wp2_with fail
          go_quiet (fail)
          go_wp2_with fail
          go_quiet (fail)
          go_upto_region 8 with fail
          go_cut [7] (fun s7 wx => ∃ A7 c7, s7 = .slice A7 (xs.length - (k + 1)) c7 ∧ Lies wx 2 pairC s7 (xs.drop (k + 1)) ∧ Kept wr wx)
          case first =>
            by_cases hck : c = k + 1
            · have e0 : xs.drop (k + 1) = [] := List.drop_of_length_le (by omega)
              have e1 : xs.length - k = 1 := by omega
              have e2 : c - k = 1 := by omega
              have e3 : xs.length - (k + 1) = 0 := by omega
              go_wp2_with fail
              go_meet
              exact ⟨_, 0, by rw [e3], by rw [e0]; exact lies_empty _ _ _ (by simp [maxLen]), by (repeat (first | exact Kept.refl _ | assumption | refine Kept.alloc ?_ _ | refine Kept.drew ?_ | refine Kept.drewN ?_ _ | refine Kept.setCell ?_ (by first | (simp; done) | (simp; omega) | omega | exact Kept.size (by (repeat (first | exact Kept.refl _ | assumption | refine Kept.alloc ?_ _ | refine Kept.drew ?_ | refine Kept.drewN ?_ _ | refine Kept.trans ?_ (by assumption))))) _ | refine Kept.trans ?_ (by assumption)))⟩
            · go_wp2_with fail
              go_meet
              exact ⟨_, _, rfl, by have h := HLW.out; rw [show off + (k + 1) * 2 = off + k * 2 + 2 by omega] at h; exact h.kept (Kept.drewN (Kept.refl wr) _), by (repeat (first | exact Kept.refl _ | assumption | refine Kept.alloc ?_ _ | refine Kept.drew ?_ | refine Kept.drewN ?_ _ | refine Kept.setCell ?_ (by first | (simp; done) | (simp; omega) | omega | exact Kept.size (by (repeat (first | exact Kept.refl _ | assumption | refine Kept.alloc ?_ _ | refine Kept.drew ?_ | refine Kept.drewN ?_ _ | refine Kept.trans ?_ (by assumption))))) _ | refine Kept.trans ?_ (by assumption)))⟩
          case rest =>
            obtain ⟨A7, c7, rfl, hl7, hk7⟩ := hcut
            have HL7 := Lib.hid hl7
            have KWc := Lib.hid (HWA.out.trans hk7)
            clear hl7 hk7 x0
            clear a0 af0 a1 af1 a2 af2 a3 af3 r0 rf0 r1 rf1 b0 bf0 b1 bf1 b2 bf2 b3 bf3
            have hL9 : k + 1 + (xs.drop (k + 1)).length = (adL xs rt rl).length := by rw [HAD.out]; first | (simp; done) | (simp; omega)
            have hZ9 : [] ++ (xs.take k).flatMap pairC ++ [(rt, rl)].flatMap pairC ++ (xs.drop (k + 1)).flatMap pairC = (adL xs rt rl).flatMap pairC := by rw [HAD.out, List.flatMap_append, List.flatMap_append]; rfl
            have hal := ad_len xs rt rl
            have kc1 : (k : Int) ≤ (c : Int) := by omega
            have kc2 : k ≤ c := by omega
            have hzw : w.heap.size + 1 + 1 + 1 ≤ wc.heap.size := by simpa using KWc.out.size
            have HLX := Lib.hid (HL.out.kept (HKA.out.trans KWc.out))
            obtain ⟨a0, af0, a1, af1, a2, af2, a3, af3, r0, rf0, r1, rf1, b0, bf0, b1, bf1, b2, bf2, b3, bf3⟩ := ad_cells KWc.out
            go_upto_region 10 with fail
            clear a0 af0 a1 af1 a2 af2 a3 af3 r0 rf0 r1 rf1 b0 bf0 b1 bf1 b2 bf2 b3 bf3
            go_cut [] (fun wx => ∃ A9 c9, Kept wc wx ∧ wx.ownsRow (wc.heap.size + 1) 28 2 (.slice A9 (adL xs rt rl).length c9) (adL xs rt rl).length ((adL xs rt rl).flatMap pairC) ∧ wx.cell? ⟨wc.heap.size, 0, none⟩ = some (.int .i64 id) ∧ wx.frozen? ⟨wc.heap.size, 0, none⟩ = false ∧ wx.cell? ⟨wc.heap.size, 1, none⟩ = some (.string nm) ∧ wx.frozen? ⟨wc.heap.size, 1, none⟩ = false ∧ wx.cell? ⟨wc.heap.size, 2, none⟩ = some (.int .i64 z) ∧ wx.frozen? ⟨wc.heap.size, 2, none⟩ = false ∧ wx.cell? ⟨wc.heap.size, 3, none⟩ = some (.slice A9 (adL xs rt rl).length c9) ∧ wx.frozen? ⟨wc.heap.size, 3, none⟩ = false)
            case first =>
              have kf3 : ∀ w' : World, Root wc w' → w'.cell? ⟨w.heap.size, 3, none⟩ = some (.slice (some ⟨b, off, none⟩) xs.length c) := fun w' h => h.keep (ad_cells KWc.out).2.2.2.2.2.2.1
              have kr0 : ∀ w' : World, Root wc w' → w'.cell? ⟨w.heap.size + 1, 0, none⟩ = some (.int .i64 rt) := fun w' h => h.keep (ad_cells KWc.out).2.2.2.2.2.2.2.2.1
              have kr1 : ∀ w' : World, Root wc w' → w'.cell? ⟨w.heap.size + 1, 1, none⟩ = some (.int .i64 rl) := fun w' h => h.keep (ad_cells KWc.out).2.2.2.2.2.2.2.2.2.2.1
              refine wp_region_held_drew (S := fun w' => Root wc w') (by kernel_rfl) (by (try dsimp only); exact Root.drew (Root.alloc (Root.refl _) _)) (fun hHeld => ?_)
              refine wpAnyH_take (i := 1) (v := ?_) rfl (by kernel_rfl) (by kernel_rfl) (by kernel_rfl) (fun _ _ _ h => h) (Or.inl ⟨by kernel_rfl, ?_⟩) (by assumption) ?_
              rotate_left
              focus (intro w' hSw; (try dsimp only at hSw); have s3 := kf3 w' hSw; have sr0 := kr0 w' hSw; have sr1 := kr1 w' hSw; go_simp; (try with_reducible rfl))
              (try simp only [Act.put, List.getElem_toArray, List.getElem_cons_zero, List.getElem_cons_succ, List.setIfInBounds_toArray, List.set_cons_zero, List.set_cons_succ])
              refine wpAnyH_take (i := 2) (v := ?_) rfl (by kernel_rfl) (by kernel_rfl) (by kernel_rfl) (fun _ _ _ h => h) (Or.inl ⟨by kernel_rfl, ?_⟩) (by assumption) ?_
              rotate_left
              focus (intro w' hSw; (try dsimp only at hSw); have s3 := kf3 w' hSw; have sr0 := kr0 w' hSw; have sr1 := kr1 w' hSw; go_simp; (try with_reducible rfl))
              (try simp only [Act.put, List.getElem_toArray, List.getElem_cons_zero, List.getElem_cons_succ, List.setIfInBounds_toArray, List.set_cons_zero, List.set_cons_succ])
              refine wpAnyH_take (i := 3) (v := ?_) rfl (by kernel_rfl) (by kernel_rfl) (by kernel_rfl) (fun _ _ _ h => h) (Or.inl ⟨by kernel_rfl, ?_⟩) (by assumption) ?_
              rotate_left
              focus (intro w' hSw; (try dsimp only at hSw); have s3 := kf3 w' hSw; have sr0 := kr0 w' hSw; have sr1 := kr1 w' hSw; go_simp; (try with_reducible rfl))
              (try simp only [Act.put, List.getElem_toArray, List.getElem_cons_zero, List.getElem_cons_succ, List.setIfInBounds_toArray, List.set_cons_zero, List.set_cons_succ])
              refine wpAnyH_take (i := 4) (v := ?_) rfl (by kernel_rfl) (by kernel_rfl) (by kernel_rfl) (fun _ _ _ h => h) (Or.inl ⟨by kernel_rfl, ?_⟩) (by assumption) ?_
              rotate_left
              focus (intro w' hSw; (try dsimp only at hSw); have s3 := kf3 w' hSw; have sr0 := kr0 w' hSw; have sr1 := kr1 w' hSw; go_simp; (try with_reducible rfl))
              (try simp only [Act.put, List.getElem_toArray, List.getElem_cons_zero, List.getElem_cons_succ, List.setIfInBounds_toArray, List.set_cons_zero, List.set_cons_succ])
              refine wpAnyH_take (i := 6) (v := ?_) rfl (by kernel_rfl) (by kernel_rfl) (by kernel_rfl) (fun _ _ _ h => h) (Or.inl ⟨by kernel_rfl, ?_⟩) (by assumption) ?_
              rotate_left
              focus (intro w' hSw; (try dsimp only at hSw); have s3 := kf3 w' hSw; have sr0 := kr0 w' hSw; have sr1 := kr1 w' hSw; go_simp; (try with_reducible rfl))
              (try simp only [Act.put, List.getElem_toArray, List.getElem_cons_zero, List.getElem_cons_succ, List.setIfInBounds_toArray, List.set_cons_zero, List.set_cons_succ])
              refine wpAnyH_take (i := 9) (v := ?_) rfl (by kernel_rfl) (by kernel_rfl) (by kernel_rfl) (fun _ _ _ h => h) (Or.inl ⟨by kernel_rfl, ?_⟩) (by assumption) ?_
              rotate_left
              focus (intro w' hSw; (try dsimp only at hSw); have s3 := kf3 w' hSw; have sr0 := kr0 w' hSw; have sr1 := kr1 w' hSw; go_simp; (try with_reducible rfl))
              (try simp only [Act.put, List.getElem_toArray, List.getElem_cons_zero, List.getElem_cons_succ, List.setIfInBounds_toArray, List.set_cons_zero, List.set_cons_succ])
              have G8 := Lib.hid (blk4 (b := wc.heap.size) (v0 := .int .i64 id) (v1 := .string nm) (v2 := .int .i64 z) (v3 := .slice (some ⟨b, off, none⟩) xs.length c) (show Kept (wc.alloc (.cells #[.int .i64 id, .string nm, .int .i64 z, .slice (some ⟨b, off, none⟩) xs.length c] 26)) (wc.alloc (.cells #[.int .i64 id, .string nm, .int .i64 z, .slice (some ⟨b, off, none⟩) xs.length c] 26)).drew from Kept.drew (Kept.refl _)) (by simp [go_sem]))
              have KC := Lib.hid (show Kept wc (wc.alloc (.cells #[.int .i64 id, .string nm, .int .i64 z, .slice (some ⟨b, off, none⟩) xs.length c] 26)).drew from Kept.drew (Kept.alloc (Kept.refl wc) _))
              have ZC := Lib.hid (show (wc.alloc (.cells #[.int .i64 id, .string nm, .int .i64 z, .slice (some ⟨b, off, none⟩) xs.length c] 26)).drew.heap.size = wc.heap.size + 1 by simp)
              clear kf3 kr0 kr1
              generalize (wc.alloc (.cells #[.int .i64 id, .string nm, .int .i64 z, .slice (some ⟨b, off, none⟩) xs.length c] 26)).drew = p0 at *
              have Q0 := Lib.hid (Kept.refl p0)
              refine wpAnyH_ready (rs := [0, 7]) (by kernel_rfl) (by simp) ?_
              refine AllReadyH.cons rfl (fun K hK => ?_) (AllReadyH.cons rfl (fun K hK => ?_) (AllReadyH.nil))
              · skip
                go_simp
                refine hK.out _ _ (by (try dsimp only); exact ⟨KC.out.trans (Kept.alloc Q0.out _)⟩) (fun hHeld => ?_)
                clear hK K
                (try simp only [Act.put, List.getElem_toArray, List.getElem_cons_zero, List.getElem_cons_succ, List.setIfInBounds_toArray, List.set_cons_zero, List.set_cons_succ])
                have Q1 := Lib.hid (Kept.alloc Q0.out (.cells #[] 28))
                have O1 := Lib.hid (World.ownsRow_lit (base := wc.heap.size + 1) (e := 28) (size := 2) p0 #[] 0 (by have := Q0.out.size; have := ZC.out; omega) (by simp [maxLen]) rfl)
                generalize p0.alloc (.cells #[] 28) = p1 at *
                refine wpAnyH_ready (rs := [5, 7]) (by kernel_rfl) (by simp) ?_
                refine AllReadyH.cons rfl (fun K hK => ?_) (AllReadyH.cons rfl (fun K hK => ?_) (AllReadyH.nil))
                · skip
                  refine step_append_list _ (by rfl) _ _ _ (by rfl) (wc.heap.size + 1) 28 i0 _ 16 Try.underlying24 hi0 hz0 hz1 hz2 rfl _ 0 _ (by rfl) O1.out _ (xs.take k) (by rfl) ((lies_take HLX.out (by omega)).kept (KC.out.trans Q1.out)) (k) (by rw [List.length_take]; omega) (by unfold maxLen; omega) (by omega) (by have := Q1.out.size; have := ZC.out; omega) ?_
                  intro A2 c2 p2 hown2 hgrow2
                  have Q2 := Lib.hid (Kept.grown Q1.out hgrow2 (fun q hq => by have := (O1.out.lt q hq).1; have := ZC.out; omega))
                  refine hK.out _ _ (by (try dsimp only); exact ⟨KC.out.trans Q2.out⟩) (fun hHeld => ?_)
                  clear hK K
                  (try simp only [Act.put, List.getElem_toArray, List.getElem_cons_zero, List.getElem_cons_succ, List.setIfInBounds_toArray, List.set_cons_zero, List.set_cons_succ])
                  have O2 := Lib.hid hown2
                  clear hown2 hgrow2
                  refine wpAnyH_ready (rs := [7]) (by kernel_rfl) (by simp) ?_
                  refine AllReadyH.cons rfl (fun K hK => ?_) (AllReadyH.nil)
                  go_simp
                  refine hK.out _ _ (by (try dsimp only); exact ⟨KC.out.trans (Kept.alloc Q2.out _)⟩) (fun hHeld => ?_)
                  clear hK K
                  (try simp only [Act.put, List.getElem_toArray, List.getElem_cons_zero, List.getElem_cons_succ, List.setIfInBounds_toArray, List.set_cons_zero, List.set_cons_succ])
                  have Q3 := Lib.hid (Kept.alloc Q2.out (.cells #[.int .i64 rt, .int .i64 rl] 28))
                  have B3 := Lib.hid (heap_alloc_new p2 (.cells #[.int .i64 rt, .int .i64 rl] 28))
                  have N3 := Lib.hid (show ∀ q, (Value.slice A2 k c2).ownBlock = some q → p2.heap.size ≠ q from fun q hq e => Nat.lt_irrefl _ (Nat.lt_of_lt_of_eq (O2.out.lt q hq).2 e))
                  have O3 := Lib.hid (O2.out.alloc (.cells #[.int .i64 rt, .int .i64 rl] 28))
                  generalize p2.alloc (.cells #[.int .i64 rt, .int .i64 rl] 28) = p3 at *
                  refine wpAnyH_ready (rs := [8]) (by kernel_rfl) (by simp) ?_
                  refine AllReadyH.cons rfl (fun K hK => ?_) (AllReadyH.nil)
                  refine step_append_list _ (by rfl) _ _ _ (by rfl) (wc.heap.size + 1) 28 i0 _ 16 Try.underlying24 hi0 hz0 hz1 hz2 rfl _ k _ (by rfl) O3.out _ ([(rt, rl)]) (by rfl) (lies_lit B3.out) ((k + 1)) (rfl) (by unfold maxLen; omega) (by omega) (by have := Q3.out.size; have := ZC.out; omega) ?_
                  intro A4 c4 p4 hown4 hgrow4
                  have Q4 := Lib.hid (Kept.grown Q3.out hgrow4 (fun q hq => by have := (O3.out.lt q hq).1; have := ZC.out; omega))
                  refine hK.out _ _ (by (try dsimp only); exact ⟨KC.out.trans Q4.out⟩) (fun hHeld => ?_)
                  clear hK K
                  (try simp only [Act.put, List.getElem_toArray, List.getElem_cons_zero, List.getElem_cons_succ, List.setIfInBounds_toArray, List.set_cons_zero, List.set_cons_succ])
                  have O4 := Lib.hid hown4
                  clear hown4 hgrow4
                  refine wpAnyH_ready (rs := [10]) (by kernel_rfl) (by simp) ?_
                  refine AllReadyH.cons rfl (fun K hK => ?_) (AllReadyH.nil)
                  refine step_append_list _ (by rfl) _ _ _ (by rfl) (wc.heap.size + 1) 28 i0 _ 16 Try.underlying24 hi0 hz0 hz1 hz2 rfl _ (k + 1) _ (by rfl) O4.out _ (xs.drop (k + 1)) (by rfl) (HL7.out.kept (KC.out.trans Q4.out)) ((adL xs rt rl).length) (hL9) (by unfold maxLen; omega) (by omega) (by have := Q4.out.size; have := ZC.out; omega) ?_
                  intro A5 c5 p5 hown5 hgrow5
                  have Q5 := Lib.hid (Kept.grown Q4.out hgrow5 (fun q hq => by have := (O4.out.lt q hq).1; have := ZC.out; omega))
                  refine hK.out _ _ (by (try dsimp only); exact ⟨KC.out.trans Q5.out⟩) (fun hHeld => ?_)
                  clear hK K
                  (try simp only [Act.put, List.getElem_toArray, List.getElem_cons_zero, List.getElem_cons_succ, List.setIfInBounds_toArray, List.set_cons_zero, List.set_cons_succ])
                  have O5 := Lib.hid hown5
                  clear hown5 hgrow5
                  refine wpAnyH_ready (rs := [11]) (by kernel_rfl) (by simp) ?_
                  refine AllReadyH.cons rfl (fun K hK => ?_) (AllReadyH.nil)
                  go_simp
                  refine hK.out _ _ (by (try dsimp only); exact hHeld) (fun hHeld => ?_)
                  clear hK K
                  (try simp only [Act.put, List.getElem_toArray, List.getElem_cons_zero, List.getElem_cons_succ, List.setIfInBounds_toArray, List.set_cons_zero, List.set_cons_succ])
                  refine wpAnyH_ready (rs := [12]) (by kernel_rfl) (by simp) ?_
                  refine AllReadyH.cons rfl (fun K hK => ?_) (AllReadyH.nil)
                  obtain ⟨g0, gf0, g1, gf1, g2, gf2, g3, gf3⟩ := blk4 Q5.out G8.out
                  go_simp
                  have FK := Lib.hid ((KC.out.trans Q5.out).setCell (p := ⟨wc.heap.size, 3, none⟩) (Nat.le_refl _) (.slice A5 (adL xs rt rl).length c5))
                  refine hK.out _ _ (by (try dsimp only); exact ⟨FK.out⟩) (fun hHeld => ?_)
                  clear hK K
                  (try simp only [Act.put, List.getElem_toArray, List.getElem_cons_zero, List.getElem_cons_succ, List.setIfInBounds_toArray, List.set_cons_zero, List.set_cons_succ])
                  have hO := O5.out
                  rw [hZ9] at hO
                  have FO := Lib.hid (ownsRow_setCell_below hO (a := ⟨wc.heap.size, 3, none⟩) (by simp) (.slice A5 (adL xs rt rl).length c5))
                  have FG := Lib.hid (show (p5.setCell ⟨wc.heap.size, 3, none⟩ (.slice A5 (adL xs rt rl).length c5)).cell? ⟨wc.heap.size, 0, none⟩ = some (.int .i64 id) ∧ (p5.setCell ⟨wc.heap.size, 3, none⟩ (.slice A5 (adL xs rt rl).length c5)).frozen? ⟨wc.heap.size, 0, none⟩ = false ∧ (p5.setCell ⟨wc.heap.size, 3, none⟩ (.slice A5 (adL xs rt rl).length c5)).cell? ⟨wc.heap.size, 1, none⟩ = some (.string nm) ∧ (p5.setCell ⟨wc.heap.size, 3, none⟩ (.slice A5 (adL xs rt rl).length c5)).frozen? ⟨wc.heap.size, 1, none⟩ = false ∧ (p5.setCell ⟨wc.heap.size, 3, none⟩ (.slice A5 (adL xs rt rl).length c5)).cell? ⟨wc.heap.size, 2, none⟩ = some (.int .i64 z) ∧ (p5.setCell ⟨wc.heap.size, 3, none⟩ (.slice A5 (adL xs rt rl).length c5)).frozen? ⟨wc.heap.size, 2, none⟩ = false ∧ (p5.setCell ⟨wc.heap.size, 3, none⟩ (.slice A5 (adL xs rt rl).length c5)).cell? ⟨wc.heap.size, 3, none⟩ = some (.slice A5 (adL xs rt rl).length c5) ∧ (p5.setCell ⟨wc.heap.size, 3, none⟩ (.slice A5 (adL xs rt rl).length c5)).frozen? ⟨wc.heap.size, 3, none⟩ = false by simp [go_sem, *])
                  clear g0 gf0 g1 gf1 g2 gf2 g3 gf3 hO
                  refine wpAnyH_done (by kernel_rfl) ?_ _
                  go_wp2_with fail
                  go_meet
                  exact ⟨A5, c5, FK.out, FO.out, FG.out⟩
                · skip
                  go_simp
                  refine hK.out _ _ (by (try dsimp only); exact ⟨KC.out.trans (Kept.alloc Q1.out _)⟩) (fun hHeld => ?_)
                  clear hK K
                  (try simp only [Act.put, List.getElem_toArray, List.getElem_cons_zero, List.getElem_cons_succ, List.setIfInBounds_toArray, List.set_cons_zero, List.set_cons_succ])
                  have Q8 := Lib.hid (Kept.alloc Q1.out (.cells #[.int .i64 rt, .int .i64 rl] 28))
                  have B8 := Lib.hid (heap_alloc_new p1 (.cells #[.int .i64 rt, .int .i64 rl] 28))
                  have N8 := Lib.hid (show ∀ q, (Value.slice (some ⟨p0.heap.size, 0, none⟩) 0 0).ownBlock = some q → p1.heap.size ≠ q from fun q hq e => Nat.lt_irrefl _ (Nat.lt_of_lt_of_eq (O1.out.lt q hq).2 e))
                  have O8 := Lib.hid (O1.out.alloc (.cells #[.int .i64 rt, .int .i64 rl] 28))
                  generalize p1.alloc (.cells #[.int .i64 rt, .int .i64 rl] 28) = p8 at *
                  refine wpAnyH_ready (rs := [5]) (by kernel_rfl) (by simp) ?_
                  refine AllReadyH.cons rfl (fun K hK => ?_) (AllReadyH.nil)
                  refine step_append_list _ (by rfl) _ _ _ (by rfl) (wc.heap.size + 1) 28 i0 _ 16 Try.underlying24 hi0 hz0 hz1 hz2 rfl _ 0 _ (by rfl) O8.out _ (xs.take k) (by rfl) ((lies_take HLX.out (by omega)).kept (KC.out.trans Q8.out)) (k) (by rw [List.length_take]; omega) (by unfold maxLen; omega) (by omega) (by have := Q8.out.size; have := ZC.out; omega) ?_
                  intro A9 c9 p9 hown9 hgrow9
                  have Q9 := Lib.hid (Kept.grown Q8.out hgrow9 (fun q hq => by have := (O8.out.lt q hq).1; have := ZC.out; omega))
                  have B9 := Lib.hid ((hgrow9.block _ (Array.getElem?_eq_some_iff.1 B8.out).1 (fun e => N8.out _ e.symm rfl)).trans B8.out)
                  refine hK.out _ _ (by (try dsimp only); exact ⟨KC.out.trans Q9.out⟩) (fun hHeld => ?_)
                  clear hK K
                  (try simp only [Act.put, List.getElem_toArray, List.getElem_cons_zero, List.getElem_cons_succ, List.setIfInBounds_toArray, List.set_cons_zero, List.set_cons_succ])
                  have O9 := Lib.hid hown9
                  clear hown9 hgrow9
                  refine wpAnyH_ready (rs := [8]) (by kernel_rfl) (by simp) ?_
                  refine AllReadyH.cons rfl (fun K hK => ?_) (AllReadyH.nil)
                  refine step_append_list _ (by rfl) _ _ _ (by rfl) (wc.heap.size + 1) 28 i0 _ 16 Try.underlying24 hi0 hz0 hz1 hz2 rfl _ k _ (by rfl) O9.out _ ([(rt, rl)]) (by rfl) (lies_lit B9.out) ((k + 1)) (rfl) (by unfold maxLen; omega) (by omega) (by have := Q9.out.size; have := ZC.out; omega) ?_
                  intro A10 c10 p10 hown10 hgrow10
                  have Q10 := Lib.hid (Kept.grown Q9.out hgrow10 (fun q hq => by have := (O9.out.lt q hq).1; have := ZC.out; omega))
                  refine hK.out _ _ (by (try dsimp only); exact ⟨KC.out.trans Q10.out⟩) (fun hHeld => ?_)
                  clear hK K
                  (try simp only [Act.put, List.getElem_toArray, List.getElem_cons_zero, List.getElem_cons_succ, List.setIfInBounds_toArray, List.set_cons_zero, List.set_cons_succ])
                  have O10 := Lib.hid hown10
                  clear hown10 hgrow10
                  refine wpAnyH_ready (rs := [10]) (by kernel_rfl) (by simp) ?_
                  refine AllReadyH.cons rfl (fun K hK => ?_) (AllReadyH.nil)
                  refine step_append_list _ (by rfl) _ _ _ (by rfl) (wc.heap.size + 1) 28 i0 _ 16 Try.underlying24 hi0 hz0 hz1 hz2 rfl _ (k + 1) _ (by rfl) O10.out _ (xs.drop (k + 1)) (by rfl) (HL7.out.kept (KC.out.trans Q10.out)) ((adL xs rt rl).length) (hL9) (by unfold maxLen; omega) (by omega) (by have := Q10.out.size; have := ZC.out; omega) ?_
                  intro A11 c11 p11 hown11 hgrow11
                  have Q11 := Lib.hid (Kept.grown Q10.out hgrow11 (fun q hq => by have := (O10.out.lt q hq).1; have := ZC.out; omega))
                  refine hK.out _ _ (by (try dsimp only); exact ⟨KC.out.trans Q11.out⟩) (fun hHeld => ?_)
                  clear hK K
                  (try simp only [Act.put, List.getElem_toArray, List.getElem_cons_zero, List.getElem_cons_succ, List.setIfInBounds_toArray, List.set_cons_zero, List.set_cons_succ])
                  have O11 := Lib.hid hown11
                  clear hown11 hgrow11
                  refine wpAnyH_ready (rs := [11]) (by kernel_rfl) (by simp) ?_
                  refine AllReadyH.cons rfl (fun K hK => ?_) (AllReadyH.nil)
                  go_simp
                  refine hK.out _ _ (by (try dsimp only); exact hHeld) (fun hHeld => ?_)
                  clear hK K
                  (try simp only [Act.put, List.getElem_toArray, List.getElem_cons_zero, List.getElem_cons_succ, List.setIfInBounds_toArray, List.set_cons_zero, List.set_cons_succ])
                  refine wpAnyH_ready (rs := [12]) (by kernel_rfl) (by simp) ?_
                  refine AllReadyH.cons rfl (fun K hK => ?_) (AllReadyH.nil)
                  obtain ⟨g0, gf0, g1, gf1, g2, gf2, g3, gf3⟩ := blk4 Q11.out G8.out
                  go_simp
                  have FK := Lib.hid ((KC.out.trans Q11.out).setCell (p := ⟨wc.heap.size, 3, none⟩) (Nat.le_refl _) (.slice A11 (adL xs rt rl).length c11))
                  refine hK.out _ _ (by (try dsimp only); exact ⟨FK.out⟩) (fun hHeld => ?_)
                  clear hK K
                  (try simp only [Act.put, List.getElem_toArray, List.getElem_cons_zero, List.getElem_cons_succ, List.setIfInBounds_toArray, List.set_cons_zero, List.set_cons_succ])
                  have hO := O11.out
                  rw [hZ9] at hO
                  have FO := Lib.hid (ownsRow_setCell_below hO (a := ⟨wc.heap.size, 3, none⟩) (by simp) (.slice A11 (adL xs rt rl).length c11))
                  have FG := Lib.hid (show (p11.setCell ⟨wc.heap.size, 3, none⟩ (.slice A11 (adL xs rt rl).length c11)).cell? ⟨wc.heap.size, 0, none⟩ = some (.int .i64 id) ∧ (p11.setCell ⟨wc.heap.size, 3, none⟩ (.slice A11 (adL xs rt rl).length c11)).frozen? ⟨wc.heap.size, 0, none⟩ = false ∧ (p11.setCell ⟨wc.heap.size, 3, none⟩ (.slice A11 (adL xs rt rl).length c11)).cell? ⟨wc.heap.size, 1, none⟩ = some (.string nm) ∧ (p11.setCell ⟨wc.heap.size, 3, none⟩ (.slice A11 (adL xs rt rl).length c11)).frozen? ⟨wc.heap.size, 1, none⟩ = false ∧ (p11.setCell ⟨wc.heap.size, 3, none⟩ (.slice A11 (adL xs rt rl).length c11)).cell? ⟨wc.heap.size, 2, none⟩ = some (.int .i64 z) ∧ (p11.setCell ⟨wc.heap.size, 3, none⟩ (.slice A11 (adL xs rt rl).length c11)).frozen? ⟨wc.heap.size, 2, none⟩ = false ∧ (p11.setCell ⟨wc.heap.size, 3, none⟩ (.slice A11 (adL xs rt rl).length c11)).cell? ⟨wc.heap.size, 3, none⟩ = some (.slice A11 (adL xs rt rl).length c11) ∧ (p11.setCell ⟨wc.heap.size, 3, none⟩ (.slice A11 (adL xs rt rl).length c11)).frozen? ⟨wc.heap.size, 3, none⟩ = false by simp [go_sem, *])
                  clear g0 gf0 g1 gf1 g2 gf2 g3 gf3 hO
                  refine wpAnyH_done (by kernel_rfl) ?_ _
                  go_wp2_with fail
                  go_meet
                  exact ⟨A11, c11, FK.out, FO.out, FG.out⟩
              · skip
                go_simp
                refine hK.out _ _ (by (try dsimp only); exact ⟨KC.out.trans (Kept.alloc Q0.out _)⟩) (fun hHeld => ?_)
                clear hK K
                (try simp only [Act.put, List.getElem_toArray, List.getElem_cons_zero, List.getElem_cons_succ, List.setIfInBounds_toArray, List.set_cons_zero, List.set_cons_succ])
                have Q14 := Lib.hid (Kept.alloc Q0.out (.cells #[.int .i64 rt, .int .i64 rl] 28))
                have B14 := Lib.hid (heap_alloc_new p0 (.cells #[.int .i64 rt, .int .i64 rl] 28))
                generalize p0.alloc (.cells #[.int .i64 rt, .int .i64 rl] 28) = p14 at *
                refine wpAnyH_ready (rs := [0]) (by kernel_rfl) (by simp) ?_
                refine AllReadyH.cons rfl (fun K hK => ?_) (AllReadyH.nil)
                go_simp
                refine hK.out _ _ (by (try dsimp only); exact ⟨KC.out.trans (Kept.alloc Q14.out _)⟩) (fun hHeld => ?_)
                clear hK K
                (try simp only [Act.put, List.getElem_toArray, List.getElem_cons_zero, List.getElem_cons_succ, List.setIfInBounds_toArray, List.set_cons_zero, List.set_cons_succ])
                have Q15 := Lib.hid (Kept.alloc Q14.out (.cells #[] 28))
                have O15 := Lib.hid (World.ownsRow_lit (base := wc.heap.size + 1) (e := 28) (size := 2) p14 #[] 0 (by have := Q14.out.size; have := ZC.out; omega) (by simp [maxLen]) rfl)
                have B15 := Lib.hid (((World.grownBy_alloc p14 (.cells #[] 28) none).block _ (Array.getElem?_eq_some_iff.1 B14.out).1 (by simp)).trans B14.out)
                have N15 := Lib.hid (show ∀ q, (Value.slice (some ⟨p14.heap.size, 0, none⟩) 0 0).ownBlock = some q → p0.heap.size ≠ q from fun q hq e => Nat.lt_irrefl _ (Nat.lt_of_lt_of_eq (Array.getElem?_eq_some_iff.1 B14.out).1 ((show p14.heap.size = q by simpa [Value.ownBlock] using hq).trans e.symm)))
                generalize p14.alloc (.cells #[] 28) = p15 at *
                refine wpAnyH_ready (rs := [5]) (by kernel_rfl) (by simp) ?_
                refine AllReadyH.cons rfl (fun K hK => ?_) (AllReadyH.nil)
                refine step_append_list _ (by rfl) _ _ _ (by rfl) (wc.heap.size + 1) 28 i0 _ 16 Try.underlying24 hi0 hz0 hz1 hz2 rfl _ 0 _ (by rfl) O15.out _ (xs.take k) (by rfl) ((lies_take HLX.out (by omega)).kept (KC.out.trans Q15.out)) (k) (by rw [List.length_take]; omega) (by unfold maxLen; omega) (by omega) (by have := Q15.out.size; have := ZC.out; omega) ?_
                intro A16 c16 p16 hown16 hgrow16
                have Q16 := Lib.hid (Kept.grown Q15.out hgrow16 (fun q hq => by have := (O15.out.lt q hq).1; have := ZC.out; omega))
                have B16 := Lib.hid ((hgrow16.block _ (Array.getElem?_eq_some_iff.1 B15.out).1 (fun e => N15.out _ e.symm rfl)).trans B15.out)
                refine hK.out _ _ (by (try dsimp only); exact ⟨KC.out.trans Q16.out⟩) (fun hHeld => ?_)
                clear hK K
                (try simp only [Act.put, List.getElem_toArray, List.getElem_cons_zero, List.getElem_cons_succ, List.setIfInBounds_toArray, List.set_cons_zero, List.set_cons_succ])
                have O16 := Lib.hid hown16
                clear hown16 hgrow16
                refine wpAnyH_ready (rs := [8]) (by kernel_rfl) (by simp) ?_
                refine AllReadyH.cons rfl (fun K hK => ?_) (AllReadyH.nil)
                refine step_append_list _ (by rfl) _ _ _ (by rfl) (wc.heap.size + 1) 28 i0 _ 16 Try.underlying24 hi0 hz0 hz1 hz2 rfl _ k _ (by rfl) O16.out _ ([(rt, rl)]) (by rfl) (lies_lit B16.out) ((k + 1)) (rfl) (by unfold maxLen; omega) (by omega) (by have := Q16.out.size; have := ZC.out; omega) ?_
                intro A17 c17 p17 hown17 hgrow17
                have Q17 := Lib.hid (Kept.grown Q16.out hgrow17 (fun q hq => by have := (O16.out.lt q hq).1; have := ZC.out; omega))
                refine hK.out _ _ (by (try dsimp only); exact ⟨KC.out.trans Q17.out⟩) (fun hHeld => ?_)
                clear hK K
                (try simp only [Act.put, List.getElem_toArray, List.getElem_cons_zero, List.getElem_cons_succ, List.setIfInBounds_toArray, List.set_cons_zero, List.set_cons_succ])
                have O17 := Lib.hid hown17
                clear hown17 hgrow17
                refine wpAnyH_ready (rs := [10]) (by kernel_rfl) (by simp) ?_
                refine AllReadyH.cons rfl (fun K hK => ?_) (AllReadyH.nil)
                refine step_append_list _ (by rfl) _ _ _ (by rfl) (wc.heap.size + 1) 28 i0 _ 16 Try.underlying24 hi0 hz0 hz1 hz2 rfl _ (k + 1) _ (by rfl) O17.out _ (xs.drop (k + 1)) (by rfl) (HL7.out.kept (KC.out.trans Q17.out)) ((adL xs rt rl).length) (hL9) (by unfold maxLen; omega) (by omega) (by have := Q17.out.size; have := ZC.out; omega) ?_
                intro A18 c18 p18 hown18 hgrow18
                have Q18 := Lib.hid (Kept.grown Q17.out hgrow18 (fun q hq => by have := (O17.out.lt q hq).1; have := ZC.out; omega))
                refine hK.out _ _ (by (try dsimp only); exact ⟨KC.out.trans Q18.out⟩) (fun hHeld => ?_)
                clear hK K
                (try simp only [Act.put, List.getElem_toArray, List.getElem_cons_zero, List.getElem_cons_succ, List.setIfInBounds_toArray, List.set_cons_zero, List.set_cons_succ])
                have O18 := Lib.hid hown18
                clear hown18 hgrow18
                refine wpAnyH_ready (rs := [11]) (by kernel_rfl) (by simp) ?_
                refine AllReadyH.cons rfl (fun K hK => ?_) (AllReadyH.nil)
                go_simp
                refine hK.out _ _ (by (try dsimp only); exact hHeld) (fun hHeld => ?_)
                clear hK K
                (try simp only [Act.put, List.getElem_toArray, List.getElem_cons_zero, List.getElem_cons_succ, List.setIfInBounds_toArray, List.set_cons_zero, List.set_cons_succ])
                refine wpAnyH_ready (rs := [12]) (by kernel_rfl) (by simp) ?_
                refine AllReadyH.cons rfl (fun K hK => ?_) (AllReadyH.nil)
                obtain ⟨g0, gf0, g1, gf1, g2, gf2, g3, gf3⟩ := blk4 Q18.out G8.out
                go_simp
                have FK := Lib.hid ((KC.out.trans Q18.out).setCell (p := ⟨wc.heap.size, 3, none⟩) (Nat.le_refl _) (.slice A18 (adL xs rt rl).length c18))
                refine hK.out _ _ (by (try dsimp only); exact ⟨FK.out⟩) (fun hHeld => ?_)
                clear hK K
                (try simp only [Act.put, List.getElem_toArray, List.getElem_cons_zero, List.getElem_cons_succ, List.setIfInBounds_toArray, List.set_cons_zero, List.set_cons_succ])
                have hO := O18.out
                rw [hZ9] at hO
                have FO := Lib.hid (ownsRow_setCell_below hO (a := ⟨wc.heap.size, 3, none⟩) (by simp) (.slice A18 (adL xs rt rl).length c18))
                have FG := Lib.hid (show (p18.setCell ⟨wc.heap.size, 3, none⟩ (.slice A18 (adL xs rt rl).length c18)).cell? ⟨wc.heap.size, 0, none⟩ = some (.int .i64 id) ∧ (p18.setCell ⟨wc.heap.size, 3, none⟩ (.slice A18 (adL xs rt rl).length c18)).frozen? ⟨wc.heap.size, 0, none⟩ = false ∧ (p18.setCell ⟨wc.heap.size, 3, none⟩ (.slice A18 (adL xs rt rl).length c18)).cell? ⟨wc.heap.size, 1, none⟩ = some (.string nm) ∧ (p18.setCell ⟨wc.heap.size, 3, none⟩ (.slice A18 (adL xs rt rl).length c18)).frozen? ⟨wc.heap.size, 1, none⟩ = false ∧ (p18.setCell ⟨wc.heap.size, 3, none⟩ (.slice A18 (adL xs rt rl).length c18)).cell? ⟨wc.heap.size, 2, none⟩ = some (.int .i64 z) ∧ (p18.setCell ⟨wc.heap.size, 3, none⟩ (.slice A18 (adL xs rt rl).length c18)).frozen? ⟨wc.heap.size, 2, none⟩ = false ∧ (p18.setCell ⟨wc.heap.size, 3, none⟩ (.slice A18 (adL xs rt rl).length c18)).cell? ⟨wc.heap.size, 3, none⟩ = some (.slice A18 (adL xs rt rl).length c18) ∧ (p18.setCell ⟨wc.heap.size, 3, none⟩ (.slice A18 (adL xs rt rl).length c18)).frozen? ⟨wc.heap.size, 3, none⟩ = false by simp [go_sem, *])
                clear g0 gf0 g1 gf1 g2 gf2 g3 gf3 hO
                refine wpAnyH_done (by kernel_rfl) ?_ _
                go_wp2_with fail
                go_meet
                exact ⟨A18, c18, FK.out, FO.out, FG.out⟩
            case rest =>
              have hbw := hzw
              obtain ⟨A9, c9, k9, o9, g0, gf0, g1, gf1, g2, gf2, g3, gf3⟩ := hcut
              have K9 := Lib.hid (KWc.out.trans k9)
              have O9 := Lib.hid o9
              clear k9 o9
              cases h3 : gaugeB id nm z (adL xs rt rl)
              · have HOK := Lib.hid (show adOk id nm z xs rt rl = false by simp [adOk, H1.out, h3])
                have HV := Lib.hid (ad_no HOK.out)
                go_wp2_with fail
                refine (l3One_any id nm z _ (adL xs rt rl) hs _ (pairs_own O9.out)).mono ?_
                rintro e w9 ⟨rfl, hk9⟩
                rw [h3]
                have OF := Lib.hid (own_kept O9.out hk9)
                have hk := K9.out.trans hk9
                obtain ⟨x0', xf0, x1', xf1, x2', xf2, x3', xf3⟩ := blk4 hk9 ⟨g0, gf0, g1, gf1, g2, gf2, g3, gf3⟩
                clear g0 gf0 g1 gf1 g2 gf2 g3 gf3 hk9
                obtain ⟨a0, af0, a1, af1, a2, af2, a3, af3, r0, rf0, r1, rf1, b0, bf0, b1, bf1, b2, bf2, b3, bf3⟩ := ad_cells hk
                have HKF := Lib.hid (HKA.out.trans hk)
                clear hk
                go_wp2_with fail
                exact bodyPost_ret (v := .tuple #[noG, .bool false]) (by simp [results, Try.results18, go_sem, noG, *]) rfl ⟨_, HV.out.1, by rw [HV.out.2]; exact World.ownsRow_nil _ _ _ _, ((((HKF.out.setCell (by first | (simp; done) | (simp; omega)) _).setCell (by first | (simp; done) | (simp; omega)) _).setCell (by first | (simp; done) | (simp; omega)) _).setCell (by first | (simp; done) | (simp; omega)) _)⟩
              · have HOK := Lib.hid (show adOk id nm z xs rt rl = true by simp [adOk, H1.out, h3])
                have HV : adV id nm z xs rt rl = adL xs rt rl := by simp [adV, HOK.out]
                go_wp2_with fail
                refine (l3One_any id nm z _ (adL xs rt rl) hs _ (pairs_own O9.out)).mono ?_
                rintro e w9 ⟨rfl, hk9⟩
                rw [h3]
                have OF := Lib.hid (own_kept O9.out hk9)
                have hk := K9.out.trans hk9
                obtain ⟨x0', xf0, x1', xf1, x2', xf2, x3', xf3⟩ := blk4 hk9 ⟨g0, gf0, g1, gf1, g2, gf2, g3, gf3⟩
                clear g0 gf0 g1 gf1 g2 gf2 g3 gf3 hk9
                obtain ⟨a0, af0, a1, af1, a2, af2, a3, af3, r0, rf0, r1, rf1, b0, bf0, b1, bf1, b2, bf2, b3, bf3⟩ := ad_cells hk
                have HKF := Lib.hid (HKA.out.trans hk)
                clear hk
                go_wp2_with fail
                exact bodyPost_ret (v := .tuple #[.agg #[.int .i64 id, .string nm, .int .i64 z, .slice A9 (adL xs rt rl).length c9], .bool true]) (by simp [results, Try.results18, go_sem, *]) rfl ⟨.slice A9 (adL xs rt rl).length c9, by simp [szG, HOK.out], by rw [HV]; exact own_base (ownsRow_setCell_below (ownsRow_setCell_below (ownsRow_setCell_below (ownsRow_setCell_below OF.out (by first | (simp; done) | (simp; omega)) _) (by first | (simp; done) | (simp; omega)) _) (by first | (simp; done) | (simp; omega)) _) (by first | (simp; done) | (simp; omega)) _) (by omega), ((((HKF.out.setCell (by first | (simp; done) | (simp; omega)) _).setCell (by first | (simp; done) | (simp; omega)) _).setCell (by first | (simp; done) | (simp; omega)) _).setCell (by first | (simp; done) | (simp; omega)) _)⟩
        · have hde : (P1 xs k == rt) = false := by simp [heq]
          have HAD := Lib.hid (ad_new (rl := rl) HAT.out (fun _ => heq))
          have HLW := Lib.hid ((lies_drop (k := k) (HL.out) (by omega)).kept (HKA.out.trans HWA.out))
          go_wp2_with fail
          go_quiet (fail)
          go_upto_region 7 with fail
          go_cut [46] (fun s46 wx => s46 = .bool false ∧ Kept wr wx)
          case first =>
            go_quiet (fail)
            go_wp2_with fail
            go_meet
            exact ⟨rfl, by (repeat (first | exact Kept.refl _ | assumption | refine Kept.alloc ?_ _ | refine Kept.drew ?_ | refine Kept.drewN ?_ _ | refine Kept.setCell ?_ (by first | (simp; done) | (simp; omega) | omega | exact Kept.size (by (repeat (first | exact Kept.refl _ | assumption | refine Kept.alloc ?_ _ | refine Kept.drew ?_ | refine Kept.drewN ?_ _ | refine Kept.trans ?_ (by assumption))))) _ | refine Kept.trans ?_ (by assumption)))⟩
          case rest =>
            obtain ⟨rfl, hk7⟩ := hcut
            have HL7 := Lib.hid (HLW.out.kept hk7)
            have KWc := Lib.hid (HWA.out.trans hk7)
            clear hk7 x0
            clear a0 af0 a1 af1 a2 af2 a3 af3 r0 rf0 r1 rf1 b0 bf0 b1 bf1 b2 bf2 b3 bf3
            have hL9 : k + 1 + (xs.drop k).length = (adL xs rt rl).length := by rw [HAD.out]; first | (simp; done) | (simp; omega)
            have hZ9 : [] ++ (xs.take k).flatMap pairC ++ [(rt, rl)].flatMap pairC ++ (xs.drop k).flatMap pairC = (adL xs rt rl).flatMap pairC := by rw [HAD.out, List.flatMap_append, List.flatMap_append]; rfl
            have hal := ad_len xs rt rl
            have kc1 : (k : Int) ≤ (c : Int) := by omega
            have kc2 : k ≤ c := by omega
            have hzw : w.heap.size + 1 + 1 + 1 ≤ wc.heap.size := by simpa using KWc.out.size
            have HLX := Lib.hid (HL.out.kept (HKA.out.trans KWc.out))
            obtain ⟨a0, af0, a1, af1, a2, af2, a3, af3, r0, rf0, r1, rf1, b0, bf0, b1, bf1, b2, bf2, b3, bf3⟩ := ad_cells KWc.out
            go_upto_region 10 with fail
            clear a0 af0 a1 af1 a2 af2 a3 af3 r0 rf0 r1 rf1 b0 bf0 b1 bf1 b2 bf2 b3 bf3
            go_cut [] (fun wx => ∃ A9 c9, Kept wc wx ∧ wx.ownsRow (wc.heap.size + 1) 28 2 (.slice A9 (adL xs rt rl).length c9) (adL xs rt rl).length ((adL xs rt rl).flatMap pairC) ∧ wx.cell? ⟨wc.heap.size, 0, none⟩ = some (.int .i64 id) ∧ wx.frozen? ⟨wc.heap.size, 0, none⟩ = false ∧ wx.cell? ⟨wc.heap.size, 1, none⟩ = some (.string nm) ∧ wx.frozen? ⟨wc.heap.size, 1, none⟩ = false ∧ wx.cell? ⟨wc.heap.size, 2, none⟩ = some (.int .i64 z) ∧ wx.frozen? ⟨wc.heap.size, 2, none⟩ = false ∧ wx.cell? ⟨wc.heap.size, 3, none⟩ = some (.slice A9 (adL xs rt rl).length c9) ∧ wx.frozen? ⟨wc.heap.size, 3, none⟩ = false)
            case first =>
              have kf3 : ∀ w' : World, Root wc w' → w'.cell? ⟨w.heap.size, 3, none⟩ = some (.slice (some ⟨b, off, none⟩) xs.length c) := fun w' h => h.keep (ad_cells KWc.out).2.2.2.2.2.2.1
              have kr0 : ∀ w' : World, Root wc w' → w'.cell? ⟨w.heap.size + 1, 0, none⟩ = some (.int .i64 rt) := fun w' h => h.keep (ad_cells KWc.out).2.2.2.2.2.2.2.2.1
              have kr1 : ∀ w' : World, Root wc w' → w'.cell? ⟨w.heap.size + 1, 1, none⟩ = some (.int .i64 rl) := fun w' h => h.keep (ad_cells KWc.out).2.2.2.2.2.2.2.2.2.2.1
              refine wp_region_held_drew (S := fun w' => Root wc w') (by kernel_rfl) (by (try dsimp only); exact Root.drew (Root.alloc (Root.refl _) _)) (fun hHeld => ?_)
              refine wpAnyH_take (i := 1) (v := ?_) rfl (by kernel_rfl) (by kernel_rfl) (by kernel_rfl) (fun _ _ _ h => h) (Or.inl ⟨by kernel_rfl, ?_⟩) (by assumption) ?_
              rotate_left
              focus (intro w' hSw; (try dsimp only at hSw); have s3 := kf3 w' hSw; have sr0 := kr0 w' hSw; have sr1 := kr1 w' hSw; go_simp; (try with_reducible rfl))
              (try simp only [Act.put, List.getElem_toArray, List.getElem_cons_zero, List.getElem_cons_succ, List.setIfInBounds_toArray, List.set_cons_zero, List.set_cons_succ])
              refine wpAnyH_take (i := 2) (v := ?_) rfl (by kernel_rfl) (by kernel_rfl) (by kernel_rfl) (fun _ _ _ h => h) (Or.inl ⟨by kernel_rfl, ?_⟩) (by assumption) ?_
              rotate_left
              focus (intro w' hSw; (try dsimp only at hSw); have s3 := kf3 w' hSw; have sr0 := kr0 w' hSw; have sr1 := kr1 w' hSw; go_simp; (try with_reducible rfl))
              (try simp only [Act.put, List.getElem_toArray, List.getElem_cons_zero, List.getElem_cons_succ, List.setIfInBounds_toArray, List.set_cons_zero, List.set_cons_succ])
              refine wpAnyH_take (i := 3) (v := ?_) rfl (by kernel_rfl) (by kernel_rfl) (by kernel_rfl) (fun _ _ _ h => h) (Or.inl ⟨by kernel_rfl, ?_⟩) (by assumption) ?_
              rotate_left
              focus (intro w' hSw; (try dsimp only at hSw); have s3 := kf3 w' hSw; have sr0 := kr0 w' hSw; have sr1 := kr1 w' hSw; go_simp; (try with_reducible rfl))
              (try simp only [Act.put, List.getElem_toArray, List.getElem_cons_zero, List.getElem_cons_succ, List.setIfInBounds_toArray, List.set_cons_zero, List.set_cons_succ])
              refine wpAnyH_take (i := 4) (v := ?_) rfl (by kernel_rfl) (by kernel_rfl) (by kernel_rfl) (fun _ _ _ h => h) (Or.inl ⟨by kernel_rfl, ?_⟩) (by assumption) ?_
              rotate_left
              focus (intro w' hSw; (try dsimp only at hSw); have s3 := kf3 w' hSw; have sr0 := kr0 w' hSw; have sr1 := kr1 w' hSw; go_simp; (try with_reducible rfl))
              (try simp only [Act.put, List.getElem_toArray, List.getElem_cons_zero, List.getElem_cons_succ, List.setIfInBounds_toArray, List.set_cons_zero, List.set_cons_succ])
              refine wpAnyH_take (i := 6) (v := ?_) rfl (by kernel_rfl) (by kernel_rfl) (by kernel_rfl) (fun _ _ _ h => h) (Or.inl ⟨by kernel_rfl, ?_⟩) (by assumption) ?_
              rotate_left
              focus (intro w' hSw; (try dsimp only at hSw); have s3 := kf3 w' hSw; have sr0 := kr0 w' hSw; have sr1 := kr1 w' hSw; go_simp; (try with_reducible rfl))
              (try simp only [Act.put, List.getElem_toArray, List.getElem_cons_zero, List.getElem_cons_succ, List.setIfInBounds_toArray, List.set_cons_zero, List.set_cons_succ])
              refine wpAnyH_take (i := 9) (v := ?_) rfl (by kernel_rfl) (by kernel_rfl) (by kernel_rfl) (fun _ _ _ h => h) (Or.inl ⟨by kernel_rfl, ?_⟩) (by assumption) ?_
              rotate_left
              focus (intro w' hSw; (try dsimp only at hSw); have s3 := kf3 w' hSw; have sr0 := kr0 w' hSw; have sr1 := kr1 w' hSw; go_simp; (try with_reducible rfl))
              (try simp only [Act.put, List.getElem_toArray, List.getElem_cons_zero, List.getElem_cons_succ, List.setIfInBounds_toArray, List.set_cons_zero, List.set_cons_succ])
              have G8 := Lib.hid (blk4 (b := wc.heap.size) (v0 := .int .i64 id) (v1 := .string nm) (v2 := .int .i64 z) (v3 := .slice (some ⟨b, off, none⟩) xs.length c) (show Kept (wc.alloc (.cells #[.int .i64 id, .string nm, .int .i64 z, .slice (some ⟨b, off, none⟩) xs.length c] 26)) (wc.alloc (.cells #[.int .i64 id, .string nm, .int .i64 z, .slice (some ⟨b, off, none⟩) xs.length c] 26)).drew from Kept.drew (Kept.refl _)) (by simp [go_sem]))
              have KC := Lib.hid (show Kept wc (wc.alloc (.cells #[.int .i64 id, .string nm, .int .i64 z, .slice (some ⟨b, off, none⟩) xs.length c] 26)).drew from Kept.drew (Kept.alloc (Kept.refl wc) _))
              have ZC := Lib.hid (show (wc.alloc (.cells #[.int .i64 id, .string nm, .int .i64 z, .slice (some ⟨b, off, none⟩) xs.length c] 26)).drew.heap.size = wc.heap.size + 1 by simp)
              clear kf3 kr0 kr1
              generalize (wc.alloc (.cells #[.int .i64 id, .string nm, .int .i64 z, .slice (some ⟨b, off, none⟩) xs.length c] 26)).drew = p0 at *
              have Q0 := Lib.hid (Kept.refl p0)
              refine wpAnyH_ready (rs := [0, 7]) (by kernel_rfl) (by simp) ?_
              refine AllReadyH.cons rfl (fun K hK => ?_) (AllReadyH.cons rfl (fun K hK => ?_) (AllReadyH.nil))
              · skip
                go_simp
                refine hK.out _ _ (by (try dsimp only); exact ⟨KC.out.trans (Kept.alloc Q0.out _)⟩) (fun hHeld => ?_)
                clear hK K
                (try simp only [Act.put, List.getElem_toArray, List.getElem_cons_zero, List.getElem_cons_succ, List.setIfInBounds_toArray, List.set_cons_zero, List.set_cons_succ])
                have Q1 := Lib.hid (Kept.alloc Q0.out (.cells #[] 28))
                have O1 := Lib.hid (World.ownsRow_lit (base := wc.heap.size + 1) (e := 28) (size := 2) p0 #[] 0 (by have := Q0.out.size; have := ZC.out; omega) (by simp [maxLen]) rfl)
                generalize p0.alloc (.cells #[] 28) = p1 at *
                refine wpAnyH_ready (rs := [5, 7]) (by kernel_rfl) (by simp) ?_
                refine AllReadyH.cons rfl (fun K hK => ?_) (AllReadyH.cons rfl (fun K hK => ?_) (AllReadyH.nil))
                · skip
                  refine step_append_list _ (by rfl) _ _ _ (by rfl) (wc.heap.size + 1) 28 i0 _ 16 Try.underlying24 hi0 hz0 hz1 hz2 rfl _ 0 _ (by rfl) O1.out _ (xs.take k) (by rfl) ((lies_take HLX.out (by omega)).kept (KC.out.trans Q1.out)) (k) (by rw [List.length_take]; omega) (by unfold maxLen; omega) (by omega) (by have := Q1.out.size; have := ZC.out; omega) ?_
                  intro A2 c2 p2 hown2 hgrow2
                  have Q2 := Lib.hid (Kept.grown Q1.out hgrow2 (fun q hq => by have := (O1.out.lt q hq).1; have := ZC.out; omega))
                  refine hK.out _ _ (by (try dsimp only); exact ⟨KC.out.trans Q2.out⟩) (fun hHeld => ?_)
                  clear hK K
                  (try simp only [Act.put, List.getElem_toArray, List.getElem_cons_zero, List.getElem_cons_succ, List.setIfInBounds_toArray, List.set_cons_zero, List.set_cons_succ])
                  have O2 := Lib.hid hown2
                  clear hown2 hgrow2
                  refine wpAnyH_ready (rs := [7]) (by kernel_rfl) (by simp) ?_
                  refine AllReadyH.cons rfl (fun K hK => ?_) (AllReadyH.nil)
                  go_simp
                  refine hK.out _ _ (by (try dsimp only); exact ⟨KC.out.trans (Kept.alloc Q2.out _)⟩) (fun hHeld => ?_)
                  clear hK K
                  (try simp only [Act.put, List.getElem_toArray, List.getElem_cons_zero, List.getElem_cons_succ, List.setIfInBounds_toArray, List.set_cons_zero, List.set_cons_succ])
                  have Q3 := Lib.hid (Kept.alloc Q2.out (.cells #[.int .i64 rt, .int .i64 rl] 28))
                  have B3 := Lib.hid (heap_alloc_new p2 (.cells #[.int .i64 rt, .int .i64 rl] 28))
                  have N3 := Lib.hid (show ∀ q, (Value.slice A2 k c2).ownBlock = some q → p2.heap.size ≠ q from fun q hq e => Nat.lt_irrefl _ (Nat.lt_of_lt_of_eq (O2.out.lt q hq).2 e))
                  have O3 := Lib.hid (O2.out.alloc (.cells #[.int .i64 rt, .int .i64 rl] 28))
                  generalize p2.alloc (.cells #[.int .i64 rt, .int .i64 rl] 28) = p3 at *
                  refine wpAnyH_ready (rs := [8]) (by kernel_rfl) (by simp) ?_
                  refine AllReadyH.cons rfl (fun K hK => ?_) (AllReadyH.nil)
                  refine step_append_list _ (by rfl) _ _ _ (by rfl) (wc.heap.size + 1) 28 i0 _ 16 Try.underlying24 hi0 hz0 hz1 hz2 rfl _ k _ (by rfl) O3.out _ ([(rt, rl)]) (by rfl) (lies_lit B3.out) ((k + 1)) (rfl) (by unfold maxLen; omega) (by omega) (by have := Q3.out.size; have := ZC.out; omega) ?_
                  intro A4 c4 p4 hown4 hgrow4
                  have Q4 := Lib.hid (Kept.grown Q3.out hgrow4 (fun q hq => by have := (O3.out.lt q hq).1; have := ZC.out; omega))
                  refine hK.out _ _ (by (try dsimp only); exact ⟨KC.out.trans Q4.out⟩) (fun hHeld => ?_)
                  clear hK K
                  (try simp only [Act.put, List.getElem_toArray, List.getElem_cons_zero, List.getElem_cons_succ, List.setIfInBounds_toArray, List.set_cons_zero, List.set_cons_succ])
                  have O4 := Lib.hid hown4
                  clear hown4 hgrow4
                  refine wpAnyH_ready (rs := [10]) (by kernel_rfl) (by simp) ?_
                  refine AllReadyH.cons rfl (fun K hK => ?_) (AllReadyH.nil)
                  refine step_append_list _ (by rfl) _ _ _ (by rfl) (wc.heap.size + 1) 28 i0 _ 16 Try.underlying24 hi0 hz0 hz1 hz2 rfl _ (k + 1) _ (by rfl) O4.out _ (xs.drop k) (by rfl) (HL7.out.kept (KC.out.trans Q4.out)) ((adL xs rt rl).length) (hL9) (by unfold maxLen; omega) (by omega) (by have := Q4.out.size; have := ZC.out; omega) ?_
                  intro A5 c5 p5 hown5 hgrow5
                  have Q5 := Lib.hid (Kept.grown Q4.out hgrow5 (fun q hq => by have := (O4.out.lt q hq).1; have := ZC.out; omega))
                  refine hK.out _ _ (by (try dsimp only); exact ⟨KC.out.trans Q5.out⟩) (fun hHeld => ?_)
                  clear hK K
                  (try simp only [Act.put, List.getElem_toArray, List.getElem_cons_zero, List.getElem_cons_succ, List.setIfInBounds_toArray, List.set_cons_zero, List.set_cons_succ])
                  have O5 := Lib.hid hown5
                  clear hown5 hgrow5
                  refine wpAnyH_ready (rs := [11]) (by kernel_rfl) (by simp) ?_
                  refine AllReadyH.cons rfl (fun K hK => ?_) (AllReadyH.nil)
                  go_simp
                  refine hK.out _ _ (by (try dsimp only); exact hHeld) (fun hHeld => ?_)
                  clear hK K
                  (try simp only [Act.put, List.getElem_toArray, List.getElem_cons_zero, List.getElem_cons_succ, List.setIfInBounds_toArray, List.set_cons_zero, List.set_cons_succ])
                  refine wpAnyH_ready (rs := [12]) (by kernel_rfl) (by simp) ?_
                  refine AllReadyH.cons rfl (fun K hK => ?_) (AllReadyH.nil)
                  obtain ⟨g0, gf0, g1, gf1, g2, gf2, g3, gf3⟩ := blk4 Q5.out G8.out
                  go_simp
                  have FK := Lib.hid ((KC.out.trans Q5.out).setCell (p := ⟨wc.heap.size, 3, none⟩) (Nat.le_refl _) (.slice A5 (adL xs rt rl).length c5))
                  refine hK.out _ _ (by (try dsimp only); exact ⟨FK.out⟩) (fun hHeld => ?_)
                  clear hK K
                  (try simp only [Act.put, List.getElem_toArray, List.getElem_cons_zero, List.getElem_cons_succ, List.setIfInBounds_toArray, List.set_cons_zero, List.set_cons_succ])
                  have hO := O5.out
                  rw [hZ9] at hO
                  have FO := Lib.hid (ownsRow_setCell_below hO (a := ⟨wc.heap.size, 3, none⟩) (by simp) (.slice A5 (adL xs rt rl).length c5))
                  have FG := Lib.hid (show (p5.setCell ⟨wc.heap.size, 3, none⟩ (.slice A5 (adL xs rt rl).length c5)).cell? ⟨wc.heap.size, 0, none⟩ = some (.int .i64 id) ∧ (p5.setCell ⟨wc.heap.size, 3, none⟩ (.slice A5 (adL xs rt rl).length c5)).frozen? ⟨wc.heap.size, 0, none⟩ = false ∧ (p5.setCell ⟨wc.heap.size, 3, none⟩ (.slice A5 (adL xs rt rl).length c5)).cell? ⟨wc.heap.size, 1, none⟩ = some (.string nm) ∧ (p5.setCell ⟨wc.heap.size, 3, none⟩ (.slice A5 (adL xs rt rl).length c5)).frozen? ⟨wc.heap.size, 1, none⟩ = false ∧ (p5.setCell ⟨wc.heap.size, 3, none⟩ (.slice A5 (adL xs rt rl).length c5)).cell? ⟨wc.heap.size, 2, none⟩ = some (.int .i64 z) ∧ (p5.setCell ⟨wc.heap.size, 3, none⟩ (.slice A5 (adL xs rt rl).length c5)).frozen? ⟨wc.heap.size, 2, none⟩ = false ∧ (p5.setCell ⟨wc.heap.size, 3, none⟩ (.slice A5 (adL xs rt rl).length c5)).cell? ⟨wc.heap.size, 3, none⟩ = some (.slice A5 (adL xs rt rl).length c5) ∧ (p5.setCell ⟨wc.heap.size, 3, none⟩ (.slice A5 (adL xs rt rl).length c5)).frozen? ⟨wc.heap.size, 3, none⟩ = false by simp [go_sem, *])
                  clear g0 gf0 g1 gf1 g2 gf2 g3 gf3 hO
                  refine wpAnyH_done (by kernel_rfl) ?_ _
                  go_wp2_with fail
                  go_meet
                  exact ⟨A5, c5, FK.out, FO.out, FG.out⟩
                · skip
                  go_simp
                  refine hK.out _ _ (by (try dsimp only); exact ⟨KC.out.trans (Kept.alloc Q1.out _)⟩) (fun hHeld => ?_)
                  clear hK K
                  (try simp only [Act.put, List.getElem_toArray, List.getElem_cons_zero, List.getElem_cons_succ, List.setIfInBounds_toArray, List.set_cons_zero, List.set_cons_succ])
                  have Q8 := Lib.hid (Kept.alloc Q1.out (.cells #[.int .i64 rt, .int .i64 rl] 28))
                  have B8 := Lib.hid (heap_alloc_new p1 (.cells #[.int .i64 rt, .int .i64 rl] 28))
                  have N8 := Lib.hid (show ∀ q, (Value.slice (some ⟨p0.heap.size, 0, none⟩) 0 0).ownBlock = some q → p1.heap.size ≠ q from fun q hq e => Nat.lt_irrefl _ (Nat.lt_of_lt_of_eq (O1.out.lt q hq).2 e))
                  have O8 := Lib.hid (O1.out.alloc (.cells #[.int .i64 rt, .int .i64 rl] 28))
                  generalize p1.alloc (.cells #[.int .i64 rt, .int .i64 rl] 28) = p8 at *
                  refine wpAnyH_ready (rs := [5]) (by kernel_rfl) (by simp) ?_
                  refine AllReadyH.cons rfl (fun K hK => ?_) (AllReadyH.nil)
                  refine step_append_list _ (by rfl) _ _ _ (by rfl) (wc.heap.size + 1) 28 i0 _ 16 Try.underlying24 hi0 hz0 hz1 hz2 rfl _ 0 _ (by rfl) O8.out _ (xs.take k) (by rfl) ((lies_take HLX.out (by omega)).kept (KC.out.trans Q8.out)) (k) (by rw [List.length_take]; omega) (by unfold maxLen; omega) (by omega) (by have := Q8.out.size; have := ZC.out; omega) ?_
                  intro A9 c9 p9 hown9 hgrow9
                  have Q9 := Lib.hid (Kept.grown Q8.out hgrow9 (fun q hq => by have := (O8.out.lt q hq).1; have := ZC.out; omega))
                  have B9 := Lib.hid ((hgrow9.block _ (Array.getElem?_eq_some_iff.1 B8.out).1 (fun e => N8.out _ e.symm rfl)).trans B8.out)
                  refine hK.out _ _ (by (try dsimp only); exact ⟨KC.out.trans Q9.out⟩) (fun hHeld => ?_)
                  clear hK K
                  (try simp only [Act.put, List.getElem_toArray, List.getElem_cons_zero, List.getElem_cons_succ, List.setIfInBounds_toArray, List.set_cons_zero, List.set_cons_succ])
                  have O9 := Lib.hid hown9
                  clear hown9 hgrow9
                  refine wpAnyH_ready (rs := [8]) (by kernel_rfl) (by simp) ?_
                  refine AllReadyH.cons rfl (fun K hK => ?_) (AllReadyH.nil)
                  refine step_append_list _ (by rfl) _ _ _ (by rfl) (wc.heap.size + 1) 28 i0 _ 16 Try.underlying24 hi0 hz0 hz1 hz2 rfl _ k _ (by rfl) O9.out _ ([(rt, rl)]) (by rfl) (lies_lit B9.out) ((k + 1)) (rfl) (by unfold maxLen; omega) (by omega) (by have := Q9.out.size; have := ZC.out; omega) ?_
                  intro A10 c10 p10 hown10 hgrow10
                  have Q10 := Lib.hid (Kept.grown Q9.out hgrow10 (fun q hq => by have := (O9.out.lt q hq).1; have := ZC.out; omega))
                  refine hK.out _ _ (by (try dsimp only); exact ⟨KC.out.trans Q10.out⟩) (fun hHeld => ?_)
                  clear hK K
                  (try simp only [Act.put, List.getElem_toArray, List.getElem_cons_zero, List.getElem_cons_succ, List.setIfInBounds_toArray, List.set_cons_zero, List.set_cons_succ])
                  have O10 := Lib.hid hown10
                  clear hown10 hgrow10
                  refine wpAnyH_ready (rs := [10]) (by kernel_rfl) (by simp) ?_
                  refine AllReadyH.cons rfl (fun K hK => ?_) (AllReadyH.nil)
                  refine step_append_list _ (by rfl) _ _ _ (by rfl) (wc.heap.size + 1) 28 i0 _ 16 Try.underlying24 hi0 hz0 hz1 hz2 rfl _ (k + 1) _ (by rfl) O10.out _ (xs.drop k) (by rfl) (HL7.out.kept (KC.out.trans Q10.out)) ((adL xs rt rl).length) (hL9) (by unfold maxLen; omega) (by omega) (by have := Q10.out.size; have := ZC.out; omega) ?_
                  intro A11 c11 p11 hown11 hgrow11
                  have Q11 := Lib.hid (Kept.grown Q10.out hgrow11 (fun q hq => by have := (O10.out.lt q hq).1; have := ZC.out; omega))
                  refine hK.out _ _ (by (try dsimp only); exact ⟨KC.out.trans Q11.out⟩) (fun hHeld => ?_)
                  clear hK K
                  (try simp only [Act.put, List.getElem_toArray, List.getElem_cons_zero, List.getElem_cons_succ, List.setIfInBounds_toArray, List.set_cons_zero, List.set_cons_succ])
                  have O11 := Lib.hid hown11
                  clear hown11 hgrow11
                  refine wpAnyH_ready (rs := [11]) (by kernel_rfl) (by simp) ?_
                  refine AllReadyH.cons rfl (fun K hK => ?_) (AllReadyH.nil)
                  go_simp
                  refine hK.out _ _ (by (try dsimp only); exact hHeld) (fun hHeld => ?_)
                  clear hK K
                  (try simp only [Act.put, List.getElem_toArray, List.getElem_cons_zero, List.getElem_cons_succ, List.setIfInBounds_toArray, List.set_cons_zero, List.set_cons_succ])
                  refine wpAnyH_ready (rs := [12]) (by kernel_rfl) (by simp) ?_
                  refine AllReadyH.cons rfl (fun K hK => ?_) (AllReadyH.nil)
                  obtain ⟨g0, gf0, g1, gf1, g2, gf2, g3, gf3⟩ := blk4 Q11.out G8.out
                  go_simp
                  have FK := Lib.hid ((KC.out.trans Q11.out).setCell (p := ⟨wc.heap.size, 3, none⟩) (Nat.le_refl _) (.slice A11 (adL xs rt rl).length c11))
                  refine hK.out _ _ (by (try dsimp only); exact ⟨FK.out⟩) (fun hHeld => ?_)
                  clear hK K
                  (try simp only [Act.put, List.getElem_toArray, List.getElem_cons_zero, List.getElem_cons_succ, List.setIfInBounds_toArray, List.set_cons_zero, List.set_cons_succ])
                  have hO := O11.out
                  rw [hZ9] at hO
                  have FO := Lib.hid (ownsRow_setCell_below hO (a := ⟨wc.heap.size, 3, none⟩) (by simp) (.slice A11 (adL xs rt rl).length c11))
                  have FG := Lib.hid (show (p11.setCell ⟨wc.heap.size, 3, none⟩ (.slice A11 (adL xs rt rl).length c11)).cell? ⟨wc.heap.size, 0, none⟩ = some (.int .i64 id) ∧ (p11.setCell ⟨wc.heap.size, 3, none⟩ (.slice A11 (adL xs rt rl).length c11)).frozen? ⟨wc.heap.size, 0, none⟩ = false ∧ (p11.setCell ⟨wc.heap.size, 3, none⟩ (.slice A11 (adL xs rt rl).length c11)).cell? ⟨wc.heap.size, 1, none⟩ = some (.string nm) ∧ (p11.setCell ⟨wc.heap.size, 3, none⟩ (.slice A11 (adL xs rt rl).length c11)).frozen? ⟨wc.heap.size, 1, none⟩ = false ∧ (p11.setCell ⟨wc.heap.size, 3, none⟩ (.slice A11 (adL xs rt rl).length c11)).cell? ⟨wc.heap.size, 2, none⟩ = some (.int .i64 z) ∧ (p11.setCell ⟨wc.heap.size, 3, none⟩ (.slice A11 (adL xs rt rl).length c11)).frozen? ⟨wc.heap.size, 2, none⟩ = false ∧ (p11.setCell ⟨wc.heap.size, 3, none⟩ (.slice A11 (adL xs rt rl).length c11)).cell? ⟨wc.heap.size, 3, none⟩ = some (.slice A11 (adL xs rt rl).length c11) ∧ (p11.setCell ⟨wc.heap.size, 3, none⟩ (.slice A11 (adL xs rt rl).length c11)).frozen? ⟨wc.heap.size, 3, none⟩ = false by simp [go_sem, *])
                  clear g0 gf0 g1 gf1 g2 gf2 g3 gf3 hO
                  refine wpAnyH_done (by kernel_rfl) ?_ _
                  go_wp2_with fail
                  go_meet
                  exact ⟨A11, c11, FK.out, FO.out, FG.out⟩
              · skip
                go_simp
                refine hK.out _ _ (by (try dsimp only); exact ⟨KC.out.trans (Kept.alloc Q0.out _)⟩) (fun hHeld => ?_)
                clear hK K
                (try simp only [Act.put, List.getElem_toArray, List.getElem_cons_zero, List.getElem_cons_succ, List.setIfInBounds_toArray, List.set_cons_zero, List.set_cons_succ])
                have Q14 := Lib.hid (Kept.alloc Q0.out (.cells #[.int .i64 rt, .int .i64 rl] 28))
                have B14 := Lib.hid (heap_alloc_new p0 (.cells #[.int .i64 rt, .int .i64 rl] 28))
                generalize p0.alloc (.cells #[.int .i64 rt, .int .i64 rl] 28) = p14 at *
                refine wpAnyH_ready (rs := [0]) (by kernel_rfl) (by simp) ?_
                refine AllReadyH.cons rfl (fun K hK => ?_) (AllReadyH.nil)
                go_simp
                refine hK.out _ _ (by (try dsimp only); exact ⟨KC.out.trans (Kept.alloc Q14.out _)⟩) (fun hHeld => ?_)
                clear hK K
                (try simp only [Act.put, List.getElem_toArray, List.getElem_cons_zero, List.getElem_cons_succ, List.setIfInBounds_toArray, List.set_cons_zero, List.set_cons_succ])
                have Q15 := Lib.hid (Kept.alloc Q14.out (.cells #[] 28))
                have O15 := Lib.hid (World.ownsRow_lit (base := wc.heap.size + 1) (e := 28) (size := 2) p14 #[] 0 (by have := Q14.out.size; have := ZC.out; omega) (by simp [maxLen]) rfl)
                have B15 := Lib.hid (((World.grownBy_alloc p14 (.cells #[] 28) none).block _ (Array.getElem?_eq_some_iff.1 B14.out).1 (by simp)).trans B14.out)
                have N15 := Lib.hid (show ∀ q, (Value.slice (some ⟨p14.heap.size, 0, none⟩) 0 0).ownBlock = some q → p0.heap.size ≠ q from fun q hq e => Nat.lt_irrefl _ (Nat.lt_of_lt_of_eq (Array.getElem?_eq_some_iff.1 B14.out).1 ((show p14.heap.size = q by simpa [Value.ownBlock] using hq).trans e.symm)))
                generalize p14.alloc (.cells #[] 28) = p15 at *
                refine wpAnyH_ready (rs := [5]) (by kernel_rfl) (by simp) ?_
                refine AllReadyH.cons rfl (fun K hK => ?_) (AllReadyH.nil)
                refine step_append_list _ (by rfl) _ _ _ (by rfl) (wc.heap.size + 1) 28 i0 _ 16 Try.underlying24 hi0 hz0 hz1 hz2 rfl _ 0 _ (by rfl) O15.out _ (xs.take k) (by rfl) ((lies_take HLX.out (by omega)).kept (KC.out.trans Q15.out)) (k) (by rw [List.length_take]; omega) (by unfold maxLen; omega) (by omega) (by have := Q15.out.size; have := ZC.out; omega) ?_
                intro A16 c16 p16 hown16 hgrow16
                have Q16 := Lib.hid (Kept.grown Q15.out hgrow16 (fun q hq => by have := (O15.out.lt q hq).1; have := ZC.out; omega))
                have B16 := Lib.hid ((hgrow16.block _ (Array.getElem?_eq_some_iff.1 B15.out).1 (fun e => N15.out _ e.symm rfl)).trans B15.out)
                refine hK.out _ _ (by (try dsimp only); exact ⟨KC.out.trans Q16.out⟩) (fun hHeld => ?_)
                clear hK K
                (try simp only [Act.put, List.getElem_toArray, List.getElem_cons_zero, List.getElem_cons_succ, List.setIfInBounds_toArray, List.set_cons_zero, List.set_cons_succ])
                have O16 := Lib.hid hown16
                clear hown16 hgrow16
                refine wpAnyH_ready (rs := [8]) (by kernel_rfl) (by simp) ?_
                refine AllReadyH.cons rfl (fun K hK => ?_) (AllReadyH.nil)
                refine step_append_list _ (by rfl) _ _ _ (by rfl) (wc.heap.size + 1) 28 i0 _ 16 Try.underlying24 hi0 hz0 hz1 hz2 rfl _ k _ (by rfl) O16.out _ ([(rt, rl)]) (by rfl) (lies_lit B16.out) ((k + 1)) (rfl) (by unfold maxLen; omega) (by omega) (by have := Q16.out.size; have := ZC.out; omega) ?_
                intro A17 c17 p17 hown17 hgrow17
                have Q17 := Lib.hid (Kept.grown Q16.out hgrow17 (fun q hq => by have := (O16.out.lt q hq).1; have := ZC.out; omega))
                refine hK.out _ _ (by (try dsimp only); exact ⟨KC.out.trans Q17.out⟩) (fun hHeld => ?_)
                clear hK K
                (try simp only [Act.put, List.getElem_toArray, List.getElem_cons_zero, List.getElem_cons_succ, List.setIfInBounds_toArray, List.set_cons_zero, List.set_cons_succ])
                have O17 := Lib.hid hown17
                clear hown17 hgrow17
                refine wpAnyH_ready (rs := [10]) (by kernel_rfl) (by simp) ?_
                refine AllReadyH.cons rfl (fun K hK => ?_) (AllReadyH.nil)
                refine step_append_list _ (by rfl) _ _ _ (by rfl) (wc.heap.size + 1) 28 i0 _ 16 Try.underlying24 hi0 hz0 hz1 hz2 rfl _ (k + 1) _ (by rfl) O17.out _ (xs.drop k) (by rfl) (HL7.out.kept (KC.out.trans Q17.out)) ((adL xs rt rl).length) (hL9) (by unfold maxLen; omega) (by omega) (by have := Q17.out.size; have := ZC.out; omega) ?_
                intro A18 c18 p18 hown18 hgrow18
                have Q18 := Lib.hid (Kept.grown Q17.out hgrow18 (fun q hq => by have := (O17.out.lt q hq).1; have := ZC.out; omega))
                refine hK.out _ _ (by (try dsimp only); exact ⟨KC.out.trans Q18.out⟩) (fun hHeld => ?_)
                clear hK K
                (try simp only [Act.put, List.getElem_toArray, List.getElem_cons_zero, List.getElem_cons_succ, List.setIfInBounds_toArray, List.set_cons_zero, List.set_cons_succ])
                have O18 := Lib.hid hown18
                clear hown18 hgrow18
                refine wpAnyH_ready (rs := [11]) (by kernel_rfl) (by simp) ?_
                refine AllReadyH.cons rfl (fun K hK => ?_) (AllReadyH.nil)
                go_simp
                refine hK.out _ _ (by (try dsimp only); exact hHeld) (fun hHeld => ?_)
                clear hK K
                (try simp only [Act.put, List.getElem_toArray, List.getElem_cons_zero, List.getElem_cons_succ, List.setIfInBounds_toArray, List.set_cons_zero, List.set_cons_succ])
                refine wpAnyH_ready (rs := [12]) (by kernel_rfl) (by simp) ?_
                refine AllReadyH.cons rfl (fun K hK => ?_) (AllReadyH.nil)
                obtain ⟨g0, gf0, g1, gf1, g2, gf2, g3, gf3⟩ := blk4 Q18.out G8.out
                go_simp
                have FK := Lib.hid ((KC.out.trans Q18.out).setCell (p := ⟨wc.heap.size, 3, none⟩) (Nat.le_refl _) (.slice A18 (adL xs rt rl).length c18))
                refine hK.out _ _ (by (try dsimp only); exact ⟨FK.out⟩) (fun hHeld => ?_)
                clear hK K
                (try simp only [Act.put, List.getElem_toArray, List.getElem_cons_zero, List.getElem_cons_succ, List.setIfInBounds_toArray, List.set_cons_zero, List.set_cons_succ])
                have hO := O18.out
                rw [hZ9] at hO
                have FO := Lib.hid (ownsRow_setCell_below hO (a := ⟨wc.heap.size, 3, none⟩) (by simp) (.slice A18 (adL xs rt rl).length c18))
                have FG := Lib.hid (show (p18.setCell ⟨wc.heap.size, 3, none⟩ (.slice A18 (adL xs rt rl).length c18)).cell? ⟨wc.heap.size, 0, none⟩ = some (.int .i64 id) ∧ (p18.setCell ⟨wc.heap.size, 3, none⟩ (.slice A18 (adL xs rt rl).length c18)).frozen? ⟨wc.heap.size, 0, none⟩ = false ∧ (p18.setCell ⟨wc.heap.size, 3, none⟩ (.slice A18 (adL xs rt rl).length c18)).cell? ⟨wc.heap.size, 1, none⟩ = some (.string nm) ∧ (p18.setCell ⟨wc.heap.size, 3, none⟩ (.slice A18 (adL xs rt rl).length c18)).frozen? ⟨wc.heap.size, 1, none⟩ = false ∧ (p18.setCell ⟨wc.heap.size, 3, none⟩ (.slice A18 (adL xs rt rl).length c18)).cell? ⟨wc.heap.size, 2, none⟩ = some (.int .i64 z) ∧ (p18.setCell ⟨wc.heap.size, 3, none⟩ (.slice A18 (adL xs rt rl).length c18)).frozen? ⟨wc.heap.size, 2, none⟩ = false ∧ (p18.setCell ⟨wc.heap.size, 3, none⟩ (.slice A18 (adL xs rt rl).length c18)).cell? ⟨wc.heap.size, 3, none⟩ = some (.slice A18 (adL xs rt rl).length c18) ∧ (p18.setCell ⟨wc.heap.size, 3, none⟩ (.slice A18 (adL xs rt rl).length c18)).frozen? ⟨wc.heap.size, 3, none⟩ = false by simp [go_sem, *])
                clear g0 gf0 g1 gf1 g2 gf2 g3 gf3 hO
                refine wpAnyH_done (by kernel_rfl) ?_ _
                go_wp2_with fail
                go_meet
                exact ⟨A18, c18, FK.out, FO.out, FG.out⟩
            case rest =>
              have hbw := hzw
              obtain ⟨A9, c9, k9, o9, g0, gf0, g1, gf1, g2, gf2, g3, gf3⟩ := hcut
              have K9 := Lib.hid (KWc.out.trans k9)
              have O9 := Lib.hid o9
              clear k9 o9
              cases h3 : gaugeB id nm z (adL xs rt rl)
              · have HOK := Lib.hid (show adOk id nm z xs rt rl = false by simp [adOk, H1.out, h3])
                have HV := Lib.hid (ad_no HOK.out)
                go_wp2_with fail
                refine (l3One_any id nm z _ (adL xs rt rl) hs _ (pairs_own O9.out)).mono ?_
                rintro e w9 ⟨rfl, hk9⟩
                rw [h3]
                have OF := Lib.hid (own_kept O9.out hk9)
                have hk := K9.out.trans hk9
                obtain ⟨x0', xf0, x1', xf1, x2', xf2, x3', xf3⟩ := blk4 hk9 ⟨g0, gf0, g1, gf1, g2, gf2, g3, gf3⟩
                clear g0 gf0 g1 gf1 g2 gf2 g3 gf3 hk9
                obtain ⟨a0, af0, a1, af1, a2, af2, a3, af3, r0, rf0, r1, rf1, b0, bf0, b1, bf1, b2, bf2, b3, bf3⟩ := ad_cells hk
                have HKF := Lib.hid (HKA.out.trans hk)
                clear hk
                go_wp2_with fail
                exact bodyPost_ret (v := .tuple #[noG, .bool false]) (by simp [results, Try.results18, go_sem, noG, *]) rfl ⟨_, HV.out.1, by rw [HV.out.2]; exact World.ownsRow_nil _ _ _ _, ((((HKF.out.setCell (by first | (simp; done) | (simp; omega)) _).setCell (by first | (simp; done) | (simp; omega)) _).setCell (by first | (simp; done) | (simp; omega)) _).setCell (by first | (simp; done) | (simp; omega)) _)⟩
              · have HOK := Lib.hid (show adOk id nm z xs rt rl = true by simp [adOk, H1.out, h3])
                have HV : adV id nm z xs rt rl = adL xs rt rl := by simp [adV, HOK.out]
                go_wp2_with fail
                refine (l3One_any id nm z _ (adL xs rt rl) hs _ (pairs_own O9.out)).mono ?_
                rintro e w9 ⟨rfl, hk9⟩
                rw [h3]
                have OF := Lib.hid (own_kept O9.out hk9)
                have hk := K9.out.trans hk9
                obtain ⟨x0', xf0, x1', xf1, x2', xf2, x3', xf3⟩ := blk4 hk9 ⟨g0, gf0, g1, gf1, g2, gf2, g3, gf3⟩
                clear g0 gf0 g1 gf1 g2 gf2 g3 gf3 hk9
                obtain ⟨a0, af0, a1, af1, a2, af2, a3, af3, r0, rf0, r1, rf1, b0, bf0, b1, bf1, b2, bf2, b3, bf3⟩ := ad_cells hk
                have HKF := Lib.hid (HKA.out.trans hk)
                clear hk
                go_wp2_with fail
                exact bodyPost_ret (v := .tuple #[.agg #[.int .i64 id, .string nm, .int .i64 z, .slice A9 (adL xs rt rl).length c9], .bool true]) (by simp [results, Try.results18, go_sem, *]) rfl ⟨.slice A9 (adL xs rt rl).length c9, by simp [szG, HOK.out], by rw [HV]; exact own_base (ownsRow_setCell_below (ownsRow_setCell_below (ownsRow_setCell_below (ownsRow_setCell_below OF.out (by first | (simp; done) | (simp; omega)) _) (by first | (simp; done) | (simp; omega)) _) (by first | (simp; done) | (simp; omega)) _) (by first | (simp; done) | (simp; omega)) _) (by omega), ((((HKF.out.setCell (by first | (simp; done) | (simp; omega)) _).setCell (by first | (simp; done) | (simp; omega)) _).setCell (by first | (simp; done) | (simp; omega)) _).setCell (by first | (simp; done) | (simp; omega)) _)⟩
    · have e : k = xs.length := by omega
      subst e
      have kd : decide ((xs.length : Int) < (xs.length : Int)) = false := by simp
      have HAT := Lib.hid (at_is xs rt xs.length hk HLO.out (fun h => absurd h (by omega)))
      have HAD := Lib.hid (ad_new (rl := rl) HAT.out (fun h => absurd h (by omega)))
      have k0 : (0 : Int) ≤ (xs.length : Int) := by omega
      have hcm' : c - xs.length ≤ maxLen := by omega
      have e0 : xs.drop xs.length = [] := List.drop_of_length_le (Nat.le_refl _)
      go_wp2_with fail
      go_quiet (fail)
      go_upto_region 6 with fail
      go_cut [7] (fun s7 wx => ∃ A7 c7, s7 = .slice A7 0 c7 ∧ c7 ≤ maxLen ∧ Kept wr wx)
      case first =>
        cases A with
        | none =>
          go_wp2_with fail
          all_goals (go_meet; exact ⟨none, c - xs.length, by simp, hcm', by (repeat (first | exact Kept.refl _ | assumption | refine Kept.alloc ?_ _ | refine Kept.drew ?_ | refine Kept.drewN ?_ _ | refine Kept.setCell ?_ (by first | (simp; done) | (simp; omega) | omega | exact Kept.size (by (repeat (first | exact Kept.refl _ | assumption | refine Kept.alloc ?_ _ | refine Kept.drew ?_ | refine Kept.drewN ?_ _ | refine Kept.trans ?_ (by assumption))))) _ | refine Kept.trans ?_ (by assumption)))⟩)
        | some a =>
          obtain ⟨ab, ao, asp⟩ := a
          by_cases hck : c = xs.length
          · go_wp2_with fail
            all_goals (go_meet; exact ⟨some ⟨ab, ao, asp⟩, 0, by simp, by simp [maxLen], by (repeat (first | exact Kept.refl _ | assumption | refine Kept.alloc ?_ _ | refine Kept.drew ?_ | refine Kept.drewN ?_ _ | refine Kept.setCell ?_ (by first | (simp; done) | (simp; omega) | omega | exact Kept.size (by (repeat (first | exact Kept.refl _ | assumption | refine Kept.alloc ?_ _ | refine Kept.drew ?_ | refine Kept.drewN ?_ _ | refine Kept.trans ?_ (by assumption))))) _ | refine Kept.trans ?_ (by assumption)))⟩)
          · go_wp2_with fail
            all_goals (go_meet; exact ⟨some ((⟨ab, ao, asp⟩ : Addr).add (xs.length * 2)), c - xs.length, by simp, hcm', by (repeat (first | exact Kept.refl _ | assumption | refine Kept.alloc ?_ _ | refine Kept.drew ?_ | refine Kept.drewN ?_ _ | refine Kept.setCell ?_ (by first | (simp; done) | (simp; omega) | omega | exact Kept.size (by (repeat (first | exact Kept.refl _ | assumption | refine Kept.alloc ?_ _ | refine Kept.drew ?_ | refine Kept.drewN ?_ _ | refine Kept.trans ?_ (by assumption))))) _ | refine Kept.trans ?_ (by assumption)))⟩)
      case rest =>
        obtain ⟨A7, c7, rfl, hc7, hk6⟩ := hcut
        go_upto_region 7 with fail
        go_cut [46] (fun s46 wx => s46 = .bool false ∧ Kept wr wx)
        case first =>
          go_quiet (fail)
          go_wp2_with fail
          go_meet
          exact ⟨rfl, by (repeat (first | exact Kept.refl _ | assumption | refine Kept.alloc ?_ _ | refine Kept.drew ?_ | refine Kept.drewN ?_ _ | refine Kept.setCell ?_ (by first | (simp; done) | (simp; omega) | omega | exact Kept.size (by (repeat (first | exact Kept.refl _ | assumption | refine Kept.alloc ?_ _ | refine Kept.drew ?_ | refine Kept.drewN ?_ _ | refine Kept.trans ?_ (by assumption))))) _ | refine Kept.trans ?_ (by assumption)))⟩
        case rest =>
          obtain ⟨rfl, hk7⟩ := hcut
          have HL7 : Hid (Lies wc 2 pairC (.slice A7 0 c7) (xs.drop xs.length)) := Lib.hid (by rw [e0]; exact lies_empty _ _ _ hc7)
          have KWc := Lib.hid (HWA.out.trans hk7)
          clear hk7 hk6
          clear a0 af0 a1 af1 a2 af2 a3 af3 r0 rf0 r1 rf1 b0 bf0 b1 bf1 b2 bf2 b3 bf3
          have hL9 : xs.length + 1 + (xs.drop xs.length).length = (adL xs rt rl).length := by rw [HAD.out]; first | (simp; done) | (simp; omega)
          have hZ9 : [] ++ (xs.take xs.length).flatMap pairC ++ [(rt, rl)].flatMap pairC ++ (xs.drop xs.length).flatMap pairC = (adL xs rt rl).flatMap pairC := by rw [HAD.out, List.flatMap_append, List.flatMap_append]; rfl
          have hal := ad_len xs rt rl
          have kc1 : (xs.length : Int) ≤ (c : Int) := by omega
          have kc2 : xs.length ≤ c := by omega
          have hzw : w.heap.size + 1 + 1 + 1 ≤ wc.heap.size := by simpa using KWc.out.size
          have HLX := Lib.hid (HL.out.kept (HKA.out.trans KWc.out))
          obtain ⟨a0, af0, a1, af1, a2, af2, a3, af3, r0, rf0, r1, rf1, b0, bf0, b1, bf1, b2, bf2, b3, bf3⟩ := ad_cells KWc.out
          go_upto_region 10 with fail
          clear a0 af0 a1 af1 a2 af2 a3 af3 r0 rf0 r1 rf1 b0 bf0 b1 bf1 b2 bf2 b3 bf3
          go_cut [] (fun wx => ∃ A9 c9, Kept wc wx ∧ wx.ownsRow (wc.heap.size + 1) 28 2 (.slice A9 (adL xs rt rl).length c9) (adL xs rt rl).length ((adL xs rt rl).flatMap pairC) ∧ wx.cell? ⟨wc.heap.size, 0, none⟩ = some (.int .i64 id) ∧ wx.frozen? ⟨wc.heap.size, 0, none⟩ = false ∧ wx.cell? ⟨wc.heap.size, 1, none⟩ = some (.string nm) ∧ wx.frozen? ⟨wc.heap.size, 1, none⟩ = false ∧ wx.cell? ⟨wc.heap.size, 2, none⟩ = some (.int .i64 z) ∧ wx.frozen? ⟨wc.heap.size, 2, none⟩ = false ∧ wx.cell? ⟨wc.heap.size, 3, none⟩ = some (.slice A9 (adL xs rt rl).length c9) ∧ wx.frozen? ⟨wc.heap.size, 3, none⟩ = false)
          case first =>
            have kf3 : ∀ w' : World, Root wc w' → w'.cell? ⟨w.heap.size, 3, none⟩ = some (.slice A xs.length c) := fun w' h => h.keep (ad_cells KWc.out).2.2.2.2.2.2.1
            have kr0 : ∀ w' : World, Root wc w' → w'.cell? ⟨w.heap.size + 1, 0, none⟩ = some (.int .i64 rt) := fun w' h => h.keep (ad_cells KWc.out).2.2.2.2.2.2.2.2.1
            have kr1 : ∀ w' : World, Root wc w' → w'.cell? ⟨w.heap.size + 1, 1, none⟩ = some (.int .i64 rl) := fun w' h => h.keep (ad_cells KWc.out).2.2.2.2.2.2.2.2.2.2.1
            refine wp_region_held_drew (S := fun w' => Root wc w') (by kernel_rfl) (by (try dsimp only); exact Root.drew (Root.alloc (Root.refl _) _)) (fun hHeld => ?_)
            refine wpAnyH_take (i := 1) (v := ?_) rfl (by kernel_rfl) (by kernel_rfl) (by kernel_rfl) (fun _ _ _ h => h) (Or.inl ⟨by kernel_rfl, ?_⟩) (by assumption) ?_
            rotate_left
            focus (intro w' hSw; (try dsimp only at hSw); have s3 := kf3 w' hSw; have sr0 := kr0 w' hSw; have sr1 := kr1 w' hSw; go_simp; (try with_reducible rfl))
            (try simp only [Act.put, List.getElem_toArray, List.getElem_cons_zero, List.getElem_cons_succ, List.setIfInBounds_toArray, List.set_cons_zero, List.set_cons_succ])
            refine wpAnyH_take (i := 2) (v := ?_) rfl (by kernel_rfl) (by kernel_rfl) (by kernel_rfl) (fun _ _ _ h => h) (Or.inl ⟨by kernel_rfl, ?_⟩) (by assumption) ?_
            rotate_left
            focus (intro w' hSw; (try dsimp only at hSw); have s3 := kf3 w' hSw; have sr0 := kr0 w' hSw; have sr1 := kr1 w' hSw; go_simp; (try with_reducible rfl))
            (try simp only [Act.put, List.getElem_toArray, List.getElem_cons_zero, List.getElem_cons_succ, List.setIfInBounds_toArray, List.set_cons_zero, List.set_cons_succ])
            refine wpAnyH_take (i := 3) (v := ?_) rfl (by kernel_rfl) (by kernel_rfl) (by kernel_rfl) (fun _ _ _ h => h) (Or.inl ⟨by kernel_rfl, ?_⟩) (by assumption) ?_
            rotate_left
            focus (intro w' hSw; (try dsimp only at hSw); have s3 := kf3 w' hSw; have sr0 := kr0 w' hSw; have sr1 := kr1 w' hSw; go_simp; (try with_reducible rfl))
            (try simp only [Act.put, List.getElem_toArray, List.getElem_cons_zero, List.getElem_cons_succ, List.setIfInBounds_toArray, List.set_cons_zero, List.set_cons_succ])
            refine wpAnyH_take (i := 4) (v := ?_) rfl (by kernel_rfl) (by kernel_rfl) (by kernel_rfl) (fun _ _ _ h => h) (Or.inl ⟨by kernel_rfl, ?_⟩) (by assumption) ?_
            rotate_left
            focus (intro w' hSw; (try dsimp only at hSw); have s3 := kf3 w' hSw; have sr0 := kr0 w' hSw; have sr1 := kr1 w' hSw; go_simp; (try with_reducible rfl))
            (try simp only [Act.put, List.getElem_toArray, List.getElem_cons_zero, List.getElem_cons_succ, List.setIfInBounds_toArray, List.set_cons_zero, List.set_cons_succ])
            refine wpAnyH_take (i := 6) (v := ?_) rfl (by kernel_rfl) (by kernel_rfl) (by kernel_rfl) (fun _ _ _ h => h) (Or.inl ⟨by kernel_rfl, ?_⟩) (by assumption) ?_
            rotate_left
            focus (intro w' hSw; (try dsimp only at hSw); have s3 := kf3 w' hSw; have sr0 := kr0 w' hSw; have sr1 := kr1 w' hSw; go_simp; (try with_reducible rfl))
            (try simp only [Act.put, List.getElem_toArray, List.getElem_cons_zero, List.getElem_cons_succ, List.setIfInBounds_toArray, List.set_cons_zero, List.set_cons_succ])
            refine wpAnyH_take (i := 9) (v := ?_) rfl (by kernel_rfl) (by kernel_rfl) (by kernel_rfl) (fun _ _ _ h => h) (Or.inl ⟨by kernel_rfl, ?_⟩) (by assumption) ?_
            rotate_left
            focus (intro w' hSw; (try dsimp only at hSw); have s3 := kf3 w' hSw; have sr0 := kr0 w' hSw; have sr1 := kr1 w' hSw; go_simp; (try with_reducible rfl))
            (try simp only [Act.put, List.getElem_toArray, List.getElem_cons_zero, List.getElem_cons_succ, List.setIfInBounds_toArray, List.set_cons_zero, List.set_cons_succ])
            have G8 := Lib.hid (blk4 (b := wc.heap.size) (v0 := .int .i64 id) (v1 := .string nm) (v2 := .int .i64 z) (v3 := .slice A xs.length c) (show Kept (wc.alloc (.cells #[.int .i64 id, .string nm, .int .i64 z, .slice A xs.length c] 26)) (wc.alloc (.cells #[.int .i64 id, .string nm, .int .i64 z, .slice A xs.length c] 26)).drew from Kept.drew (Kept.refl _)) (by simp [go_sem]))
            have KC := Lib.hid (show Kept wc (wc.alloc (.cells #[.int .i64 id, .string nm, .int .i64 z, .slice A xs.length c] 26)).drew from Kept.drew (Kept.alloc (Kept.refl wc) _))
            have ZC := Lib.hid (show (wc.alloc (.cells #[.int .i64 id, .string nm, .int .i64 z, .slice A xs.length c] 26)).drew.heap.size = wc.heap.size + 1 by simp)
            clear kf3 kr0 kr1
            generalize (wc.alloc (.cells #[.int .i64 id, .string nm, .int .i64 z, .slice A xs.length c] 26)).drew = p0 at *
            have Q0 := Lib.hid (Kept.refl p0)
            refine wpAnyH_ready (rs := [0, 7]) (by kernel_rfl) (by simp) ?_
            refine AllReadyH.cons rfl (fun K hK => ?_) (AllReadyH.cons rfl (fun K hK => ?_) (AllReadyH.nil))
            · skip
              go_simp
              refine hK.out _ _ (by (try dsimp only); exact ⟨KC.out.trans (Kept.alloc Q0.out _)⟩) (fun hHeld => ?_)
              clear hK K
              (try simp only [Act.put, List.getElem_toArray, List.getElem_cons_zero, List.getElem_cons_succ, List.setIfInBounds_toArray, List.set_cons_zero, List.set_cons_succ])
              have Q1 := Lib.hid (Kept.alloc Q0.out (.cells #[] 28))
              have O1 := Lib.hid (World.ownsRow_lit (base := wc.heap.size + 1) (e := 28) (size := 2) p0 #[] 0 (by have := Q0.out.size; have := ZC.out; omega) (by simp [maxLen]) rfl)
              generalize p0.alloc (.cells #[] 28) = p1 at *
              refine wpAnyH_ready (rs := [5, 7]) (by kernel_rfl) (by simp) ?_
              refine AllReadyH.cons rfl (fun K hK => ?_) (AllReadyH.cons rfl (fun K hK => ?_) (AllReadyH.nil))
              · skip
                refine step_append_list _ (by rfl) _ _ _ (by rfl) (wc.heap.size + 1) 28 i0 _ 16 Try.underlying24 hi0 hz0 hz1 hz2 rfl _ 0 _ (by rfl) O1.out _ (xs.take xs.length) (by rfl) ((lies_take HLX.out (by omega)).kept (KC.out.trans Q1.out)) (xs.length) (by rw [List.length_take]; omega) (by unfold maxLen; omega) (by omega) (by have := Q1.out.size; have := ZC.out; omega) ?_
                intro A2 c2 p2 hown2 hgrow2
                have Q2 := Lib.hid (Kept.grown Q1.out hgrow2 (fun q hq => by have := (O1.out.lt q hq).1; have := ZC.out; omega))
                refine hK.out _ _ (by (try dsimp only); exact ⟨KC.out.trans Q2.out⟩) (fun hHeld => ?_)
                clear hK K
                (try simp only [Act.put, List.getElem_toArray, List.getElem_cons_zero, List.getElem_cons_succ, List.setIfInBounds_toArray, List.set_cons_zero, List.set_cons_succ])
                have O2 := Lib.hid hown2
                clear hown2 hgrow2
                refine wpAnyH_ready (rs := [7]) (by kernel_rfl) (by simp) ?_
                refine AllReadyH.cons rfl (fun K hK => ?_) (AllReadyH.nil)
                go_simp
                refine hK.out _ _ (by (try dsimp only); exact ⟨KC.out.trans (Kept.alloc Q2.out _)⟩) (fun hHeld => ?_)
                clear hK K
                (try simp only [Act.put, List.getElem_toArray, List.getElem_cons_zero, List.getElem_cons_succ, List.setIfInBounds_toArray, List.set_cons_zero, List.set_cons_succ])
                have Q3 := Lib.hid (Kept.alloc Q2.out (.cells #[.int .i64 rt, .int .i64 rl] 28))
                have B3 := Lib.hid (heap_alloc_new p2 (.cells #[.int .i64 rt, .int .i64 rl] 28))
                have N3 := Lib.hid (show ∀ q, (Value.slice A2 xs.length c2).ownBlock = some q → p2.heap.size ≠ q from fun q hq e => Nat.lt_irrefl _ (Nat.lt_of_lt_of_eq (O2.out.lt q hq).2 e))
                have O3 := Lib.hid (O2.out.alloc (.cells #[.int .i64 rt, .int .i64 rl] 28))
                generalize p2.alloc (.cells #[.int .i64 rt, .int .i64 rl] 28) = p3 at *
                refine wpAnyH_ready (rs := [8]) (by kernel_rfl) (by simp) ?_
                refine AllReadyH.cons rfl (fun K hK => ?_) (AllReadyH.nil)
                refine step_append_list _ (by rfl) _ _ _ (by rfl) (wc.heap.size + 1) 28 i0 _ 16 Try.underlying24 hi0 hz0 hz1 hz2 rfl _ xs.length _ (by rfl) O3.out _ ([(rt, rl)]) (by rfl) (lies_lit B3.out) ((xs.length + 1)) (rfl) (by unfold maxLen; omega) (by omega) (by have := Q3.out.size; have := ZC.out; omega) ?_
                intro A4 c4 p4 hown4 hgrow4
                have Q4 := Lib.hid (Kept.grown Q3.out hgrow4 (fun q hq => by have := (O3.out.lt q hq).1; have := ZC.out; omega))
                refine hK.out _ _ (by (try dsimp only); exact ⟨KC.out.trans Q4.out⟩) (fun hHeld => ?_)
                clear hK K
                (try simp only [Act.put, List.getElem_toArray, List.getElem_cons_zero, List.getElem_cons_succ, List.setIfInBounds_toArray, List.set_cons_zero, List.set_cons_succ])
                have O4 := Lib.hid hown4
                clear hown4 hgrow4
                refine wpAnyH_ready (rs := [10]) (by kernel_rfl) (by simp) ?_
                refine AllReadyH.cons rfl (fun K hK => ?_) (AllReadyH.nil)
                refine step_append_list _ (by rfl) _ _ _ (by rfl) (wc.heap.size + 1) 28 i0 _ 16 Try.underlying24 hi0 hz0 hz1 hz2 rfl _ (xs.length + 1) _ (by rfl) O4.out _ (xs.drop xs.length) (by rfl) (HL7.out.kept (KC.out.trans Q4.out)) ((adL xs rt rl).length) (hL9) (by unfold maxLen; omega) (by omega) (by have := Q4.out.size; have := ZC.out; omega) ?_
                intro A5 c5 p5 hown5 hgrow5
                have Q5 := Lib.hid (Kept.grown Q4.out hgrow5 (fun q hq => by have := (O4.out.lt q hq).1; have := ZC.out; omega))
                refine hK.out _ _ (by (try dsimp only); exact ⟨KC.out.trans Q5.out⟩) (fun hHeld => ?_)
                clear hK K
                (try simp only [Act.put, List.getElem_toArray, List.getElem_cons_zero, List.getElem_cons_succ, List.setIfInBounds_toArray, List.set_cons_zero, List.set_cons_succ])
                have O5 := Lib.hid hown5
                clear hown5 hgrow5
                refine wpAnyH_ready (rs := [11]) (by kernel_rfl) (by simp) ?_
                refine AllReadyH.cons rfl (fun K hK => ?_) (AllReadyH.nil)
                go_simp
                refine hK.out _ _ (by (try dsimp only); exact hHeld) (fun hHeld => ?_)
                clear hK K
                (try simp only [Act.put, List.getElem_toArray, List.getElem_cons_zero, List.getElem_cons_succ, List.setIfInBounds_toArray, List.set_cons_zero, List.set_cons_succ])
                refine wpAnyH_ready (rs := [12]) (by kernel_rfl) (by simp) ?_
                refine AllReadyH.cons rfl (fun K hK => ?_) (AllReadyH.nil)
                obtain ⟨g0, gf0, g1, gf1, g2, gf2, g3, gf3⟩ := blk4 Q5.out G8.out
                go_simp
                have FK := Lib.hid ((KC.out.trans Q5.out).setCell (p := ⟨wc.heap.size, 3, none⟩) (Nat.le_refl _) (.slice A5 (adL xs rt rl).length c5))
                refine hK.out _ _ (by (try dsimp only); exact ⟨FK.out⟩) (fun hHeld => ?_)
                clear hK K
                (try simp only [Act.put, List.getElem_toArray, List.getElem_cons_zero, List.getElem_cons_succ, List.setIfInBounds_toArray, List.set_cons_zero, List.set_cons_succ])
                have hO := O5.out
                rw [hZ9] at hO
                have FO := Lib.hid (ownsRow_setCell_below hO (a := ⟨wc.heap.size, 3, none⟩) (by simp) (.slice A5 (adL xs rt rl).length c5))
                have FG := Lib.hid (show (p5.setCell ⟨wc.heap.size, 3, none⟩ (.slice A5 (adL xs rt rl).length c5)).cell? ⟨wc.heap.size, 0, none⟩ = some (.int .i64 id) ∧ (p5.setCell ⟨wc.heap.size, 3, none⟩ (.slice A5 (adL xs rt rl).length c5)).frozen? ⟨wc.heap.size, 0, none⟩ = false ∧ (p5.setCell ⟨wc.heap.size, 3, none⟩ (.slice A5 (adL xs rt rl).length c5)).cell? ⟨wc.heap.size, 1, none⟩ = some (.string nm) ∧ (p5.setCell ⟨wc.heap.size, 3, none⟩ (.slice A5 (adL xs rt rl).length c5)).frozen? ⟨wc.heap.size, 1, none⟩ = false ∧ (p5.setCell ⟨wc.heap.size, 3, none⟩ (.slice A5 (adL xs rt rl).length c5)).cell? ⟨wc.heap.size, 2, none⟩ = some (.int .i64 z) ∧ (p5.setCell ⟨wc.heap.size, 3, none⟩ (.slice A5 (adL xs rt rl).length c5)).frozen? ⟨wc.heap.size, 2, none⟩ = false ∧ (p5.setCell ⟨wc.heap.size, 3, none⟩ (.slice A5 (adL xs rt rl).length c5)).cell? ⟨wc.heap.size, 3, none⟩ = some (.slice A5 (adL xs rt rl).length c5) ∧ (p5.setCell ⟨wc.heap.size, 3, none⟩ (.slice A5 (adL xs rt rl).length c5)).frozen? ⟨wc.heap.size, 3, none⟩ = false by simp [go_sem, *])
                clear g0 gf0 g1 gf1 g2 gf2 g3 gf3 hO
                refine wpAnyH_done (by kernel_rfl) ?_ _
                go_wp2_with fail
                go_meet
                exact ⟨A5, c5, FK.out, FO.out, FG.out⟩
              · skip
                go_simp
                refine hK.out _ _ (by (try dsimp only); exact ⟨KC.out.trans (Kept.alloc Q1.out _)⟩) (fun hHeld => ?_)
                clear hK K
                (try simp only [Act.put, List.getElem_toArray, List.getElem_cons_zero, List.getElem_cons_succ, List.setIfInBounds_toArray, List.set_cons_zero, List.set_cons_succ])
                have Q8 := Lib.hid (Kept.alloc Q1.out (.cells #[.int .i64 rt, .int .i64 rl] 28))
                have B8 := Lib.hid (heap_alloc_new p1 (.cells #[.int .i64 rt, .int .i64 rl] 28))
                have N8 := Lib.hid (show ∀ q, (Value.slice (some ⟨p0.heap.size, 0, none⟩) 0 0).ownBlock = some q → p1.heap.size ≠ q from fun q hq e => Nat.lt_irrefl _ (Nat.lt_of_lt_of_eq (O1.out.lt q hq).2 e))
                have O8 := Lib.hid (O1.out.alloc (.cells #[.int .i64 rt, .int .i64 rl] 28))
                generalize p1.alloc (.cells #[.int .i64 rt, .int .i64 rl] 28) = p8 at *
                refine wpAnyH_ready (rs := [5]) (by kernel_rfl) (by simp) ?_
                refine AllReadyH.cons rfl (fun K hK => ?_) (AllReadyH.nil)
                refine step_append_list _ (by rfl) _ _ _ (by rfl) (wc.heap.size + 1) 28 i0 _ 16 Try.underlying24 hi0 hz0 hz1 hz2 rfl _ 0 _ (by rfl) O8.out _ (xs.take xs.length) (by rfl) ((lies_take HLX.out (by omega)).kept (KC.out.trans Q8.out)) (xs.length) (by rw [List.length_take]; omega) (by unfold maxLen; omega) (by omega) (by have := Q8.out.size; have := ZC.out; omega) ?_
                intro A9 c9 p9 hown9 hgrow9
                have Q9 := Lib.hid (Kept.grown Q8.out hgrow9 (fun q hq => by have := (O8.out.lt q hq).1; have := ZC.out; omega))
                have B9 := Lib.hid ((hgrow9.block _ (Array.getElem?_eq_some_iff.1 B8.out).1 (fun e => N8.out _ e.symm rfl)).trans B8.out)
                refine hK.out _ _ (by (try dsimp only); exact ⟨KC.out.trans Q9.out⟩) (fun hHeld => ?_)
                clear hK K
                (try simp only [Act.put, List.getElem_toArray, List.getElem_cons_zero, List.getElem_cons_succ, List.setIfInBounds_toArray, List.set_cons_zero, List.set_cons_succ])
                have O9 := Lib.hid hown9
                clear hown9 hgrow9
                refine wpAnyH_ready (rs := [8]) (by kernel_rfl) (by simp) ?_
                refine AllReadyH.cons rfl (fun K hK => ?_) (AllReadyH.nil)
                refine step_append_list _ (by rfl) _ _ _ (by rfl) (wc.heap.size + 1) 28 i0 _ 16 Try.underlying24 hi0 hz0 hz1 hz2 rfl _ xs.length _ (by rfl) O9.out _ ([(rt, rl)]) (by rfl) (lies_lit B9.out) ((xs.length + 1)) (rfl) (by unfold maxLen; omega) (by omega) (by have := Q9.out.size; have := ZC.out; omega) ?_
                intro A10 c10 p10 hown10 hgrow10
                have Q10 := Lib.hid (Kept.grown Q9.out hgrow10 (fun q hq => by have := (O9.out.lt q hq).1; have := ZC.out; omega))
                refine hK.out _ _ (by (try dsimp only); exact ⟨KC.out.trans Q10.out⟩) (fun hHeld => ?_)
                clear hK K
                (try simp only [Act.put, List.getElem_toArray, List.getElem_cons_zero, List.getElem_cons_succ, List.setIfInBounds_toArray, List.set_cons_zero, List.set_cons_succ])
                have O10 := Lib.hid hown10
                clear hown10 hgrow10
                refine wpAnyH_ready (rs := [10]) (by kernel_rfl) (by simp) ?_
                refine AllReadyH.cons rfl (fun K hK => ?_) (AllReadyH.nil)
                refine step_append_list _ (by rfl) _ _ _ (by rfl) (wc.heap.size + 1) 28 i0 _ 16 Try.underlying24 hi0 hz0 hz1 hz2 rfl _ (xs.length + 1) _ (by rfl) O10.out _ (xs.drop xs.length) (by rfl) (HL7.out.kept (KC.out.trans Q10.out)) ((adL xs rt rl).length) (hL9) (by unfold maxLen; omega) (by omega) (by have := Q10.out.size; have := ZC.out; omega) ?_
                intro A11 c11 p11 hown11 hgrow11
                have Q11 := Lib.hid (Kept.grown Q10.out hgrow11 (fun q hq => by have := (O10.out.lt q hq).1; have := ZC.out; omega))
                refine hK.out _ _ (by (try dsimp only); exact ⟨KC.out.trans Q11.out⟩) (fun hHeld => ?_)
                clear hK K
                (try simp only [Act.put, List.getElem_toArray, List.getElem_cons_zero, List.getElem_cons_succ, List.setIfInBounds_toArray, List.set_cons_zero, List.set_cons_succ])
                have O11 := Lib.hid hown11
                clear hown11 hgrow11
                refine wpAnyH_ready (rs := [11]) (by kernel_rfl) (by simp) ?_
                refine AllReadyH.cons rfl (fun K hK => ?_) (AllReadyH.nil)
                go_simp
                refine hK.out _ _ (by (try dsimp only); exact hHeld) (fun hHeld => ?_)
                clear hK K
                (try simp only [Act.put, List.getElem_toArray, List.getElem_cons_zero, List.getElem_cons_succ, List.setIfInBounds_toArray, List.set_cons_zero, List.set_cons_succ])
                refine wpAnyH_ready (rs := [12]) (by kernel_rfl) (by simp) ?_
                refine AllReadyH.cons rfl (fun K hK => ?_) (AllReadyH.nil)
                obtain ⟨g0, gf0, g1, gf1, g2, gf2, g3, gf3⟩ := blk4 Q11.out G8.out
                go_simp
                have FK := Lib.hid ((KC.out.trans Q11.out).setCell (p := ⟨wc.heap.size, 3, none⟩) (Nat.le_refl _) (.slice A11 (adL xs rt rl).length c11))
                refine hK.out _ _ (by (try dsimp only); exact ⟨FK.out⟩) (fun hHeld => ?_)
                clear hK K
                (try simp only [Act.put, List.getElem_toArray, List.getElem_cons_zero, List.getElem_cons_succ, List.setIfInBounds_toArray, List.set_cons_zero, List.set_cons_succ])
                have hO := O11.out
                rw [hZ9] at hO
                have FO := Lib.hid (ownsRow_setCell_below hO (a := ⟨wc.heap.size, 3, none⟩) (by simp) (.slice A11 (adL xs rt rl).length c11))
                have FG := Lib.hid (show (p11.setCell ⟨wc.heap.size, 3, none⟩ (.slice A11 (adL xs rt rl).length c11)).cell? ⟨wc.heap.size, 0, none⟩ = some (.int .i64 id) ∧ (p11.setCell ⟨wc.heap.size, 3, none⟩ (.slice A11 (adL xs rt rl).length c11)).frozen? ⟨wc.heap.size, 0, none⟩ = false ∧ (p11.setCell ⟨wc.heap.size, 3, none⟩ (.slice A11 (adL xs rt rl).length c11)).cell? ⟨wc.heap.size, 1, none⟩ = some (.string nm) ∧ (p11.setCell ⟨wc.heap.size, 3, none⟩ (.slice A11 (adL xs rt rl).length c11)).frozen? ⟨wc.heap.size, 1, none⟩ = false ∧ (p11.setCell ⟨wc.heap.size, 3, none⟩ (.slice A11 (adL xs rt rl).length c11)).cell? ⟨wc.heap.size, 2, none⟩ = some (.int .i64 z) ∧ (p11.setCell ⟨wc.heap.size, 3, none⟩ (.slice A11 (adL xs rt rl).length c11)).frozen? ⟨wc.heap.size, 2, none⟩ = false ∧ (p11.setCell ⟨wc.heap.size, 3, none⟩ (.slice A11 (adL xs rt rl).length c11)).cell? ⟨wc.heap.size, 3, none⟩ = some (.slice A11 (adL xs rt rl).length c11) ∧ (p11.setCell ⟨wc.heap.size, 3, none⟩ (.slice A11 (adL xs rt rl).length c11)).frozen? ⟨wc.heap.size, 3, none⟩ = false by simp [go_sem, *])
                clear g0 gf0 g1 gf1 g2 gf2 g3 gf3 hO
                refine wpAnyH_done (by kernel_rfl) ?_ _
                go_wp2_with fail
                go_meet
                exact ⟨A11, c11, FK.out, FO.out, FG.out⟩
            · skip
              go_simp
              refine hK.out _ _ (by (try dsimp only); exact ⟨KC.out.trans (Kept.alloc Q0.out _)⟩) (fun hHeld => ?_)
              clear hK K
              (try simp only [Act.put, List.getElem_toArray, List.getElem_cons_zero, List.getElem_cons_succ, List.setIfInBounds_toArray, List.set_cons_zero, List.set_cons_succ])
              have Q14 := Lib.hid (Kept.alloc Q0.out (.cells #[.int .i64 rt, .int .i64 rl] 28))
              have B14 := Lib.hid (heap_alloc_new p0 (.cells #[.int .i64 rt, .int .i64 rl] 28))
              generalize p0.alloc (.cells #[.int .i64 rt, .int .i64 rl] 28) = p14 at *
              refine wpAnyH_ready (rs := [0]) (by kernel_rfl) (by simp) ?_
              refine AllReadyH.cons rfl (fun K hK => ?_) (AllReadyH.nil)
              go_simp
              refine hK.out _ _ (by (try dsimp only); exact ⟨KC.out.trans (Kept.alloc Q14.out _)⟩) (fun hHeld => ?_)
              clear hK K
              (try simp only [Act.put, List.getElem_toArray, List.getElem_cons_zero, List.getElem_cons_succ, List.setIfInBounds_toArray, List.set_cons_zero, List.set_cons_succ])
              have Q15 := Lib.hid (Kept.alloc Q14.out (.cells #[] 28))
              have O15 := Lib.hid (World.ownsRow_lit (base := wc.heap.size + 1) (e := 28) (size := 2) p14 #[] 0 (by have := Q14.out.size; have := ZC.out; omega) (by simp [maxLen]) rfl)
              have B15 := Lib.hid (((World.grownBy_alloc p14 (.cells #[] 28) none).block _ (Array.getElem?_eq_some_iff.1 B14.out).1 (by simp)).trans B14.out)
              have N15 := Lib.hid (show ∀ q, (Value.slice (some ⟨p14.heap.size, 0, none⟩) 0 0).ownBlock = some q → p0.heap.size ≠ q from fun q hq e => Nat.lt_irrefl _ (Nat.lt_of_lt_of_eq (Array.getElem?_eq_some_iff.1 B14.out).1 ((show p14.heap.size = q by simpa [Value.ownBlock] using hq).trans e.symm)))
              generalize p14.alloc (.cells #[] 28) = p15 at *
              refine wpAnyH_ready (rs := [5]) (by kernel_rfl) (by simp) ?_
              refine AllReadyH.cons rfl (fun K hK => ?_) (AllReadyH.nil)
              refine step_append_list _ (by rfl) _ _ _ (by rfl) (wc.heap.size + 1) 28 i0 _ 16 Try.underlying24 hi0 hz0 hz1 hz2 rfl _ 0 _ (by rfl) O15.out _ (xs.take xs.length) (by rfl) ((lies_take HLX.out (by omega)).kept (KC.out.trans Q15.out)) (xs.length) (by rw [List.length_take]; omega) (by unfold maxLen; omega) (by omega) (by have := Q15.out.size; have := ZC.out; omega) ?_
              intro A16 c16 p16 hown16 hgrow16
              have Q16 := Lib.hid (Kept.grown Q15.out hgrow16 (fun q hq => by have := (O15.out.lt q hq).1; have := ZC.out; omega))
              have B16 := Lib.hid ((hgrow16.block _ (Array.getElem?_eq_some_iff.1 B15.out).1 (fun e => N15.out _ e.symm rfl)).trans B15.out)
              refine hK.out _ _ (by (try dsimp only); exact ⟨KC.out.trans Q16.out⟩) (fun hHeld => ?_)
              clear hK K
              (try simp only [Act.put, List.getElem_toArray, List.getElem_cons_zero, List.getElem_cons_succ, List.setIfInBounds_toArray, List.set_cons_zero, List.set_cons_succ])
              have O16 := Lib.hid hown16
              clear hown16 hgrow16
              refine wpAnyH_ready (rs := [8]) (by kernel_rfl) (by simp) ?_
              refine AllReadyH.cons rfl (fun K hK => ?_) (AllReadyH.nil)
              refine step_append_list _ (by rfl) _ _ _ (by rfl) (wc.heap.size + 1) 28 i0 _ 16 Try.underlying24 hi0 hz0 hz1 hz2 rfl _ xs.length _ (by rfl) O16.out _ ([(rt, rl)]) (by rfl) (lies_lit B16.out) ((xs.length + 1)) (rfl) (by unfold maxLen; omega) (by omega) (by have := Q16.out.size; have := ZC.out; omega) ?_
              intro A17 c17 p17 hown17 hgrow17
              have Q17 := Lib.hid (Kept.grown Q16.out hgrow17 (fun q hq => by have := (O16.out.lt q hq).1; have := ZC.out; omega))
              refine hK.out _ _ (by (try dsimp only); exact ⟨KC.out.trans Q17.out⟩) (fun hHeld => ?_)
              clear hK K
              (try simp only [Act.put, List.getElem_toArray, List.getElem_cons_zero, List.getElem_cons_succ, List.setIfInBounds_toArray, List.set_cons_zero, List.set_cons_succ])
              have O17 := Lib.hid hown17
              clear hown17 hgrow17
              refine wpAnyH_ready (rs := [10]) (by kernel_rfl) (by simp) ?_
              refine AllReadyH.cons rfl (fun K hK => ?_) (AllReadyH.nil)
              refine step_append_list _ (by rfl) _ _ _ (by rfl) (wc.heap.size + 1) 28 i0 _ 16 Try.underlying24 hi0 hz0 hz1 hz2 rfl _ (xs.length + 1) _ (by rfl) O17.out _ (xs.drop xs.length) (by rfl) (HL7.out.kept (KC.out.trans Q17.out)) ((adL xs rt rl).length) (hL9) (by unfold maxLen; omega) (by omega) (by have := Q17.out.size; have := ZC.out; omega) ?_
              intro A18 c18 p18 hown18 hgrow18
              have Q18 := Lib.hid (Kept.grown Q17.out hgrow18 (fun q hq => by have := (O17.out.lt q hq).1; have := ZC.out; omega))
              refine hK.out _ _ (by (try dsimp only); exact ⟨KC.out.trans Q18.out⟩) (fun hHeld => ?_)
              clear hK K
              (try simp only [Act.put, List.getElem_toArray, List.getElem_cons_zero, List.getElem_cons_succ, List.setIfInBounds_toArray, List.set_cons_zero, List.set_cons_succ])
              have O18 := Lib.hid hown18
              clear hown18 hgrow18
              refine wpAnyH_ready (rs := [11]) (by kernel_rfl) (by simp) ?_
              refine AllReadyH.cons rfl (fun K hK => ?_) (AllReadyH.nil)
              go_simp
              refine hK.out _ _ (by (try dsimp only); exact hHeld) (fun hHeld => ?_)
              clear hK K
              (try simp only [Act.put, List.getElem_toArray, List.getElem_cons_zero, List.getElem_cons_succ, List.setIfInBounds_toArray, List.set_cons_zero, List.set_cons_succ])
              refine wpAnyH_ready (rs := [12]) (by kernel_rfl) (by simp) ?_
              refine AllReadyH.cons rfl (fun K hK => ?_) (AllReadyH.nil)
              obtain ⟨g0, gf0, g1, gf1, g2, gf2, g3, gf3⟩ := blk4 Q18.out G8.out
              go_simp
              have FK := Lib.hid ((KC.out.trans Q18.out).setCell (p := ⟨wc.heap.size, 3, none⟩) (Nat.le_refl _) (.slice A18 (adL xs rt rl).length c18))
              refine hK.out _ _ (by (try dsimp only); exact ⟨FK.out⟩) (fun hHeld => ?_)
              clear hK K
              (try simp only [Act.put, List.getElem_toArray, List.getElem_cons_zero, List.getElem_cons_succ, List.setIfInBounds_toArray, List.set_cons_zero, List.set_cons_succ])
              have hO := O18.out
              rw [hZ9] at hO
              have FO := Lib.hid (ownsRow_setCell_below hO (a := ⟨wc.heap.size, 3, none⟩) (by simp) (.slice A18 (adL xs rt rl).length c18))
              have FG := Lib.hid (show (p18.setCell ⟨wc.heap.size, 3, none⟩ (.slice A18 (adL xs rt rl).length c18)).cell? ⟨wc.heap.size, 0, none⟩ = some (.int .i64 id) ∧ (p18.setCell ⟨wc.heap.size, 3, none⟩ (.slice A18 (adL xs rt rl).length c18)).frozen? ⟨wc.heap.size, 0, none⟩ = false ∧ (p18.setCell ⟨wc.heap.size, 3, none⟩ (.slice A18 (adL xs rt rl).length c18)).cell? ⟨wc.heap.size, 1, none⟩ = some (.string nm) ∧ (p18.setCell ⟨wc.heap.size, 3, none⟩ (.slice A18 (adL xs rt rl).length c18)).frozen? ⟨wc.heap.size, 1, none⟩ = false ∧ (p18.setCell ⟨wc.heap.size, 3, none⟩ (.slice A18 (adL xs rt rl).length c18)).cell? ⟨wc.heap.size, 2, none⟩ = some (.int .i64 z) ∧ (p18.setCell ⟨wc.heap.size, 3, none⟩ (.slice A18 (adL xs rt rl).length c18)).frozen? ⟨wc.heap.size, 2, none⟩ = false ∧ (p18.setCell ⟨wc.heap.size, 3, none⟩ (.slice A18 (adL xs rt rl).length c18)).cell? ⟨wc.heap.size, 3, none⟩ = some (.slice A18 (adL xs rt rl).length c18) ∧ (p18.setCell ⟨wc.heap.size, 3, none⟩ (.slice A18 (adL xs rt rl).length c18)).frozen? ⟨wc.heap.size, 3, none⟩ = false by simp [go_sem, *])
              clear g0 gf0 g1 gf1 g2 gf2 g3 gf3 hO
              refine wpAnyH_done (by kernel_rfl) ?_ _
              go_wp2_with fail
              go_meet
              exact ⟨A18, c18, FK.out, FO.out, FG.out⟩
          case rest =>
            have hbw := hzw
            obtain ⟨A9, c9, k9, o9, g0, gf0, g1, gf1, g2, gf2, g3, gf3⟩ := hcut
            have K9 := Lib.hid (KWc.out.trans k9)
            have O9 := Lib.hid o9
            clear k9 o9
            cases h3 : gaugeB id nm z (adL xs rt rl)
            · have HOK := Lib.hid (show adOk id nm z xs rt rl = false by simp [adOk, H1.out, h3])
              have HV := Lib.hid (ad_no HOK.out)
              go_wp2_with fail
              refine (l3One_any id nm z _ (adL xs rt rl) hs _ (pairs_own O9.out)).mono ?_
              rintro e w9 ⟨rfl, hk9⟩
              rw [h3]
              have OF := Lib.hid (own_kept O9.out hk9)
              have hk := K9.out.trans hk9
              obtain ⟨x0', xf0, x1', xf1, x2', xf2, x3', xf3⟩ := blk4 hk9 ⟨g0, gf0, g1, gf1, g2, gf2, g3, gf3⟩
              clear g0 gf0 g1 gf1 g2 gf2 g3 gf3 hk9
              obtain ⟨a0, af0, a1, af1, a2, af2, a3, af3, r0, rf0, r1, rf1, b0, bf0, b1, bf1, b2, bf2, b3, bf3⟩ := ad_cells hk
              have HKF := Lib.hid (HKA.out.trans hk)
              clear hk
              go_wp2_with fail
              exact bodyPost_ret (v := .tuple #[noG, .bool false]) (by simp [results, Try.results18, go_sem, noG, *]) rfl ⟨_, HV.out.1, by rw [HV.out.2]; exact World.ownsRow_nil _ _ _ _, ((((HKF.out.setCell (by first | (simp; done) | (simp; omega)) _).setCell (by first | (simp; done) | (simp; omega)) _).setCell (by first | (simp; done) | (simp; omega)) _).setCell (by first | (simp; done) | (simp; omega)) _)⟩
            · have HOK := Lib.hid (show adOk id nm z xs rt rl = true by simp [adOk, H1.out, h3])
              have HV : adV id nm z xs rt rl = adL xs rt rl := by simp [adV, HOK.out]
              go_wp2_with fail
              refine (l3One_any id nm z _ (adL xs rt rl) hs _ (pairs_own O9.out)).mono ?_
              rintro e w9 ⟨rfl, hk9⟩
              rw [h3]
              have OF := Lib.hid (own_kept O9.out hk9)
              have hk := K9.out.trans hk9
              obtain ⟨x0', xf0, x1', xf1, x2', xf2, x3', xf3⟩ := blk4 hk9 ⟨g0, gf0, g1, gf1, g2, gf2, g3, gf3⟩
              clear g0 gf0 g1 gf1 g2 gf2 g3 gf3 hk9
              obtain ⟨a0, af0, a1, af1, a2, af2, a3, af3, r0, rf0, r1, rf1, b0, bf0, b1, bf1, b2, bf2, b3, bf3⟩ := ad_cells hk
              have HKF := Lib.hid (HKA.out.trans hk)
              clear hk
              go_wp2_with fail
              exact bodyPost_ret (v := .tuple #[.agg #[.int .i64 id, .string nm, .int .i64 z, .slice A9 (adL xs rt rl).length c9], .bool true]) (by simp [results, Try.results18, go_sem, *]) rfl ⟨.slice A9 (adL xs rt rl).length c9, by simp [szG, HOK.out], by rw [HV]; exact own_base (ownsRow_setCell_below (ownsRow_setCell_below (ownsRow_setCell_below (ownsRow_setCell_below OF.out (by first | (simp; done) | (simp; omega)) _) (by first | (simp; done) | (simp; omega)) _) (by first | (simp; done) | (simp; omega)) _) (by first | (simp; done) | (simp; omega)) _) (by omega), ((((HKF.out.setCell (by first | (simp; done) | (simp; omega)) _).setCell (by first | (simp; done) | (simp; omega)) _).setCell (by first | (simp; done) | (simp; omega)) _).setCell (by first | (simp; done) | (simp; omega)) _)⟩
end Go.Proofs.Ytopdnhlolfehcaa
