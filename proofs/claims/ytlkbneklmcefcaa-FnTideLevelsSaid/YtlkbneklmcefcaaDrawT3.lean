/-
  The contract of DrawLevelBetween; vTides of two equal lists.
  Conditions: none.
-/
import Derived.Test.YtlkbneklmcefcaaDrawT2
import Derived.Deep.Upon
import Derived.Laws.OwnMore
import Derived.Deep.DeepCutAuto
namespace Go.Proofs.Ytlkbneklmcefcaa
open Go.ChangeShapes Go.WideShapes Go.ChangeAt Go.RowKit
set_option linter.unusedVariables false
set_option linter.unusedSimpArgs false

theorem flat_pair : ∀ (xs : List (Int × Int)) (j : Nat) (u : Value), (xs.flatMap pairC)[j]? = some u → ∃ i, i < xs.length ∧ ((j = i * 2 ∧ u = .int .i64 (P1 xs i)) ∨ (j = i * 2 + 1 ∧ u = .int .i64 (P2 xs i)))
  | [], j, u, h => by simp at h
  | x :: xs, 0, u, h => ⟨0, by simp, .inl ⟨rfl, by simpa [List.flatMap_cons, pairC, P1] using h.symm⟩⟩
  | x :: xs, 1, u, h => ⟨0, by simp, .inr ⟨rfl, by simpa [List.flatMap_cons, pairC, P2] using h.symm⟩⟩
  | x :: xs, j + 2, u, h => by
    obtain ⟨i, hi, hx⟩ := flat_pair xs j u (by simpa [List.flatMap_cons, pairC] using h)
    refine ⟨i + 1, by simp; omega, ?_⟩
    rcases hx with ⟨rfl, rfl⟩ | ⟨rfl, rfl⟩
    · exact .inl ⟨by omega, by simp [P1]⟩
    · exact .inr ⟨by omega, by simp [P2]⟩
theorem flat_one (xs : List (Int × Int)) : ∀ u ∈ xs.flatMap pairC, u.oneCell' = true := by
  intro u hu
  obtain ⟨p, -, hp⟩ := List.mem_flatMap.1 hu
  simp only [pairC, List.mem_cons, List.not_mem_nil, or_false] at hp
  rcases hp with rfl | rfl <;> rfl
theorem flat_len (xs : List (Int × Int)) : (xs.flatMap pairC).length = xs.length * 2 := by
  induction xs with
  | nil => rfl
  | cons x xs ih => rw [List.flatMap_cons, List.length_append, ih]; simp [pairC]; omega
/-- append(own, list...) where the list lies anywhere. -/
theorem wpList_append_list {P : Program} (w : World) {ops : Array Oper} {rest : List Oper} {o : Oper} {a : Act} {Q : Exit → Act → World → Prop} (hgd : o.guard = none) (s x : Operand) (t : TypeId)
    (ho : o.op = .call { callee := .builtin .append, args := #[s, x], argTypes := #[t, t] })
    (base : Nat) (e : TypeId) (i : TypeInfo) (z : Value) (bytes : Nat) (ht : P.underlying t = some (.slice e)) (hi : P.info? e = some i) (hz : i.zero = some z)
    (hsize : i.size = 2) (hby : i.bytes = bytes) (hzs : z.cells.size = 2)
    (v : Value) (n : Nat) (zs : List Value) (hs : a.eval s = v) (hown : w.ownsRow base e 2 v n zs)
    (u : Value) (xs : List (Int × Int)) (hx : a.eval x = u) (hL : Lies w 2 pairC u xs)
    (h63 : n + xs.length ≤ maxLen) (hbytes : (n + xs.length) * bytes ≤ 140737488355328) (hbase : base ≤ w.heap.size)
    (h : ∀ v' w', w'.ownsRow base e 2 v' (n + xs.length) (zs ++ xs.flatMap pairC) → w.grownBy w' v.ownBlock → wpList P ops Q rest (a.put o.dst v') w') : wpList P ops Q (o :: rest) a w := by
  obtain ⟨A, c, rfl, hlc, hcm, hA⟩ := lies_pairs hL
  by_cases h0 : 0 < xs.length
  · obtain ⟨b, off, rfl, hc⟩ := hA h0
    refine wpList_append_own_at w hgd s x t ho base e i z 2 bytes ht hi hz hsize hby hzs (by decide) v n zs hs hown ⟨b, off, none⟩ xs.length c (xs.flatMap pairC) hx (flat_len xs) (fun j u hu => ?_) (flat_one xs) h63 hbytes hbase (fun v' w' h1 h2 _ _ => h v' w' h1 h2)
    obtain ⟨i, hi, hx⟩ := flat_pair xs j u hu
    rcases hx with ⟨rfl, rfl⟩ | ⟨rfl, rfl⟩
    · simpa [Addr.add_lit] using (hc i hi).1
    · simpa [Addr.add_lit, Nat.add_assoc] using (hc i hi).2
  · have e0 : xs = [] := List.length_eq_zero_iff.1 (by omega)
    subst e0
    obtain ⟨B, c', rfl, hle, -, -⟩ := own_form hown
    have hS : Src P i.size t (.slice A 0 c) 0 [] w := by
      cases A with
      | none => exact Src.ofNil w ht c
      | some ad => exact Src.ofSlice w ht ad 0 c [] (by simp) (by simp) (by simp)
    have hr := run_append_nothing w t t o.type e i ht hi B n c' hle _ hS
    refine wpList_plain hgd fun K hK => ?_
    unfold Oper.wp execOp
    simp only [List.length_nil] at hx
    simp only [ho, resolve, invoke, builtin, Sem.run_bind, Sem.run_pure, Result.andThen_ok, List.map_toArray, List.map_cons, List.map_nil, hs, hx, hr]
    exact hK _ _ (h _ _ (by simpa using hown) (grown_of_kept (Kept.refl w)))

theorem vTides_any (u v : Value) (xs : List (Int × Int)) (w : World) (hU : Lies w 2 pairC u xs) (hV : Lies w 2 pairC v xs) : Calls Try.prog 44 #[u, v] w fun e w' => e = .returned (.bool true) ∧ Kept w w' := by
  have hm := hU.len
  unfold maxLen at hm
  obtain ⟨A, c, rfl, hlc, hcm, hA⟩ := lies_pairs hU
  obtain ⟨A', c', rfl, hlc', hcm', hA'⟩ := lies_pairs hV
  clear hU hV
  go_enter Try.func44, Try.ntmps44
  go_wp2
  go_loopw [5] (fun i wr => ∃ k : Nat, k ≤ xs.length ∧ i = .int .i64 k ∧ Kept w wr) (fun i _ => xs.length - (intOf i).toNat)
  case atStart => exact ⟨0, Nat.zero_le _, rfl, Kept.refl _⟩
  case round =>
    obtain ⟨k, hk, rfl, hkw⟩ := hrel
    by_cases hlt : k < xs.length
    · obtain ⟨b, off, rfl, hc⟩ := hA (by omega)
      obtain ⟨b', off', rfl, hc'⟩ := hA' (by omega)
      have c0 := hkw.keep (hc k hlt).1
      have c1 := hkw.keep (hc k hlt).2
      have d0 := hkw.keep (hc' k hlt).1
      have d1 := hkw.keep (hc' k hlt).2
      have k0 : (0 : Int) ≤ (k : Int) := by omega
      have k1 : (k : Int) < (xs.length : Int) := by omega
      clear hc hc' hA hA'
      go_wp2_with fail
      go_quiet (fail)
      go_wp2
      go_roundw
      case rel => exact ⟨k + 1, by omega, by go_num, by (repeat (first | exact Kept.refl _ | assumption | refine Kept.alloc ?_ _ | refine Kept.drew ?_ | refine Kept.drewN ?_ _ | refine Kept.setCell ?_ (by first | (simp; done) | (simp; omega) | omega | exact Kept.size (by (repeat (first | exact Kept.refl _ | assumption | refine Kept.alloc ?_ _ | refine Kept.drew ?_ | refine Kept.drewN ?_ _ | refine Kept.trans ?_ (by assumption))))) _ | refine Kept.trans ?_ (by assumption)))⟩
      case measure => simp [intOf]; omega
    · go_wp2
      go_ret
      exact ⟨rfl, by (repeat (first | exact Kept.refl _ | assumption | refine Kept.alloc ?_ _ | refine Kept.drew ?_ | refine Kept.drewN ?_ _ | refine Kept.setCell ?_ (by first | (simp; done) | (simp; omega) | omega | exact Kept.size (by (repeat (first | exact Kept.refl _ | assumption | refine Kept.alloc ?_ _ | refine Kept.drew ?_ | refine Kept.drewN ?_ _ | refine Kept.trans ?_ (by assumption))))) _ | refine Kept.trans ?_ (by assumption)))⟩
theorem flat_head (xs : List (Int × Int)) (h : 0 < xs.length) : xs.flatMap pairC = .int .i64 (P1 xs 0) :: .int .i64 (P2 xs 0) :: (xs.drop 1).flatMap pairC := by
  cases xs with
  | nil => simp at h
  | cons x zs => simp [List.flatMap_cons, pairC, P1, P2]
theorem Stir.setN {g : Nat} {a b : World} (h : Stir g a b) {p : Addr} (hp : a.heap.size ≤ p.block) (u : Value) : Stir g a (b.setCell p u) :=
  ⟨h.by_.os, h.by_.tape, h.by_.output, by simpa using h.by_.size, fun k hk hg => by
    rw [heap_setCell_other b p k u (by omega)]
    exact h.by_.block k hk hg⟩
theorem own_apart {a : World} {b1 b2 s1 s2 n1 n2 : Nat} {e1 e2 : TypeId} {u1 u2 : Value} {x1 x2 : List Value} {W1 : World} (h1 : W1.ownsRow b1 e1 s1 u1 n1 x1) (h2 : a.ownsRow b2 e2 s2 u2 n2 x2) (hle : W1.heap.size ≤ b2) : u1.ownBlock = none ∨ u1.ownBlock ≠ u2.ownBlock := (own_ne h1 h2 hle).1
set_option maxRecDepth 100000 in
set_option maxHeartbeats 2000000 in
theorem drawLevelBetween_any (v : Value) (w : World) (hc : CodeW w v) : Calls Try.prog 45 #[v] w fun e w' => ∃ (l : Value) (xs : List (Int × Int)) (m : Value) (ys : List (Int × Int)) (x y t : Int), e = .returned (.tuple #[l, m, .int .i64 x, .int .i64 y, .int .i64 t]) ∧ Lies w' 2 pairC l xs ∧ Lies w' 2 pairC m ys ∧ Kept w w' := by
  obtain ⟨i0, hi0, hz0, hz1, hz2⟩ := info_parts infoTide
  obtain ⟨A, len, cap, rfl, hc⟩ := hc
  have HC := Lib.hid hc
  clear hc
  go_enter Try.func45, Try.ntmps45
  have C0 := Lib.hid (CurB.new (W := w) (g := w.heap.size) rfl HC.out 82)
  have K0 : Hid (Kept w (w.alloc (.cells #[.slice A len cap, .int .i64 0, .int .u64 0] 82))) := Lib.hid (Kept.alloc (Kept.refl _) _)
  go_wp2_with fail
  refine (tides_any w.heap.size 0 _ C0.out (by omega)).mono ?_
  rintro e w1 ⟨l, xs, rfl, hx, ho, hc1, hs1⟩
  have hW : (w.alloc (.cells #[.slice A len cap, .int .i64 0, .int .u64 0] 82)).heap.size = w.heap.size + 1 := by simp
  rw [hW] at ho
  obtain ⟨A1, c1, rfl, -, -, -⟩ := own_form ho
  have O1 := Lib.hid ho
  have C1 := Lib.hid hc1
  have S1 := Lib.hid hs1
  have z1 := hs1.size
  rw [hW] at z1
  clear ho hc1 hs1 hW
  go_wp2_with fail
  refine (tides_any w.heap.size (0 + 200) _ C1.out (by omega)).mono ?_
  rintro e w2 ⟨m, ys, rfl, hy, ho, hc2, hs2⟩
  obtain ⟨A2, c2, rfl, -, -, -⟩ := own_form ho
  have P2 := Lib.hid ho
  have O2 := Lib.hid (hs2.own O1.out (by omega))
  have C2 := Lib.hid hc2
  have S2 := Lib.hid (S1.out.trans hs2)
  have z2 := hs2.size
  clear ho hc2 hs2 O1 C1 S1
  go_wp2_with fail
  refine (one_any w.heap.size (0 + 200 + 200) 2 _ C2.out (by omega) (by omega)).mono ?_
  rintro e w3 ⟨t, rfl, hc3, hs3⟩
  have P3 := Lib.hid (hs3.own P2.out (by omega))
  have O3 := Lib.hid (hs3.own O2.out (by omega))
  have C3 := Lib.hid hc3
  have S3 := Lib.hid (S2.out.trans hs3)
  have z3 := hs3.size
  clear hc3 hs3 O2 C2 S2 P2
  go_upto_if 18 with fail
  go_cut [9] (fun s wx => ∃ (Am : Option Addr) (cm : Nat) (ys : List (Int × Int)) (B2 : Nat), s = .slice Am ys.length cm ∧ ys.length ≤ 13 ∧ w.heap.size < B2 ∧ wx.ownsRow B2 53 2 s ys.length (ys.flatMap pairC) ∧ wx.ownsRow (w.heap.size + 1) 53 2 (.slice A1 xs.length c1) xs.length (xs.flatMap pairC) ∧ CurB wx w.heap.size (0 + 200 + 200 + 2) ∧ Stir w.heap.size (w.alloc (.cells #[.slice A len cap, .int .i64 0, .int .u64 0] 82)) wx ∧ w1.heap.size ≤ wx.heap.size)
  case first =>
    cases t
    · go_wp2_with fail
      go_meet
      exact ⟨A2, c2, ys, w1.heap.size, rfl, hy, by omega, P3.out, O3.out, C3.out, S3.out, by omega⟩
    · have AL : Hid (Kept w3 (w3.alloc (.cells #[] 53))) := Lib.hid (Kept.alloc (Kept.refl _) _)
      have E3 : Hid ((w3.alloc (.cells #[] 53)).ownsRow w3.heap.size 53 2 (.slice (some ⟨w3.heap.size, 0, none⟩) 0 0) 0 []) := Lib.hid (World.ownsRow_lit (e := 53) (size := 2) w3 #[] 0 (Nat.le_refl _) (by simp [maxLen]) rfl)
      have L3 := Lib.hid (pairs_own (own_kept O3.out AL.out))
      go_upto_if 24 with (at_builtin; refine wpList_append_list _ rfl (.tmp 19) (.tmp 20) _ rfl w3.heap.size 53 i0 _ 16 Try.underlying25 hi0 hz0 hz1 hz2 rfl _ 0 [] rfl E3.out _ xs rfl L3.out (by unfold maxLen; omega) (by omega) (by simp) ?_; intro v4 w4 hown hgrow; rw [Nat.zero_add] at hown; obtain ⟨A5, c5, rfl, -, -, hA5⟩ := own_form hown)
      have hr := own_row_ge E3.out
      have hO3lt : ∀ k, (Value.slice A1 xs.length c1).ownBlock = some k → k < w3.heap.size := fun k e => (O3.out.lt k e).2
      have O4 := Lib.hid ((own_kept O3.out AL.out).kept hgrow (own_apart O3.out E3.out (Nat.le_refl _)))
      have C4 := Lib.hid ((C3.out.kept AL.out).grown hgrow (fun k hk => by have := hr k hk; omega))
      have S4 := Lib.hid ((S3.out.trans (Stir.kept AL.out)).grown hgrow (fun k hk => by have := hr k hk; simp; omega))
      have z4 := hgrow.size
      simp only [World.size_alloc] at z4
      have P4 := Lib.hid hown
      clear hown hgrow hr E3 L3 AL P3 O3 C3 S3
      by_cases h0 : 0 < xs.length
      · obtain ⟨gb, rfl, hgb, hgw⟩ := hA5 h0
        have hfl := flat_head xs h0
        obtain ⟨u0, hu0, d0, f0⟩ := own_cell P4.out (j := 0) (by omega)
        obtain ⟨u1, -, d1, f1⟩ := own_cell P4.out (j := 1) (by omega)
        have e0 : u0 = .int .i64 (P1 xs 0) := by
          rw [hfl] at hu0
          simpa using hu0.symm
        subst e0
        have hgt : (0 : Int) < (xs.length : Int) := by omega
        have T2 := Lib.hid (((P4.out.stored 0 (.int .i64 (P1 xs 0))).1).stored 1 (.int .i64 40)).1
        have hne : (Value.slice A1 xs.length c1).ownBlock ≠ some gb := fun e => by
          have := hO3lt gb e
          omega
        have O6 := Lib.hid (ownsRow_setCell_other (ownsRow_setCell_other O4.out (a := ⟨gb, 0, none⟩) hne (.int .i64 (P1 xs 0))) (a := ⟨gb, 1, none⟩) hne (.int .i64 40))
        have C6 := Lib.hid ((C4.out.set (p := ⟨gb, 0, none⟩) (by simp; omega) (.int .i64 (P1 xs 0))).set (p := ⟨gb, 1, none⟩) (by simp; omega) (.int .i64 40))
        have S6 := Lib.hid ((S4.out.trans (Stir.of (g := w.heap.size) (World.grownBy.refl _ _))).setN (p := ⟨gb, 0, none⟩) (by simp; omega) (.int .i64 (P1 xs 0)) |>.setN (p := ⟨gb, 1, none⟩) (by simp; omega) (.int .i64 40))
        have hset : ((xs.flatMap pairC).set 0 (.int .i64 (P1 xs 0))).set 1 (.int .i64 40) = ((P1 xs 0, 40) :: xs.drop 1).flatMap pairC := by
          rw [hfl]
          rfl
        have hlen : ((P1 xs 0, (40 : Int)) :: xs.drop 1).length = xs.length := by simp; omega
        have z6 : w1.heap.size ≤ ((w4.setCell ⟨gb, 0, none⟩ (.int .i64 (P1 xs 0))).setCell ⟨gb, 1, none⟩ (.int .i64 40)).heap.size := by simp; omega
        have HSET := Lib.hid hset
        have HLEN := Lib.hid hlen
        have Z6 := Lib.hid z6
        have d0' := d0
        clear hfl hu0 hset hlen z6 hne hO3lt
        have hgd : decide ((0 : Int) < (xs.length : Int)) = true := decide_eq_true hgt
        clear hgt
        go_wp2_with fail
        go_meet
        exact ⟨_, c5, (P1 xs 0, 40) :: xs.drop 1, w3.heap.size, by rw [HLEN.out], by rw [HLEN.out]; omega, by omega, by rw [HLEN.out, ← HSET.out]; exact T2.out, O6.out, C6.out, S6.out, Z6.out⟩
      · have hng : ¬ ((0 : Int) < (xs.length : Int)) := by omega
        go_wp2_with fail
        go_meet
        exact ⟨A5, c5, xs, w3.heap.size, rfl, hx, by omega, P4.out, O4.out, C4.out, S4.out, by omega⟩
  case rest =>
    obtain ⟨Am, cm, ys, B2, rfl, hy, hB2, P5, O5, C5, S5, z5⟩ := hcut
    have P5 := Lib.hid P5
    have O5 := Lib.hid O5
    have C5 := Lib.hid C5
    have S5 := Lib.hid S5
    clear P3 O3 C3 S3
    go_wp2_with fail
    refine (among_any w.heap.size _ 5 (0 + 200 + 200 + 2) [1, 100, 300, 10000, 0] _ (C5.out.kept (Kept.alloc (Kept.refl _) _)) (by omega) (by exact NumsIn.lit (by rfl) (by simp)) (by omega) (by decide) (by decide)).mono ?_
    rintro e w6 ⟨x6, rfl, -, hc6, hs6⟩
    have P6 := Lib.hid (hs6.own (own_kept P5.out (Kept.alloc (Kept.refl _) _)) (by omega))
    have O6 := Lib.hid (hs6.own (own_kept O5.out (Kept.alloc (Kept.refl _) _)) (by omega))
    have C6 := Lib.hid hc6
    have S6 := Lib.hid ((S5.out.alloc _).trans hs6)
    have z6 := hs6.size
    simp only [World.size_alloc] at z6
    clear hc6 hs6
    go_wp2_with fail
    refine (among_any w.heap.size _ 4 (0 + 200 + 200 + 2 + 2) [1, 200, 10000, 10001] _ (C6.out.kept (Kept.alloc (Kept.refl _) _)) (by omega) (by exact NumsIn.lit (by rfl) (by simp)) (by omega) (by decide) (by decide)).mono ?_
    rintro e w7 ⟨x7, rfl, -, hc7, hs7⟩
    have P7 := Lib.hid (hs7.own (own_kept P6.out (Kept.alloc (Kept.refl _) _)) (by omega))
    have O7 := Lib.hid (hs7.own (own_kept O6.out (Kept.alloc (Kept.refl _) _)) (by omega))
    have C7 := Lib.hid hc7
    have S7 := Lib.hid ((S6.out.alloc _).trans hs7)
    clear hc7 hs7
    go_wp2_with fail
    refine (timeOf_any w.heap.size (w.heap.size + 1) (0 + 200 + 200 + 2 + 2 + 2) _ xs _ C7.out (by omega) (by omega) O7.out (by omega)).mono ?_
    rintro e w8 ⟨x8, rfl, hc8, hs8⟩
    have P8 := Lib.hid (hs8.own P7.out (by omega))
    have O8 := Lib.hid (hs8.own O7.out (by omega))
    have S8 := Lib.hid (S7.out.trans hs8)
    clear hc8 hs8
    have KF := Lib.hid (Stir.out K0.out S8.out (Nat.le_refl _))
    go_wp2_with fail
    exact bodyPost_ret (v := .tuple #[.slice A1 xs.length c1, .slice Am ys.length cm, .int .i64 x6, .int .i64 x7, .int .i64 x8]) (by first | (simp [results, Try.results45, go_sem]; done) | rfl) rfl ⟨_, xs, _, ys, _, _, _, rfl, pairs_own O8.out, pairs_own P8.out, KF.out⟩
end Go.Proofs.Ytlkbneklmcefcaa
