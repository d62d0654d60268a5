/-
  FnStrings' walk: numbers and their texts, sealed texts, and one byte changed.
  Conditions: none but that the tables of the library read as they were laid.
-/
import Derived.Test.YtlnhdjajbiahbaaDoorDDraw
import Derived.Deep.DeepCutAuto
import Derived.BigRegion
namespace Go.Proofs.YtlnhdjajbiahbaaDoor
open Go.ChangeShapes Go.WideShapes Go.ChangeAt Go.RowKit
set_option linter.unusedVariables false
set_option linter.unusedSimpArgs false

theorem still_tail_drew {P : Program} {id : Nat} {Q : Exit → Act → World → Prop} {a : Act} {w : World} {l : List Oper} (n : Nat) (hm : P.follows .mixedOrders = true) (hB : Region.lexTailB .any l.toArray n = true)
    (h : wpStill P l.toArray w.drew (fun a' => wpList P l.toArray Q (l.drop n) a' w.drew) (l.take n) a) : (Code.region id l.toArray true).wp P Q a w := wp_region_still_tail n hm hB h
theorem flipw2 {P : Program} {f : FuncId} {args : Array Value} {w : World} {v : Value} (h : Calls P f args w fun e w' => e = .returned v ∧ w = w') : Calls P f args w fun e w' => e = .returned v ∧ w' = w := h.mono fun _ _ ⟨a, b⟩ => ⟨a, b.symm⟩
theorem fi_back {n : Int} (h : fiOk n = true) : piV (fiT n) = n ∧ piOk (fiT n) = true := by
  have h1 : fiT n = itx n := by simp [fiT, h]
  rw [h1]
  exact pi_yes (pi_of h rfl)
theorem fi_size (n : Int) : (fiT n).size ≤ 7 := by
  unfold fiT
  split
  · rename_i h
    exact itx_size7 h
  · decide
/-- A text's bytes, laid in a block of their own. -/
theorem run_bytes (W : World) (s : ByteArray) : ∃ cp W', (convert 9 25 (.string s)).run Tryd.prog W = .ok (.slice (some ⟨W.heap.size, 0, none⟩) s.size cp) W' ∧ Kept W W' ∧ W'.heap.size = W.heap.size + 1 ∧ (∀ j, j < s.size → W'.cell? ⟨W.heap.size, j, none⟩ = some (.int .u8 ((bt s j).toNat : Int)) ∧ W'.frozen? ⟨W.heap.size, j, none⟩ = false) := by
  refine ⟨_, _, run_bytes_of_string W 9 25 5 s Tryd.underlying9 Tryd.underlying25 Tryd.underlying5, Kept.alloc (Kept.drew (Kept.refl _)) _, by simp, fun j hj => ⟨?_, ?_⟩⟩
  · have h := bytesRow_at s (grownCap W s.size 0 5) j hj
    rw [show (⟨W.heap.size, j, none⟩ : Addr) = ⟨W.drew.heap.size, j, none⟩ from rfl, cell_of_row _ _ j _ _ _ (heap_alloc_new W.drew _)]
    rw [h, bt_at hj]
    rfl
  · have hz : s.size ≤ (bytesRow s (grownCap W s.size 0 5)).size := by
      unfold bytesRow
      rw [Array.size_append, Array.size_map]
      exact Nat.le_add_right _ _
    generalize bytesRow s (grownCap W s.size 0 5) = R at hz ⊢
    have hb := heap_alloc_new W.drew (.cells R 5 (R.size, R.size + 1))
    unfold World.frozen?
    rw [show (⟨W.heap.size, j, none⟩ : Addr).block = W.drew.heap.size from rfl, hb]
    simp
    omega
/-- The text of bytes in a block of their own of which one was written. -/
theorem run_back (W : World) (g cp k : Nat) (s : ByteArray) (c : UInt8) (hk : k < s.size) (h : ∀ j, j < s.size → W.cell? ⟨g, j, none⟩ = some (.int .u8 ((bt s j).toNat : Int))) :
    (convert 25 9 (.slice (some ⟨g, 0, none⟩) s.size cp)).run Tryd.prog (W.setCell ⟨g, k, none⟩ (.int .u8 (c.toNat : Int))) = .ok (.string (putB s k c)) (W.setCell ⟨g, k, none⟩ (.int .u8 (c.toNat : Int))) := by
  have hl : (s.data.toList.set k c).length = s.size := by rw [List.length_set, ← Lib.size_eq]
  have h1 := run_convert_bytes_back (P := Tryd.prog) (W.setCell ⟨g, k, none⟩ (.int .u8 (c.toNat : Int))) 25 9 5 ⟨g, 0, none⟩ cp (s.data.toList.set k c) Tryd.underlying25 Tryd.underlying5 Tryd.underlying9 (fun j hj => by
    have hj3 : j < s.size := by rw [hl] at hj; exact hj
    rw [Go.WideShapes.add_plain, Nat.zero_add]
    have hj2 : j < s.data.toList.length := by rw [← Lib.size_eq]; exact hj3
    by_cases e : j = k
    · subst e
      rw [List.getElem_set_self]
      have := h j hj3
      simp [go_sem, this]
    · rw [List.getElem_set_ne (fun q => e q.symm), World.cell?_setCell_other _ _ _ _ (fun q => e (by injection q with q1 q2 q3; first | exact q2 | exact q2.symm)), h j hj3]
      have h2 := bt_list hj3
      rw [List.getElem?_eq_getElem hj2] at h2
      injection h2 with h2
      rw [← h2])
  rw [hl] at h1
  exact h1
set_option maxRecDepth 100000 in
set_option maxHeartbeats 2000000 in
theorem lawFnStrings (v : Value) (w : World) (hc : CodeW w v) (ht : PowTab w) (hv : SynVar w) : Calls Tryd.prog 4 #[v] w fun e w' => e = .returned (.bool true) ∧ Kept w w' := by
  have HC := Lib.hid hc
  obtain ⟨A, len, cap, rfl, -⟩ := hc
  by_cases hbig : (65536 : Int) < (len : Int)
  · have hd : decide ((65536 : Int) < (len : Int)) = true := by simp [hbig]
    go_enter Tryd.func4, Tryd.ntmps4
    go_wp2_with (go_at_call 10; (with_reducible refine (vBig_any _ _ _ _).mono ?_); rintro e w' ⟨rfl, rfl⟩)
    go_ret
    exact ⟨rfl, Kept.refl _⟩
  have hd : decide ((65536 : Int) < (len : Int)) = false := by simp [hbig]
  obtain ⟨x9, p0, p1, h9⟩ := vAt_at HC.out 9 (by omega)
  obtain ⟨x10, q0, q1, h10⟩ := vAt_at HC.out 10 (by omega)
  have H9 : Hid (∀ W, Kept w W → Calls Tryd.prog 19 #[.slice A len cap, .int .i64 9] W fun e w' => e = .returned (.int .i64 x9) ∧ W = w') := Lib.hid h9
  have H10 : Hid (∀ W, Kept w W → Calls Tryd.prog 19 #[.slice A len cap, .int .i64 10] W fun e w' => e = .returned (.int .i64 x10) ∧ W = w') := Lib.hid h10
  have HT := Lib.hid ht
  have HV := Lib.hid hv
  clear h9 h10 ht hv
  go_enter Tryd.func4, Tryd.ntmps4
  go_wp2_with (go_at_call 10; (with_reducible refine (vBig_any _ _ _ _).mono ?_); rintro e w' ⟨rfl, rfl⟩)
  refine (drawFormatInt_any _ _ HC.out).mono ?_
  rintro e d1 ⟨n, rfl, k1⟩
  have K1 := Lib.hid k1
  clear k1
  go_wp2_with fail
  refine (formatInt_any n _ (HT.out.kept K1.out)).mono ?_
  rintro e d2 ⟨rfl, k2⟩
  have K2 := Lib.hid (K1.out.trans k2)
  clear k2 K1
  have HB := Lib.hid (fi_back (n := n))
  have hz := fi_size n
  have HSF := Lib.hid fun W => sFormatInt_any n W
  have HPI := Lib.hid fun W (h : Kept w W) => parseInt_any (fiT n) W (HT.out.kept h) (HV.out.kept h)
  generalize fiT n = ft at HB hz HSF HPI ⊢
  generalize fiOk n = fo at HB HSF ⊢
  go_wp2_with fail
  refine (HSF.out _).mono ?_
  rintro e d3 ⟨rfl, k3⟩
  have K3 := Lib.hid (K2.out.trans k3)
  clear k3 K2 HSF
  go_wp2_with fail
  refine (drawParseInt_any _ _ (HC.out.kept K3.out)).mono ?_
  rintro e d4 ⟨t, rfl, hts, k4⟩
  have K4 := Lib.hid (K3.out.trans k4)
  clear k4 K3
  have HSP := Lib.hid fun W => sParseInt_any t (by omega) W
  have HIP := Lib.hid fun W (h : Kept w W) => parseInt_any t W (HT.out.kept h) (HV.out.kept h)
  generalize piV t = pv at HSP HIP
  generalize piOk t = po at HSP HIP
  go_wp2_with fail
  refine (HIP.out _ K4.out).mono ?_
  rintro e d5 ⟨rfl, k5⟩
  have K5 := Lib.hid (K4.out.trans k5)
  clear k5 K4 HIP
  go_wp2_with fail
  refine (HSP.out _).mono ?_
  rintro e d6 ⟨rfl, k6⟩
  have K6 := Lib.hid (K5.out.trans k6)
  clear k6 K5 HSP
  go_wp2_with fail
  refine (drawAppendChecksum_any _ _ (HC.out.kept K6.out)).mono ?_
  rintro e d7 ⟨x, rfl, hxs, k7⟩
  have K7 := Lib.hid (K6.out.trans k7)
  clear k7 K6
  have HSA := Lib.hid fun W => sAppendChecksum_any x (by omega) W
  have HIA := Lib.hid fun W (h : Kept w W) => appendChecksum_any x (by unfold maxLen; omega) W (HT.out.kept h)
  obtain ⟨y, hy⟩ : ∃ y, acV x = y := ⟨_, rfl⟩
  obtain ⟨ok, hok⟩ : ∃ ok, acOk x = ok := ⟨_, rfl⟩
  rw [hy, hok] at HSA HIA
  have HY := Lib.hid hy
  have HOK := Lib.hid hok
  clear hy hok
  go_wp2_with fail
  refine (HIA.out _ K7.out).mono ?_
  rintro e d8 ⟨rfl, k8⟩
  have K8 := Lib.hid (K7.out.trans k8)
  clear k8 K7 HIA
  go_wp2_with fail
  refine (HSA.out _).mono ?_
  rintro e d9 ⟨rfl, k9⟩
  have K9 := Lib.hid (K8.out.trans k9)
  clear k9 K8 HSA
  go_wp2_with fail
  refine (HPI.out _ K9.out).mono ?_
  rintro e d10 ⟨rfl, k10⟩
  have K10 := Lib.hid (K9.out.trans k10)
  clear k10 K9 HPI
  have hcond : Hid ((fo = false) ∨ (fo = true ∧ piV ft = n ∧ piOk ft = true)) := Lib.hid (by
    cases fo
    · exact Or.inl rfl
    · exact Or.inr ⟨rfl, HB.out rfl⟩)
  clear HB
  generalize piV ft = back at hcond ⊢
  generalize piOk ft = there at hcond ⊢
  go_upto_region 15 with fail
  go_cut [106] (fun s106 wx => s106 = .bool false ∧ wx = d10)
  case first =>
    rcases hcond.out with rfl | ⟨rfl, rfl, rfl⟩
    · go_wp2_with fail
      go_meet
      exact ⟨rfl, rfl⟩
    · go_wp2_with fail
      go_meet
      exact ⟨rfl, rfl⟩
  case rest =>
    obtain ⟨rfl, rfl⟩ := hcut
    clear hcond
    cases hok : ok
    · have hy2 : y = ⟨#[]⟩ := by rw [← HY.out, ac_no (by rw [HOK.out, hok])]
      subst hok hy2
      go_wp2_with fail
      go_ret
      exact ⟨rfl, K10.out⟩
    · subst hok
      have hac := HOK.out
      have hys : y = sealT x := by rw [← HY.out, ac_yes hac]
      obtain ⟨v1, v2⟩ := vc_seal hac
      rw [← hys] at v1 v2
      have hy4 : y.size ≤ 4000 := by rw [hys]; exact ac_size hac
      have hy1 : 0 < y.size := by rw [hys, seal_size]; omega
      have HVC := Lib.hid fun W (h : Kept w W) => verifyChecksum_any y (by unfold maxLen; omega) W (HT.out.kept h)
      rw [v1, v2] at HVC
      obtain ⟨k, hk9⟩ : ∃ k : Nat, x9 % (y.size : Int) = (k : Int) := ⟨(x9 % (y.size : Int)).toNat, (Int.toNat_of_nonneg (Int.emod_nonneg _ (by omega))).symm⟩
      have hk : k < y.size := by have := Int.emod_lt_of_pos x9 (b := (y.size : Int)) (by omega); omega
      have r0 := Int.emod_nonneg x10 (b := 255) (by omega)
      have r1 := Int.emod_lt_of_pos x10 (b := 255) (by omega)
      obtain ⟨c, hc1, hc2⟩ := xor_byte (bt y k) (1 + x10 % 255) (by omega) (by omega)
      have hbad := changed_shut (c := c) hac (by rw [← hys]; exact hk) (by rw [← hys]; exact hc2)
      rw [← hys] at hbad
      have HVB := Lib.hid fun W (h : Kept w W) => verifyChecksum_any (putB y k c) (by unfold maxLen; rw [putB_size]; omega) W (HT.out.kept h)
      rw [hbad, vc_no hbad] at HVB
      clear hac hys v1 v2 hc2 hbad HY HOK
      go_wp2_with fail
      refine (HVC.out _ K10.out).mono ?_
      rintro e d11 ⟨rfl, k11⟩
      have K11 := Lib.hid (K10.out.trans k11)
      clear k11 K10 HVC
      obtain ⟨cp, wB, hcv, kB, zB, hcells⟩ := run_bytes d11 y
      have K12 := Lib.hid (K11.out.trans kB)
      have k13 : Kept wB wB.drew := Kept.drew (Kept.refl _)
      have K13 := Lib.hid (K12.out.trans k13)
      have dk := k13.keep (hcells k hk).1
      have fk := k13.free (hcells k hk).1 (hcells k hk).2
      have hbk := run_back wB.drew d11.heap.size cp k y c hk (fun j hj => k13.keep (hcells j hj).1)
      have hge := K11.out.size
      have KS := Lib.hid (K13.out.setCell (p := ⟨d11.heap.size, k, none⟩) hge (.int .u8 (c.toNat : Int)))
      generalize d11.heap.size = g at hcv zB dk fk hbk hge KS
      clear hcells kB k13
      go_upto_region 21 with fail
      go_wp2_with (go_at_call 19; refine (H9.out _ K12.out).mono ?_; rintro e w3 ⟨rfl, rfl⟩)
      have i0 : (0 : Int) ≤ (k : Int) := by omega
      have i1 : (k : Int) < (y.size : Int) := by omega
      have hw1 : IntKind.i64.wrap (1 + x10 % 255) = 1 + x10 % 255 := by rw [IntKind.wrap_i64]; omega
      have hw2 : IntKind.u8.wrap (1 + x10 % 255) = 1 + x10 % 255 := by rw [IntKind.wrap_u8]; omega
      refine still_tail_drew 12 (by kernel_rfl) (by kernel_rfl) ?_
      simp only [List.take_succ_cons, List.take_zero, List.drop_succ_cons, List.drop_zero]
      generalize wB.drew = wq at *
      repeat still_step
      still_call (flipw2 (H10.out _ K13.out))
      repeat still_step
      refine wpStill_nil ?_
      go_wp2_with fail
      refine (HVB.out _ KS.out).mono ?_
      rintro e d12 ⟨rfl, k12⟩
      have KF := Lib.hid (KS.out.trans k12)
      clear k12
      go_wp2_with fail
      go_ret
      exact ⟨rfl, KF.out⟩
end Go.Proofs.YtlnhdjajbiahbaaDoor
