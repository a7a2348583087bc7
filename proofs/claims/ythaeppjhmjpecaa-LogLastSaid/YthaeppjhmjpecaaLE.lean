/- LogLast: the walk. -/
import Derived.Test.YthaeppjhmjpecaaV6
namespace Go.Proofs.Ythaeppjhmjpecaa.B
open Go.RowKit Go.Proofs.YthaeppjhmjpecaaW.PrintWords Go.Proofs.YthaeppjhmjpecaaW.PrintLast Go.Proofs.YthaeppjhmjpecaaW.PrintMore
attribute [local go_sem] max2_int min2_int max_two min_two max_three min_three max_four min_four
set_option linter.unusedVariables false
set_option linter.unusedSimpArgs false
section
variable {P : Program} {o : Oper} {a : Act} {W : World} {Q : Exit → Act → World → Prop} {Kc : Act → World → Prop} {ys : List Nat} {b : Bool}
theorem gate_step (N : Tmp) (_hN : o.dst = some N) (h : if b = true then Oper.wp P o a W Kc Q else Kc (a.put o.dst undef) W) : if b = true then Oper.wp P o a W Kc Q else Kc (a.put o.dst undef) W := h
end
set_option maxRecDepth 100000 in
set_option maxHeartbeats 40000000 in
theorem lawLast (A : Option Addr) (c : Nat) (l : List Act6) (w : World) (hac : Acts6C w A l) :
    Calls Try.prog 13 #[.slice A l.length c] w fun e w' => e = .returned (.bool true) ∧ Below w.heap.size w w' := by
  have HB := Aside0.mk (Below.refl w.heap.size w)
  have HAC := Aside0.mk hac
  clear hac
  by_cases c0 : 50 < l.length
  · have t0 : decide (50 < (l.length : Int)) = true := decide_eq_true (by omega)
    have t0n : decide (50 < l.length) = true := decide_eq_true c0
    go_enter Try.func13, Try.ntmps13
    go_wp2
    go_ret
    exact ⟨rfl, HB.out⟩
  have t0 : decide (50 < (l.length : Int)) = false := decide_eq_false (by omega)
  have t0n : decide (50 < l.length) = false := decide_eq_false c0
  have hl : l.length ≤ 50 := by omega
  have HOP := Aside0.mk five_open
  have kc := fun (w : World) (C : Array Value) (n c : Nat) => Lib.run_convert_bytes_const (P := Try.prog) w 22 5 C n c Try.underlying22 Try.underlying5
  clear c0
  go_enter Try.func13, Try.ntmps13
  go_wp2_with (first | ((with_reducible refine gate_dst (N := 27) rfl ?_); (try (refine gate_guard (by rfl) ?_; dsimp only)); refine goesL_ (some 27) rfl rfl Try.func14 (by kernel_rfl) rfl #[.int .i64 5000] rfl (by (try simp only [List.map_toArray, List.map_cons, List.map_nil]); first | done | rfl | (simp only [List.length_drop, List.length_take]; rfl)) ?_; refine (tnew 5000 _ (by decide) (by decide) (fun k => w.heap.size ≤ k) (Nat.le_refl _)).mono ?_; rintro e w1 ⟨rfl, hD, hbl⟩; refine ⟨_, rfl, ?_⟩; have HD := Aside0.mk (show IsD w1 (fun k => w.heap.size ≤ k) w.heap.size (Dk.zero 5000) from hD); have HB' := Aside0.mk (below_step HB.out hbl); clear HB hbl hD; have HB := HB'; clear HB') | ((with_reducible refine gate_dst (N := 32) rfl ?_); (try (refine gate_guard (by rfl) ?_; dsimp only)); refine goesL_ (some 32) rfl rfl Try.func37 (by kernel_rfl) rfl #[.pointer (some ⟨w.heap.size, 0, none⟩), .slice (some ⟨w1.heap.size, 0, none⟩) 1 1] rfl (by (try simp only [List.map_toArray, List.map_cons, List.map_nil]); first | done | rfl | (simp only [List.length_drop, List.length_take]; rfl)) ?_; refine ((lopen w.heap.size (fun k => w.heap.size ≤ k ∧ k ≠ w1.heap.size) (Dk.zero 5000) (some ⟨w1.heap.size, 0, none⟩) 1 [115] 0 _ ((HD.out.bound.mono (fun k hk => ⟨hk.1, Nat.ne_of_lt hk.2⟩)).below (below_alloc (Below.refl _ _) _)) ⟨IsB.nil, IsB.nil⟩ (zero_G (by decide)) (by decide) (C_const w1 [115] _ _ _ rfl (by decide)) (by decide) (fun k hk => by have h1 := HB.out.size; have h2 : w1.heap.size + 1 ≤ k := (by simpa using hk); exact ⟨by omega, by omega⟩) (fun ad e _ hk => by cases e; exact hk.2 rfl)).mono (fun e w' h => OpenedV.inv h HOP.out.1)).mono ?_; rintro e w3 ⟨gl, M, v1, v2, rfl, hfr, hM, hgl, hD, hL, hv⟩; refine ⟨_, rfl, ?_⟩; have hM2 : w.heap.size ≤ M := Nat.le_trans (below_alloc HB.out _).size hM; have hLT := LT.new (w := w) (L := ⟨0, 1, 0, false⟩) (okd := fun k => w.heap.size ≤ k ∧ k < M) (by rw [HOP.out.2.1] at hD; exact hD.mono (fun k hk => ⟨hk.1.1, hk.2⟩)) (by rw [HOP.out.2.2.2.2] at hL; exact hL) (fun k hk => ⟨hk.1, by have := hk.2; omega⟩) (by omega) (hfr.below' (below_alloc HB.out _) (fun k h => h.1)); have HLT := Aside0.mk hLT; clear HB HD hfr hM hM2 hgl hD hL hLT; obtain ⟨Ax, cx, Ay, cy, ex, ey, hx1, hx2, hx3, hx4⟩ := hv; subst ex ey; clear hx1 hx2 hx3 hx4))
  go_loopg [4, 8, 9, 10] l.length (fun kq v4 v8 v9 v10 w' => ∃ (i gl : Nat) (s : List Int), v10 = .int .i64 (i : Int) ∧ v4 = .pointer (some ⟨gl, 0, none⟩) ∧ v8 = .string (strOfNums s) ∧ i ≤ l.length ∧ Aside0 (kq + i = l.length) ∧ Aside0 (∃ (D : Dk) (side g n : Int) (rows : List (List Int)), LT w' w w.heap.size gl D ⟨side, g, n, false⟩ rows v9 ∧ Stt D side g s rows ∧ Sz s rows ∧ D.G (10 * (i : Int) + 3) ∧ rows.length ≤ i ∧ 0 ≤ n ∧ n ≤ i ∧ g ≤ 1 + 2 * (i : Int)))
  case atStart => exact ⟨0, gl, [115], rfl, rfl, by rw [str115], Nat.zero_le _, ⟨rfl⟩, ⟨_, _, _, _, _, HLT.out, stt_start, Sz.nil (b1_bytes (by decide)) (by decide), five_G, Nat.le_refl _, by decide, by decide, by decide⟩⟩
  case round =>
    clear HLT HOP
    obtain ⟨i, gl, s, rfl, rfl, rfl, hi, HK, ⟨D, side, g, n, rows, hLT, hST, hSZ, hG, hri, hn0, hn1, hg⟩⟩ := hrel
    have HLT := Aside0.mk hLT
    have HST := Aside0.mk hST
    have HSZ := Aside0.mk hSZ
    have HG := Aside0.mk hG
    by_cases ci : i < l.length
    · have cib : decide ((i : Int) < (l.length : Int)) = true := decide_eq_true (by exact_mod_cast ci)
      have HLG := Aside0.mk (show Lg.G ⟨side, g, n, false⟩ 900000 from ⟨hST.side01, hST.1.gb.1, hST.1.gb.2, hn0, (by omega : n ≤ 900000)⟩)
      have hg1 : 1 ≤ g := hST.1.gb.1
      obtain ⟨Ar, cr, er, hcr, hCr⟩ := hLT.rows_slice
      subst er
      clear hLT hST hSZ hG hCr
      obtain ⟨ad, eA, hacts⟩ := HAC.out (by omega)
      cases eA
      obtain ⟨cs, ⟨Ab, cb, ecs, hbc, hbC, hbI, hk, ht, hkp⟩, hcell⟩ := hacts i _ (List.getElem?_eq_getElem ci)
      subst ecs
      generalize l[i] = r' at *
      obtain ⟨k, b, t, kp⟩ := r'
      simp only at hcell hbc hbC hbI hk ht hkp
      have y0 := pw_cell_below HLT.out.base (hcell 0 _ rfl)
      have y1 := pw_cell_below HLT.out.base (hcell 1 _ rfl)
      have y2 := pw_cell_below HLT.out.base (hcell 2 _ rfl)
      have y3 := pw_cell_below HLT.out.base (hcell 3 _ rfl)
      rw [Addr.add_zero'] at y0
      rw [add_add, add_field _ _ _ (by decide)] at y1 y2 y3
      clear hacts hcell
      by_cases c3 : 40 < b.length
      · have h3 : decide (40 < (b.length : Int)) = true := decide_eq_true (by omega)
        have h3n : decide (40 < b.length) = true := decide_eq_true c3
        clear c3
        go_wp2
        go_ret
        exact ⟨rfl, below_alloc HLT.out.base _⟩
      have hb4 : b.length ≤ 40 := by omega
      have h3 : decide (40 < (b.length : Int)) = false := decide_eq_false (by omega)
      have h3n : decide (40 < b.length) = false := decide_eq_false c3
      go_upto_block 2 with fail

      have HLK := Aside0.mk (HLT.out.keep #[.int .i64 k, .slice Ab b.length cb, .int .i64 t, .int .i64 kp] 74)
      generalize wr.alloc (.cells #[.int .i64 k, .slice Ab b.length cb, .int .i64 t, .int .i64 kp] 74) = W at *
      generalize wr.heap.size = g8 at *
      obtain ⟨z0, z1, z2, z3⟩ := HLK.out.cells
      have HCB := Aside0.mk hbC
      have HIB := Aside0.mk hbI
      have HKP := Aside0.mk hkp
      clear y0 y1 y2 y3 c3 h3 h3n HLT hbC hbI hk ht hkp

      by_cases k3 : k = 3
      · as_aux_lemma =>
        subst k3
        go_wp2_with (first | ((with_reducible refine gate_dst (N := 76) rfl ?_); (try (refine gate_guard (by rfl) ?_; dsimp only)); refine goesL_ (some 76) rfl rfl Try.func18 (by kernel_rfl) rfl #[.pointer (some ⟨w.heap.size, 0, none⟩), .agg #[.int .i64 t, .int .i64 kp]] rfl (by (try simp only [List.map_toArray, List.map_cons, List.map_nil]); first | done | rfl | (simp only [List.length_drop, List.length_take]; rfl)) ?_; refine (LK.arm HLK.out t kp).mono ?_; rintro e w76 ⟨rfl, hLK⟩; refine ⟨_, rfl, ?_⟩; have HLK' := Aside0.mk hLK; clear HLK hLK; have HLK := HLK'; clear HLK'))
        go_roundg (l.length - (i + 1))
        case measure => have := HK.out; omega
        case rel => exact ⟨i + 1, gl, s, by go_num, rfl, rfl, by omega, ⟨by omega⟩, ⟨_, _, _, _, _, HLK.out.drop, HST.out.arm t kp, HSZ.out, (HG.out.arm t kp HKP.out).mono (by omega), by omega, hn0, by omega, by omega⟩⟩
      have j3 : (k == 3) = false := beq_eq_false_iff_ne.2 k3
      clear k3
      by_cases k1 : k = 1
      · as_aux_lemma =>
        subst k1
        clear j3
        obtain ⟨R1, hR1⟩ : ∃ R1, rows ++ [b] = R1 := ⟨_, rfl⟩
        have HR1 := Aside0.mk hR1
        have hR1l : rows.length + 1 ≤ R1.length ∧ R1.length ≤ rows.length + 1 := by rw [← hR1, List.length_append]; exact ⟨Nat.le_refl _, Nat.le_refl _⟩
        have HSZ1 := Aside0.mk (show Sz s R1 by rw [← hR1]; exact HSZ.out.snoc HIB.out hb4)
        have HIB2 := Aside0.mk (show IsBs (rows ++ [b]) by rw [hR1]; exact HSZ1.out.2.1)
        obtain ⟨D1, hD1⟩ : ∃ D', adD D ⟨side, g, n, false⟩ b = D' := ⟨_, rfl⟩
        have HD1 := Aside0.mk hD1
        have HG1 := Aside0.mk (show D1.G (10 * (i : Int) + 3 + 2) by rw [← hD1]; exact adD_G HG.out _ _)
        have HOK := Aside0.mk (show decide (g ≠ 0) = true from decide_eq_true (by omega))
        have hlr : rows.length ≤ 50 := by omega
        obtain ⟨f, D2, L1, R, a1, a2, hP⟩ := path1 n HST.out HSZ.out HIB.out hb4 (by omega) hD1 hR1
        have HA := Aside0.mk (And.intro a1 a2)
        have HP := Aside0.mk hP
        obtain ⟨hT, hf10, hRR⟩ := hP.lk
        have HT := Aside0.mk hT
        have HTL := Aside0.mk hT.look
        have HGR := Aside0.mk (show D2.G (10 * (i : Int) + 3 + 2) by rcases hP with ⟨_, e, _⟩ | ⟨_, e, _⟩; rw [e]; exact HG1.out; rw [e]; exact HG1.out.restart (by omega))
        have HSZR := Aside0.mk (show Sz s R by rcases hRR with e | e; rw [e]; exact HSZ.out; rw [e]; exact HSZ1.out)
        have HIR := Aside0.mk HSZR.out.2.1
        have hRl : R.length ≤ 60 := by rcases hRR with e | e; rw [e]; omega; rw [e]; omega
        obtain ⟨bw, hbw⟩ : ∃ bw, decide (R = rows) = bw := ⟨_, rfl⟩
        obtain ⟨bi, hbi⟩ : ∃ bi, decide (R = rows ++ [b]) = bi := ⟨_, rfl⟩
        have HW := Aside0.mk hbw
        have HI := Aside0.mk hbi
        have HI1 := Aside0.mk (show decide (R = R1) = bi by rw [← HR1.out]; exact hbi)
        have HF := Aside0.mk hf10
        clear a1 a2 hP hT hRR hbw hbi hD1 hR1
        go_upto_if 81 with (first | ((with_reducible refine gate_dst (N := 64) rfl ?_); (try (refine gate_guard (by rfl) ?_; dsimp only)); refine goesL_ (some 64) rfl rfl Try.func40 (by kernel_rfl) rfl #[.pointer (some ⟨gl, 0, none⟩), .slice Ab b.length cb] rfl (by (try simp only [List.map_toArray, List.map_cons, List.map_nil]); first | done | rfl | (simp only [List.length_drop, List.length_take]; rfl)) ?_; refine (LK.add HLK.out Ab cb b _ HG.out (by omega) HLG.out (Kd.C_below HCB.out HLK.out.base) hbc (by omega)).mono ?_; rintro e w64 ⟨rfl, hLK⟩; refine ⟨_, rfl, ?_⟩; rw [HA.out.1]; rw [HD1.out, HA.out.2] at hLK; have HLK' := Aside0.mk hLK; clear HLK hLK z0 z1 z2 z3; have HLK := HLK'; clear HLK'; obtain ⟨z0, z1, z2, z3⟩ := HLK.out.cells))
        go_cut [] (fun wx => Aside0 (LK wx w w.heap.size gl D2 L1 rows (.slice Ar rows.length cr) g8 #[.int .i64 1, .slice Ab b.length cb, .int .i64 t, .int .i64 kp] 74))
        case first => as_aux_lemma =>
          rcases HP.out with ⟨rfl, rfl, _⟩ | ⟨rfl, rfl, _⟩
          · go_wp2_with fail
            go_meet
            exact HLK
          · go_wp2_with (first | ((with_reducible refine gate_dst (N := 83) rfl ?_); (try (refine gate_guard (by rfl) ?_; dsimp only)); refine goesL_ (some 83) rfl rfl Try.func22 (by kernel_rfl) rfl #[.pointer (some ⟨w.heap.size, 0, none⟩)] rfl (by (try simp only [List.map_toArray, List.map_cons, List.map_nil]); first | done | rfl | (simp only [List.length_drop, List.length_take]; rfl)) ?_; refine (LK.restart HLK.out ⟨HG1.out.1, HG1.out.2.1⟩).mono ?_; rintro e w83 ⟨rfl, hLK⟩; refine ⟨_, rfl, ?_⟩; have HLK' := Aside0.mk hLK; clear HLK hLK z0 z1 z2 z3; have HLK := HLK'; clear HLK'; obtain ⟨z0, z1, z2, z3⟩ := HLK.out.cells))
            go_meet
            exact HLK
        case rest => as_aux_lemma =>
          have hLK := hcut.out
          have HLK' := Aside0.mk hLK; clear HLK hLK z0 z1 z2 z3; have HLK := HLK'; clear HLK'; obtain ⟨z0, z1, z2, z3⟩ := HLK.out.cells
          clear hcut
          go_upto_region 29 with (first | ((with_reducible refine gate_dst (N := 86) rfl ?_); (try (refine gate_guard (by rfl) ?_; dsimp only)); refine goesL_ (some 86) rfl rfl Try.func34 (by kernel_rfl) rfl #[.pointer (some ⟨w.heap.size, 0, none⟩)] rfl (by (try simp only [List.map_toArray, List.map_cons, List.map_nil]); first | done | rfl | (simp only [List.length_drop, List.length_take]; rfl)) ?_; refine (LK.look HLK.out (G_len HGR.out) HT.out.ib).mono ?_; rintro e w86 ⟨A1, c1, A2, c2, rfl, hx, hy, hbl⟩; refine ⟨_, rfl, ?_⟩; rw [HTL.out.2.2.1] at hx; rw [HTL.out.2.2.2] at hy; rw [HTL.out.1, HTL.out.2.1, HTL.out.2.2.1, HTL.out.2.2.2, HOK.out]; have hLK := HLK.out.below hbl; have HLK' := Aside0.mk hLK; clear HLK hLK z0 z1 z2 z3; have HLK := HLK'; clear HLK'; obtain ⟨z0, z1, z2, z3⟩ := HLK.out.cells; have hs1 := cstr (c := c1) hx; have hs2 := cstr (c := cb) (Kd.C_below HCB.out HLK.out.base); have HX := Aside0.mk hx; have HY := Aside0.mk hy; obtain ⟨q1, q2, q3, q4, q5⟩ := HLK.out.drop.rows_slice; cases q3; have HR2 := Aside0.mk q5; clear q4 q5; clear hx hy hbl) | ((with_reducible refine gate_dst (N := 102) rfl ?_); (try (refine gate_guard (by rfl) ?_; dsimp only)); refine goesL_ (some 102) rfl rfl Try.func39 (by kernel_rfl) rfl #[.slice A2 R.length c2, .slice Ar rows.length cr] rfl (by (try simp only [List.map_toArray, List.map_cons, List.map_nil]); first | done | rfl | (simp only [List.length_drop, List.length_take]; rfl)) ?_; refine (same5 A2 c2 R Ar cr rows _ HY.out HR2.out HIR.out HSZ.out.2.1 (by omega)).mono ?_; rintro e w102 ⟨rfl, hdr⟩; refine ⟨_, rfl, ?_⟩; rw [HW.out]; have hLK := HLK.out.below hdr.below; have HLK' := Aside0.mk hLK; clear HLK hLK z0 z1 z2 z3; have HLK := HLK'; clear HLK'; obtain ⟨z0, z1, z2, z3⟩ := HLK.out.cells; have HX' := Aside0.mk (Kd.C_below HX.out hdr.below); have HY' := Aside0.mk (Kd.C_below HY.out hdr.below); clear HX HY hs1 hs2 HR2; have HX := HX'; have HY := HY'; clear HX' HY'; have hs1 := cstr (c := c1) HX.out; have hs2 := cstr (c := cb) (Kd.C_below HCB.out HLK.out.base); clear hdr))
          go_cut [19] (fun v19 wx => w102 = wx)
          case first => as_aux_lemma =>
            go_wp2_with fail
            all_goals (go_meet; rfl)
          case rest => as_aux_lemma =>
            subst hcut
            go_upto_region 31 with fail
            go_cut [19] (fun v19 wx => v19 = .bool bi ∧ Aside0 (Below w102.heap.size w102 wx))
            case first => as_aux_lemma =>
              have hcw := z1
              have HRW := Aside0.mk HLK.out.rows_KR
              have HCW := Aside0.mk HCB.out
              go_wp2_with fail
              go_region_held_law (fun w' => Aside0 (Below w102.heap.size w102 w') ∧ w'.cell? ⟨g8, 1, none⟩ = some (.slice Ab b.length cb) ∧ (convert 22 9 (.slice A1 s.length c1)).run Try.prog w' = .ok (.string (strOfNums s)) w') (first | exact S31 hcw HX.out (below_step hbG hdr.below) | exact S31 hcw HX.out (by repeat (first | exact Below.refl _ _ | exact hbF | exact hbG | refine below_drew ?_ | refine below_alloc ?_ _)))
                (first | ((with_reducible refine gate_step 132 rfl ?_); go_must (refine rows_step (w := w) (w0 := w102) w102.heap.size (by rfl) (.tmp 130) (.tmp 131) 37 22 rfl Try.underlying37 info22 _ [] rows Ar rows.length cr rfl rfl (by first | exact Kd.R_below (R_rows0 w w102 _ _ (Nat.le_refl _)) (below_drew (Below.refl _ _)) | exact Kd.R_below (R_rows0 w w102 _ _ (Nat.le_refl _)) (below_drew (below_alloc (Below.refl _ _) _)) | exact Kd.R_below (R_rows0' w w102 _ _ _ (Nat.le_refl _)) (below_drew (Below.refl _ _))) (Kd.C_below HRW.out (by repeat (first | exact Below.refl _ _ | exact hbF | exact hbG | refine below_drew ?_ | refine below_alloc ?_ _))) (by repeat (first | exact Below.refl _ _ | exact hbF | exact hbG | refine below_drew ?_ | refine below_alloc ?_ _)) (Below.size (w := w102) (B := w102.heap.size) (by repeat (first | exact Below.refl _ _ | exact hbF | exact hbG | refine below_drew ?_ | refine below_alloc ?_ _))) (show (0 + rows.length) * 24 ≤ 140737488355328 by omega) ?_; intro v5 w5 hoF hbF hgF; rw [List.nil_append] at hoF)) | ((with_reducible refine gate_step 136 rfl ?_); go_must (refine rows_step (w := w) (w0 := w102) w102.heap.size (by rfl) (.tmp 132) (.tmp 135) 37 22 rfl Try.underlying37 info22 v5 rows [b] _ 1 1 rfl rfl (by first | exact hoF | exact Kd.R_below hoF (below_alloc (Below.refl _ _) _)) (by first | exact C_rowlit (blk_new w5 _) hbc HCW.out | exact C_rowlit (lit_b hgF) hbc HCW.out | exact C_rowlit (lit_c hgF) hbc HCW.out) (by repeat (first | exact Below.refl _ _ | exact hbF | exact hbG | refine below_drew ?_ | refine below_alloc ?_ _)) (Below.size (w := w102) (B := w102.heap.size) (by repeat (first | exact Below.refl _ _ | exact hbF | exact hbG | refine below_drew ?_ | refine below_alloc ?_ _))) (show (rows.length + 1) * 24 ≤ 140737488355328 by omega) ?_; intro v6 w6 hoG hbG hgG; rw [HR1.out] at hoG; obtain ⟨A6, c6, e6⟩ := Kd.R_slice hoG; subst e6)) | (go_at_call 39; go_must (refine (same5 A2 c2 R A6 c6 R1 _ (Kd.C_below HY.out hbG) (KR_C (Kd.R_reads' hoG).2.2 (below_step HLK.out.base hbG)) HIR.out HSZ1.out.2.1 (by omega)).mono ?_; rintro e w7 ⟨rfl, hdr⟩; rw [HI1.out])))
              all_goals (go_wp2_with fail; go_meet; exact ⟨rfl, ⟨below_step hbG hdr.below⟩⟩)
            case rest => as_aux_lemma =>
              obtain ⟨rfl, HBW⟩ := hcut
              have hLK := HLK.out.below HBW.out
              have HLK' := Aside0.mk hLK; clear HLK hLK z0 z1 z2 z3; have HLK := HLK'; clear HLK'; obtain ⟨z0, z1, z2, z3⟩ := HLK.out.cells
              clear hs1 hs2 HX HY
              rcases HP.out with ⟨rfl, rfl, rfl, hR, hS⟩ | ⟨rfl, rfl, rfl, hT2, hR | hR⟩
              · as_aux_lemma =>
                have e1 : bw = false := by rw [← HW.out, hR, ← HR1.out]; exact rows_ne _ _
                have e2 : bi = true := by rw [← HI.out, hR, HR1.out]; exact decide_eq_true rfl
                clear HW HI
                subst e1 e2
                have HS2 := Aside0.mk hS
                clear hS hR
                go_wp2_with (first | ((with_reducible refine gate_dst (N := 175) rfl ?_); go_must (obtain ⟨okr, hRR, hokr, hRF⟩ := HLK.out.rows_R; refine Kd.R_append (KR w) (w0 := w) w.heap.size rfl _ _ 37 22 (.slice none 0 0) 24 rfl Try.underlying37 info22 rfl (show 0 < 1 by decide) (by decide) (.slice Ar rows.length cr) rows b [.slice Ab b.length cb] (fun k => okr k ∨ wc.heap.size ≤ k) (fun _ => False) rfl rfl ⟨Ab, cb, rfl, hbc, HCB.out⟩ (fun _ h => h.elim) (fun _ h => .inr h) (Kd.R_mono hRR (fun _ => .inl)) HLK.out.base HLK.out.base.size (by omega) ?_; intro v1 w1 ho hb hg_ hnew_; have hLK := hRF w1 v1 _ ho hb hg_; rw [HR1.out] at hLK; clear ho hb hg_ hnew_ hRR hokr hRF; have HLK' := Aside0.mk hLK; clear HLK hLK z0 z1 z2 z3; have HLK := HLK'; clear HLK'; obtain ⟨z0, z1, z2, z3⟩ := HLK.out.cells; obtain ⟨An, cn, en, hcn, hCn⟩ := HLK.out.drop.rows_slice; subst en; clear hCn)))
                go_roundg (l.length - (i + 1))
                case measure => have := HK.out; omega
                case rel => exact ⟨i + 1, gl, s, by go_num, rfl, rfl, by omega, ⟨by omega⟩, ⟨_, _, _, _, _, HLK.out.drop, HS2.out, HSZ1.out, HGR.out.mono (by omega), by omega, by omega, by omega, by omega⟩⟩
              · as_aux_lemma =>
                have e1 : bw = true := by rw [← HW.out, hR]; exact decide_eq_true rfl
                have e2 : bi = false := by rw [← HI.out, hR]; exact rows_ne' _ _
                rw [hR] at hT2
                clear HW HI HT HTL HSZR HIR hRl HP hR HOK
                subst e1 e2
                have HT := Aside0.mk hT2
                have HTL := Aside0.mk hT2.look
                have HSZR := HSZ
                clear hT2
                have HKG := Aside0.mk (show lkG D1.restart ≠ 0 by rw [HTL.out.1]; omega)
                have HLG2 := Aside0.mk (show Lg.G ⟨side, g, ((rows).length : Nat), true⟩ 900000 from ⟨HT.out.side01, HT.out.gb.1, HT.out.gb.2, show (0 : Int) ≤ ((rows).length : Int) by omega, show ((rows).length : Int) ≤ 900000 by omega⟩)
                have HNO := Aside0.mk (ad_no (D := D1.restart) (L := ⟨side, g, ((rows).length : Nat), true⟩) (row := [122]) (show (recok [122] && !true) = false from Bool.and_false _))
                have HSV := Aside0.mk (save_calm ((rows).length : Nat) true HT.out HSZR.out.1 HSZR.out.2.2.1 (by omega))
                have hSl : (s).length ≤ 40 := HSZR.out.2.2.1
                have kb := kbytes HSZR.out.1
                go_wp2_with (first | ((with_reducible refine gate_dst (N := 189) rfl ?_); (try (refine gate_guard (by rfl) ?_; dsimp only)); refine goesL_ (some 189) rfl rfl Try.func37 (by kernel_rfl) rfl #[.pointer (some ⟨w.heap.size, 0, none⟩), .slice none 0 0] rfl (by (try simp only [List.map_toArray, List.map_cons, List.map_nil]); first | done | rfl | (simp only [List.length_drop, List.length_take]; rfl)) ?_; refine (LK.open HLK.out _ HT.out.ib HGR.out (by omega) HKG.out).mono ?_; rintro e w189 ⟨gl2, A3, c3, A4, c4, rfl, hLK, hx, hy⟩; refine ⟨_, rfl, ?_⟩; rw [HTL.out.2.2.1] at hx; rw [HTL.out.2.2.2] at hy; rw [HTL.out.1, HTL.out.2.1, HTL.out.2.2.2] at hLK; rw [HTL.out.2.2.1, HTL.out.2.2.2]; have HLK' := Aside0.mk hLK; clear HLK hLK z0 z1 z2 z3; have HLK := HLK'; clear HLK'; obtain ⟨z0, z1, z2, z3⟩ := HLK.out.cells; have hs3 := cstr (c := c3) hx; have HY3 := Aside0.mk hy; obtain ⟨q1, q2, q3, q4, q5⟩ := HLK.out.drop.rows_slice; cases q3; have HR2 := Aside0.mk q5; clear q4 q5; clear hx hy) | ((with_reducible refine gate_dst (N := 209) rfl ?_); (try (refine gate_guard (by rfl) ?_; dsimp only)); refine goesL_ (some 209) rfl rfl Try.func39 (by kernel_rfl) rfl #[.slice A4 (rows).length c4, .slice Ar rows.length cr] rfl (by (try simp only [List.map_toArray, List.map_cons, List.map_nil]); first | done | rfl | (simp only [List.length_drop, List.length_take]; rfl)) ?_; refine (same5 A4 c4 (rows) _ _ (rows) _ HY3.out HR2.out HSZR.out.2.1 HSZR.out.2.1 (by omega)).mono ?_; rintro e w209 ⟨rfl, hdr⟩; refine ⟨_, rfl, ?_⟩; rw [decide_eq_true (rfl : (rows) = (rows))]; have hLK := HLK.out.below hdr.below; have HLK' := Aside0.mk hLK; clear HLK hLK z0 z1 z2 z3; have HLK := HLK'; clear HLK'; obtain ⟨z0, z1, z2, z3⟩ := HLK.out.cells; clear hdr HY3 HR2) | ((with_reducible refine gate_dst (N := 216) rfl ?_); (try (refine gate_guard (by rfl) ?_; dsimp only)); refine goesL_ (some 216) rfl rfl Try.func40 (by kernel_rfl) rfl #[.pointer (some ⟨gl2, 0, none⟩), .slice (some ⟨w209.heap.size, 0, none⟩) 1 1] rfl (by (try simp only [List.map_toArray, List.map_cons, List.map_nil]); first | done | rfl | (simp only [List.length_drop, List.length_take]; rfl)) ?_; refine (LK.add (HLK.out.below (below_alloc (Below.refl _ _) _)) (some ⟨w209.heap.size, 0, none⟩) 1 [122] _ HGR.out (by omega) HLG2.out (C_const w209 [122] _ _ _ rfl (by decide)) (by decide) (by decide)).mono ?_; rintro e w216 ⟨rfl, hLK⟩; refine ⟨_, rfl, ?_⟩; rw [HNO.out.1]; rw [HNO.out.2.1, HNO.out.2.2] at hLK; have HLK' := Aside0.mk hLK; clear HLK hLK z0 z1 z2 z3; have HLK := HLK'; clear HLK'; obtain ⟨z0, z1, z2, z3⟩ := HLK.out.cells) | ((with_reducible refine gate_dst (N := 223) rfl ?_); (try (refine gate_guard (by rfl) ?_; dsimp only)); refine goesL_ (some 223) rfl rfl Try.func42 (by kernel_rfl) rfl #[.pointer (some ⟨gl2, 0, none⟩), .slice (some ⟨w216.heap.size, 0, none⟩) (s).length (grownCap w216 (s).length 0 5)] rfl (by (try simp only [List.map_toArray, List.map_cons, List.map_nil]); first | done | rfl | (simp only [List.length_drop, List.length_take]; rfl)) ?_; refine (LK.save (HLK.out.below (bytes_below (Below.refl _ _) (Nat.le_refl _) 5 (strOfNums (s)))) _ _ (s) _ HGR.out (by omega) HLG2.out (kbytes_C HSZR.out.1 (by omega) w216 _) (by omega)).mono ?_; rintro e w223 ⟨rfl, hLK⟩; refine ⟨_, rfl, ?_⟩; rw [show svE D1.restart (1 - Lg.side ⟨side, g, (rows).length, true⟩) (Lg.gen ⟨side, g, (rows).length, true⟩ + 1) (s) = 0 from HSV.out.1]; rw [HSV.out.2.1] at hLK; have HLK' := Aside0.mk hLK; clear HLK hLK z0 z1 z2 z3; have HLK := HLK'; clear HLK'; obtain ⟨z0, z1, z2, z3⟩ := HLK.out.cells))
                go_roundg (l.length - (i + 1))
                case measure => have := HK.out; omega
                case rel => exact ⟨i + 1, gl2, s, by go_num, rfl, rfl, by omega, ⟨by omega⟩, ⟨_, _, _, _, _, HLK.out.drop.norows, HSV.out.2.2, HSZR.out.norows, (svD_G HGR.out _ _ _).mono (by omega), Nat.zero_le _, Int.le_refl 0, by omega, by omega⟩⟩
              · as_aux_lemma =>
                have e1 : bw = false := by rw [← HW.out, hR, ← HR1.out]; exact rows_ne _ _
                have e2 : bi = true := by rw [← HI.out, hR, HR1.out]; exact decide_eq_true rfl
                rw [hR] at hT2
                clear HW HI HT HTL HSZR HIR hRl HP hR HOK
                subst e1 e2
                have HT := Aside0.mk hT2
                have HTL := Aside0.mk hT2.look
                have HSZR := HSZ1
                clear hT2
                have HKG := Aside0.mk (show lkG D1.restart ≠ 0 by rw [HTL.out.1]; omega)
                have HLG2 := Aside0.mk (show Lg.G ⟨side, g, ((R1).length : Nat), true⟩ 900000 from ⟨HT.out.side01, HT.out.gb.1, HT.out.gb.2, show (0 : Int) ≤ ((R1).length : Int) by omega, show ((R1).length : Int) ≤ 900000 by omega⟩)
                have HNO := Aside0.mk (ad_no (D := D1.restart) (L := ⟨side, g, ((R1).length : Nat), true⟩) (row := [122]) (show (recok [122] && !true) = false from Bool.and_false _))
                have HSV := Aside0.mk (save_calm ((R1).length : Nat) true HT.out HSZR.out.1 HSZR.out.2.2.1 (by omega))
                have hSl : (s).length ≤ 40 := HSZR.out.2.2.1
                have kb := kbytes HSZR.out.1
                go_wp2_with (first | ((with_reducible refine gate_dst (N := 175) rfl ?_); go_must (obtain ⟨okr, hRR, hokr, hRF⟩ := HLK.out.rows_R; refine Kd.R_append (KR w) (w0 := w) w.heap.size rfl _ _ 37 22 (.slice none 0 0) 24 rfl Try.underlying37 info22 rfl (show 0 < 1 by decide) (by decide) (.slice Ar rows.length cr) rows b [.slice Ab b.length cb] (fun k => okr k ∨ wc.heap.size ≤ k) (fun _ => False) rfl rfl ⟨Ab, cb, rfl, hbc, HCB.out⟩ (fun _ h => h.elim) (fun _ h => .inr h) (Kd.R_mono hRR (fun _ => .inl)) HLK.out.base HLK.out.base.size (by omega) ?_; intro v1 w1 ho hb hg_ hnew_; have hLK := hRF w1 v1 _ ho hb hg_; rw [HR1.out] at hLK; clear ho hb hg_ hnew_ hRR hokr hRF; have HLK' := Aside0.mk hLK; clear HLK hLK z0 z1 z2 z3; have HLK := HLK'; clear HLK'; obtain ⟨z0, z1, z2, z3⟩ := HLK.out.cells; obtain ⟨An, cn, en, hcn, hCn⟩ := HLK.out.drop.rows_slice; subst en; clear hCn)) | ((with_reducible refine gate_dst (N := 189) rfl ?_); (try (refine gate_guard (by rfl) ?_; dsimp only)); refine goesL_ (some 189) rfl rfl Try.func37 (by kernel_rfl) rfl #[.pointer (some ⟨w.heap.size, 0, none⟩), .slice none 0 0] rfl (by (try simp only [List.map_toArray, List.map_cons, List.map_nil]); first | done | rfl | (simp only [List.length_drop, List.length_take]; rfl)) ?_; refine (LK.open HLK.out _ HT.out.ib HGR.out (by omega) HKG.out).mono ?_; rintro e w189 ⟨gl2, A3, c3, A4, c4, rfl, hLK, hx, hy⟩; refine ⟨_, rfl, ?_⟩; rw [HTL.out.2.2.1] at hx; rw [HTL.out.2.2.2] at hy; rw [HTL.out.1, HTL.out.2.1, HTL.out.2.2.2] at hLK; rw [HTL.out.2.2.1, HTL.out.2.2.2]; have HLK' := Aside0.mk hLK; clear HLK hLK z0 z1 z2 z3; have HLK := HLK'; clear HLK'; obtain ⟨z0, z1, z2, z3⟩ := HLK.out.cells; have hs3 := cstr (c := c3) hx; have HY3 := Aside0.mk hy; obtain ⟨q1, q2, q3, q4, q5⟩ := HLK.out.drop.rows_slice; cases q3; have HR2 := Aside0.mk q5; clear q4 q5; clear hx hy) | ((with_reducible refine gate_dst (N := 209) rfl ?_); (try (refine gate_guard (by rfl) ?_; dsimp only)); refine goesL_ (some 209) rfl rfl Try.func39 (by kernel_rfl) rfl #[.slice A4 (R1).length c4, .slice An R1.length cn] rfl (by (try simp only [List.map_toArray, List.map_cons, List.map_nil]); first | done | rfl | (simp only [List.length_drop, List.length_take]; rfl)) ?_; refine (same5 A4 c4 (R1) _ _ (R1) _ HY3.out HR2.out HSZR.out.2.1 HSZR.out.2.1 (by omega)).mono ?_; rintro e w209 ⟨rfl, hdr⟩; refine ⟨_, rfl, ?_⟩; rw [decide_eq_true (rfl : (R1) = (R1))]; have hLK := HLK.out.below hdr.below; have HLK' := Aside0.mk hLK; clear HLK hLK z0 z1 z2 z3; have HLK := HLK'; clear HLK'; obtain ⟨z0, z1, z2, z3⟩ := HLK.out.cells; clear hdr HY3 HR2) | ((with_reducible refine gate_dst (N := 216) rfl ?_); (try (refine gate_guard (by rfl) ?_; dsimp only)); refine goesL_ (some 216) rfl rfl Try.func40 (by kernel_rfl) rfl #[.pointer (some ⟨gl2, 0, none⟩), .slice (some ⟨w209.heap.size, 0, none⟩) 1 1] rfl (by (try simp only [List.map_toArray, List.map_cons, List.map_nil]); first | done | rfl | (simp only [List.length_drop, List.length_take]; rfl)) ?_; refine (LK.add (HLK.out.below (below_alloc (Below.refl _ _) _)) (some ⟨w209.heap.size, 0, none⟩) 1 [122] _ HGR.out (by omega) HLG2.out (C_const w209 [122] _ _ _ rfl (by decide)) (by decide) (by decide)).mono ?_; rintro e w216 ⟨rfl, hLK⟩; refine ⟨_, rfl, ?_⟩; rw [HNO.out.1]; rw [HNO.out.2.1, HNO.out.2.2] at hLK; have HLK' := Aside0.mk hLK; clear HLK hLK z0 z1 z2 z3; have HLK := HLK'; clear HLK'; obtain ⟨z0, z1, z2, z3⟩ := HLK.out.cells) | ((with_reducible refine gate_dst (N := 223) rfl ?_); (try (refine gate_guard (by rfl) ?_; dsimp only)); refine goesL_ (some 223) rfl rfl Try.func42 (by kernel_rfl) rfl #[.pointer (some ⟨gl2, 0, none⟩), .slice (some ⟨w216.heap.size, 0, none⟩) (s).length (grownCap w216 (s).length 0 5)] rfl (by (try simp only [List.map_toArray, List.map_cons, List.map_nil]); first | done | rfl | (simp only [List.length_drop, List.length_take]; rfl)) ?_; refine (LK.save (HLK.out.below (bytes_below (Below.refl _ _) (Nat.le_refl _) 5 (strOfNums (s)))) _ _ (s) _ HGR.out (by omega) HLG2.out (kbytes_C HSZR.out.1 (by omega) w216 _) (by omega)).mono ?_; rintro e w223 ⟨rfl, hLK⟩; refine ⟨_, rfl, ?_⟩; rw [show svE D1.restart (1 - Lg.side ⟨side, g, (R1).length, true⟩) (Lg.gen ⟨side, g, (R1).length, true⟩ + 1) (s) = 0 from HSV.out.1]; rw [HSV.out.2.1] at hLK; have HLK' := Aside0.mk hLK; clear HLK hLK z0 z1 z2 z3; have HLK := HLK'; clear HLK'; obtain ⟨z0, z1, z2, z3⟩ := HLK.out.cells))
                go_roundg (l.length - (i + 1))
                case measure => have := HK.out; omega
                case rel => exact ⟨i + 1, gl2, s, by go_num, rfl, rfl, by omega, ⟨by omega⟩, ⟨_, _, _, _, _, HLK.out.drop.norows, HSV.out.2.2, HSZR.out.norows, (svD_G HGR.out _ _ _).mono (by omega), Nat.zero_le _, Int.le_refl 0, by omega, by omega⟩⟩
      have j1 : (k == 1) = false := beq_eq_false_iff_ne.2 k1
      clear k1
      by_cases k2 : k = 2
      · as_aux_lemma =>
        subst k2
        clear j1 j3
        obtain ⟨D1, hD1⟩ : ∃ D', svD D (1 - side) (g + 1) b = D' := ⟨_, rfl⟩
        have HD1 := Aside0.mk hD1
        have HG1 := Aside0.mk (show D1.G (10 * (i : Int) + 3 + 3) by rw [← hD1]; exact svD_G HG.out _ _ _)
        have hlr : rows.length ≤ 50 := by omega
        obtain ⟨f, D2, L1, sd, gn, X, R, a1, a2, hP⟩ := path2 n HST.out HIB.out hb4 (by omega) hD1
        have HA := Aside0.mk (And.intro a1 a2)
        have HP := Aside0.mk hP
        obtain ⟨hT, hf10, hXR, hgn0, hgn1⟩ := hP.lk
        have HT := Aside0.mk hT
        have HTL := Aside0.mk hT.look
        have HOK := Aside0.mk (show decide (gn ≠ 0) = true from decide_eq_true (by omega))
        have HGR := Aside0.mk (show D2.G (10 * (i : Int) + 3 + 3) by rcases hP with ⟨_, e, _⟩ | ⟨_, e, _⟩; rw [e]; exact HG1.out; rw [e]; exact HG1.out.restart (by omega))
        have HXB := Aside0.mk (show IsB X ∧ X.length ≤ 40 by rcases hXR with ⟨e, _⟩ | ⟨e, _⟩; rw [e]; exact ⟨HSZ.out.1, HSZ.out.2.2.1⟩; rw [e]; exact ⟨HIB.out, hb4⟩)
        have HIR := Aside0.mk (show IsBs R by rcases hXR with ⟨_, e⟩ | ⟨_, e⟩; rw [e]; exact HSZ.out.2.1; rw [e]; exact IsBs.nil)
        have hRl : R.length ≤ 60 := by rcases hXR with ⟨_, e⟩ | ⟨_, e⟩; rw [e]; omega; rw [e]; exact Nat.zero_le _
        obtain ⟨bw, hbw⟩ : ∃ bw, decide (R = rows) = bw := ⟨_, rfl⟩
        have HW := Aside0.mk hbw
        clear a1 a2 hP hT hXR hbw hD1
        go_upto_if 81 with (first | ((with_reducible refine gate_dst (N := 70) rfl ?_); (try (refine gate_guard (by rfl) ?_; dsimp only)); refine goesL_ (some 70) rfl rfl Try.func42 (by kernel_rfl) rfl #[.pointer (some ⟨gl, 0, none⟩), .slice Ab b.length cb] rfl (by (try simp only [List.map_toArray, List.map_cons, List.map_nil]); first | done | rfl | (simp only [List.length_drop, List.length_take]; rfl)) ?_; refine (LK.save HLK.out Ab cb b _ HG.out (by omega) HLG.out (Kd.C_below HCB.out HLK.out.base) (by omega)).mono ?_; rintro e w70 ⟨rfl, hLK⟩; refine ⟨_, rfl, ?_⟩; rw [show svE D (1 - Lg.side ⟨side, g, n, false⟩) (Lg.gen ⟨side, g, n, false⟩ + 1) b = _ from HA.out.1]; rw [show svD D (1 - Lg.side ⟨side, g, n, false⟩) (Lg.gen ⟨side, g, n, false⟩ + 1) b = _ from HD1.out, HA.out.2] at hLK; have HLK' := Aside0.mk hLK; clear HLK hLK z0 z1 z2 z3; have HLK := HLK'; clear HLK'; obtain ⟨z0, z1, z2, z3⟩ := HLK.out.cells))
        go_cut [] (fun wx => Aside0 (LK wx w w.heap.size gl D2 L1 rows (.slice Ar rows.length cr) g8 #[.int .i64 2, .slice Ab b.length cb, .int .i64 t, .int .i64 kp] 74))
        case first => as_aux_lemma =>
          rcases HP.out with ⟨rfl, rfl, _⟩ | ⟨rfl, rfl, _⟩
          · go_wp2_with fail
            go_meet
            exact HLK
          · go_wp2_with (first | ((with_reducible refine gate_dst (N := 83) rfl ?_); (try (refine gate_guard (by rfl) ?_; dsimp only)); refine goesL_ (some 83) rfl rfl Try.func22 (by kernel_rfl) rfl #[.pointer (some ⟨w.heap.size, 0, none⟩)] rfl (by (try simp only [List.map_toArray, List.map_cons, List.map_nil]); first | done | rfl | (simp only [List.length_drop, List.length_take]; rfl)) ?_; refine (LK.restart HLK.out ⟨HG1.out.1, HG1.out.2.1⟩).mono ?_; rintro e w83 ⟨rfl, hLK⟩; refine ⟨_, rfl, ?_⟩; have HLK' := Aside0.mk hLK; clear HLK hLK z0 z1 z2 z3; have HLK := HLK'; clear HLK'; obtain ⟨z0, z1, z2, z3⟩ := HLK.out.cells))
            go_meet
            exact HLK
        case rest => as_aux_lemma =>
          have hLK := hcut.out
          have HLK' := Aside0.mk hLK; clear HLK hLK z0 z1 z2 z3; have HLK := HLK'; clear HLK'; obtain ⟨z0, z1, z2, z3⟩ := HLK.out.cells
          clear hcut
          go_upto_region 28 with (first | ((with_reducible refine gate_dst (N := 86) rfl ?_); (try (refine gate_guard (by rfl) ?_; dsimp only)); refine goesL_ (some 86) rfl rfl Try.func34 (by kernel_rfl) rfl #[.pointer (some ⟨w.heap.size, 0, none⟩)] rfl (by (try simp only [List.map_toArray, List.map_cons, List.map_nil]); first | done | rfl | (simp only [List.length_drop, List.length_take]; rfl)) ?_; refine (LK.look HLK.out (G_len HGR.out) HT.out.ib).mono ?_; rintro e w86 ⟨A1, c1, A2, c2, rfl, hx, hy, hbl⟩; refine ⟨_, rfl, ?_⟩; rw [HTL.out.2.2.1] at hx; rw [HTL.out.2.2.2] at hy; rw [HTL.out.1, HTL.out.2.1, HTL.out.2.2.1, HTL.out.2.2.2, HOK.out]; have hLK := HLK.out.below hbl; have HLK' := Aside0.mk hLK; clear HLK hLK z0 z1 z2 z3; have HLK := HLK'; clear HLK'; obtain ⟨z0, z1, z2, z3⟩ := HLK.out.cells; have hs1 := cstr (c := c1) hx; have hs2 := cstr (c := cb) (Kd.C_below HCB.out HLK.out.base); have HX := Aside0.mk hx; have HY := Aside0.mk hy; obtain ⟨q1, q2, q3, q4, q5⟩ := HLK.out.drop.rows_slice; cases q3; have HR2 := Aside0.mk q5; clear q4 q5; clear hx hy hbl))
          go_cut [18] (fun v18 wx => v18 = .bool (decide (X = s) && bw) ∧ Aside0 (LK wx w w.heap.size gl D2 L1 rows (.slice Ar rows.length cr) g8 #[.int .i64 2, .slice Ab b.length cb, .int .i64 t, .int .i64 kp] 74) ∧ Aside0 (Kd.C (Kd.int .u8) wx A1 X.length X))
          case first => as_aux_lemma =>
            by_cases hx : X = s
            · have hq : ((strOfNums X).toList == (strOfNums s).toList) = true := by rw [hx]; exact str_eq s
              have HQ := Aside0.mk hx
              clear hx
              go_wp2_with (first | ((with_reducible refine gate_dst (N := 102) rfl ?_); (try (refine gate_guard (by rfl) ?_; dsimp only)); refine goesL_ (some 102) rfl rfl Try.func39 (by kernel_rfl) rfl #[.slice A2 R.length c2, .slice Ar rows.length cr] rfl (by (try simp only [List.map_toArray, List.map_cons, List.map_nil]); first | done | rfl | (simp only [List.length_drop, List.length_take]; rfl)) ?_; refine (same5 A2 c2 R Ar cr rows _ HY.out HR2.out HIR.out HSZ.out.2.1 (by omega)).mono ?_; rintro e w102 ⟨rfl, hdr⟩; refine ⟨_, rfl, ?_⟩; rw [HW.out]; have hLK := HLK.out.below hdr.below; have HLK' := Aside0.mk hLK; clear HLK hLK z0 z1 z2 z3; have HLK := HLK'; clear HLK'; obtain ⟨z0, z1, z2, z3⟩ := HLK.out.cells; have HX' := Aside0.mk (Kd.C_below HX.out hdr.below); have HY' := Aside0.mk (Kd.C_below HY.out hdr.below); clear HX HY hs1 hs2 HR2; have HX := HX'; have HY := HY'; clear HX' HY'; have hs1 := cstr (c := c1) HX.out; have hs2 := cstr (c := cb) (Kd.C_below HCB.out HLK.out.base); clear hdr))
              go_meet
              exact ⟨by rw [decide_eq_true HQ.out]; rfl, HLK, HX⟩
            · have hq : ((strOfNums X).toList == (strOfNums s).toList) = false := str_ne HXB.out.1 HSZ.out.1 hx
              have HQ := Aside0.mk hx
              clear hx
              go_wp2_with fail
              go_meet
              exact ⟨by rw [decide_eq_false HQ.out]; rfl, HLK, HX⟩
          case rest => as_aux_lemma =>
            clear hs1 hs2 HX HY HR2
            obtain ⟨rfl, hLK, HX⟩ := hcut
            have hLK := hLK.out
            have HLK' := Aside0.mk hLK; clear HLK hLK z0 z1 z2 z3; have HLK := HLK'; clear HLK'; obtain ⟨z0, z1, z2, z3⟩ := HLK.out.cells
            have hs1 := cstr (c := c1) HX.out
            have hs2 := cstr (c := cb) (Kd.C_below HCB.out HLK.out.base)
            obtain ⟨bz, hbz⟩ : ∃ bz, ((R.length : Int) == 0) = bz := ⟨_, rfl⟩
            have HZ := Aside0.mk hbz
            go_upto_region 29 with fail
            go_cut [19] (fun v19 wx => v19 = .bool (decide (X = b) && bz) ∧ Aside0 (LK wx w w.heap.size gl D2 L1 rows (.slice Ar rows.length cr) g8 #[.int .i64 2, .slice Ab b.length cb, .int .i64 t, .int .i64 kp] 74))
            case first => as_aux_lemma =>
              by_cases hx : X = b
              · have hq : ((strOfNums X).toList == (strOfNums b).toList) = true := by rw [hx]; exact str_eq b
                have HQ := Aside0.mk hx
                clear hx
                go_wp2_with fail
                go_meet
                exact ⟨by rw [decide_eq_true HQ.out]; rfl, HLK⟩
              · have hq : ((strOfNums X).toList == (strOfNums b).toList) = false := str_ne HXB.out.1 HIB.out hx
                have HQ := Aside0.mk hx
                clear hx
                go_wp2_with fail
                go_meet
                exact ⟨by rw [decide_eq_false HQ.out]; rfl, HLK⟩
            case rest => as_aux_lemma =>
              clear hs1 hs2 HX hbz
              obtain ⟨rfl, hLK⟩ := hcut
              by_cases hx : X = b ∧ R = []
              · have e1 : (decide (X = b) && bz) = true := by rw [decide_eq_true hx.1, ← HZ.out, hx.2]; rfl
                generalize (decide (X = b) && bz) = is at *
                generalize (decide (X = s) && bw) = was at *
                subst e1
                have hLK := hLK.out.norows
                have HLK' := Aside0.mk hLK; clear HLK hLK z0 z1 z2 z3; have HLK := HLK'; clear HLK'; obtain ⟨z0, z1, z2, z3⟩ := HLK.out.cells
                have hsb := cstr (c := cb) (Kd.C_below HCB.out HLK.out.base)
                rcases HP.out with ⟨rfl, rfl, rfl, _, _, _, _, hS⟩ | ⟨rfl, rfl, rfl, hT2, _⟩
                · as_aux_lemma =>
                  have HS2 := Aside0.mk hS
                  clear hS hx HP
                  go_wp2_with fail
                  go_roundg (l.length - (i + 1))
                  case measure => have := HK.out; omega
                  case rel => exact ⟨i + 1, gl, b, by go_num, rfl, rfl, by omega, ⟨by omega⟩, ⟨_, _, _, _, _, HLK.out.drop, HS2.out, Sz.nil HIB.out hb4, HGR.out.mono (by omega), Nat.zero_le _, Int.le_refl 0, by omega, by omega⟩⟩
                · as_aux_lemma =>
                  rw [hx.1] at hT2
                  have HRN := Aside0.mk (show decide (R = []) = true from decide_eq_true hx.2)
                  have HSZR := Aside0.mk (show Sz b R by rw [hx.2]; exact Sz.nil HIB.out hb4)
                  clear HT HTL HP hx HOK
                  have HT := Aside0.mk hT2
                  have HTL := Aside0.mk hT2.look
                  clear hT2
                  have HKG := Aside0.mk (show lkG D1.restart ≠ 0 by rw [HTL.out.1]; omega)
                  have HLG2 := Aside0.mk (show Lg.G ⟨sd, gn, ((R).length : Nat), true⟩ 900000 from ⟨HT.out.side01, HT.out.gb.1, HT.out.gb.2, show (0 : Int) ≤ ((R).length : Int) by omega, show ((R).length : Int) ≤ 900000 by omega⟩)
                  have HNO := Aside0.mk (ad_no (D := D1.restart) (L := ⟨sd, gn, ((R).length : Nat), true⟩) (row := [122]) (show (recok [122] && !true) = false from Bool.and_false _))
                  have HSV := Aside0.mk (save_calm ((R).length : Nat) true HT.out HSZR.out.1 HSZR.out.2.2.1 (by omega))
                  have hSl : (b).length ≤ 40 := HSZR.out.2.2.1
                  have kb := kbytes HSZR.out.1
                  go_wp2_with (first | ((with_reducible refine gate_dst (N := 189) rfl ?_); (try (refine gate_guard (by rfl) ?_; dsimp only)); refine goesL_ (some 189) rfl rfl Try.func37 (by kernel_rfl) rfl #[.pointer (some ⟨w.heap.size, 0, none⟩), .slice none 0 0] rfl (by (try simp only [List.map_toArray, List.map_cons, List.map_nil]); first | done | rfl | (simp only [List.length_drop, List.length_take]; rfl)) ?_; refine (LK.open HLK.out _ HT.out.ib HGR.out (by omega) HKG.out).mono ?_; rintro e w189 ⟨gl2, A3, c3, A4, c4, rfl, hLK, hx, hy⟩; refine ⟨_, rfl, ?_⟩; rw [HTL.out.2.2.1] at hx; rw [HTL.out.2.2.2] at hy; rw [HTL.out.1, HTL.out.2.1, HTL.out.2.2.2] at hLK; rw [HTL.out.2.2.1, HTL.out.2.2.2]; have HLK' := Aside0.mk hLK; clear HLK hLK z0 z1 z2 z3; have HLK := HLK'; clear HLK'; obtain ⟨z0, z1, z2, z3⟩ := HLK.out.cells; have hs3 := cstr (c := c3) hx; have HY3 := Aside0.mk hy; clear hx hy) | ((with_reducible refine gate_dst (N := 209) rfl ?_); (try (refine gate_guard (by rfl) ?_; dsimp only)); refine goesL_ (some 209) rfl rfl Try.func39 (by kernel_rfl) rfl #[.slice A4 (R).length c4, .slice none 0 0] rfl (by (try simp only [List.map_toArray, List.map_cons, List.map_nil]); first | done | rfl | (simp only [List.length_drop, List.length_take]; rfl)) ?_; refine (same5 A4 c4 (R) none 0 [] _ HY3.out (Kd.C_nil _ _) HSZR.out.2.1 IsBs.nil (by omega)).mono ?_; rintro e w209 ⟨rfl, hdr⟩; refine ⟨_, rfl, ?_⟩; rw [HRN.out]; have hLK := HLK.out.below hdr.below; have HLK' := Aside0.mk hLK; clear HLK hLK z0 z1 z2 z3; have HLK := HLK'; clear HLK'; obtain ⟨z0, z1, z2, z3⟩ := HLK.out.cells; clear hdr HY3) | ((with_reducible refine gate_dst (N := 216) rfl ?_); (try (refine gate_guard (by rfl) ?_; dsimp only)); refine goesL_ (some 216) rfl rfl Try.func40 (by kernel_rfl) rfl #[.pointer (some ⟨gl2, 0, none⟩), .slice (some ⟨w209.heap.size, 0, none⟩) 1 1] rfl (by (try simp only [List.map_toArray, List.map_cons, List.map_nil]); first | done | rfl | (simp only [List.length_drop, List.length_take]; rfl)) ?_; refine (LK.add (HLK.out.below (below_alloc (Below.refl _ _) _)) (some ⟨w209.heap.size, 0, none⟩) 1 [122] _ HGR.out (by omega) HLG2.out (C_const w209 [122] _ _ _ rfl (by decide)) (by decide) (by decide)).mono ?_; rintro e w216 ⟨rfl, hLK⟩; refine ⟨_, rfl, ?_⟩; rw [HNO.out.1]; rw [HNO.out.2.1, HNO.out.2.2] at hLK; have HLK' := Aside0.mk hLK; clear HLK hLK z0 z1 z2 z3; have HLK := HLK'; clear HLK'; obtain ⟨z0, z1, z2, z3⟩ := HLK.out.cells) | ((with_reducible refine gate_dst (N := 223) rfl ?_); (try (refine gate_guard (by rfl) ?_; dsimp only)); refine goesL_ (some 223) rfl rfl Try.func42 (by kernel_rfl) rfl #[.pointer (some ⟨gl2, 0, none⟩), .slice (some ⟨w216.heap.size, 0, none⟩) (b).length (grownCap w216 (b).length 0 5)] rfl (by (try simp only [List.map_toArray, List.map_cons, List.map_nil]); first | done | rfl | (simp only [List.length_drop, List.length_take]; rfl)) ?_; refine (LK.save (HLK.out.below (bytes_below (Below.refl _ _) (Nat.le_refl _) 5 (strOfNums (b)))) _ _ (b) _ HGR.out (by omega) HLG2.out (kbytes_C HSZR.out.1 (by omega) w216 _) (by omega)).mono ?_; rintro e w223 ⟨rfl, hLK⟩; refine ⟨_, rfl, ?_⟩; rw [show svE D1.restart (1 - Lg.side ⟨sd, gn, (R).length, true⟩) (Lg.gen ⟨sd, gn, (R).length, true⟩ + 1) (b) = 0 from HSV.out.1]; rw [HSV.out.2.1] at hLK; have HLK' := Aside0.mk hLK; clear HLK hLK z0 z1 z2 z3; have HLK := HLK'; clear HLK'; obtain ⟨z0, z1, z2, z3⟩ := HLK.out.cells))
                  go_roundg (l.length - (i + 1))
                  case measure => have := HK.out; omega
                  case rel => exact ⟨i + 1, gl2, b, by go_num, rfl, rfl, by omega, ⟨by omega⟩, ⟨_, _, _, _, _, HLK.out.drop.norows, HSV.out.2.2, HSZR.out.norows, (svD_G HGR.out _ _ _).mono (by omega), Nat.zero_le _, Int.le_refl 0, by omega, by omega⟩⟩
              · rcases HP.out with ⟨_, _, _, _, _, e1, e2, _⟩ | ⟨rfl, rfl, rfl, hT2, ⟨e1, e2, e3, e4⟩ | ⟨e1, e2, _, _⟩⟩
                · exact absurd ⟨e1, e2⟩ hx
                · as_aux_lemma =>
                  have h1 : (decide (X = b) && bz) = false := by
                    by_cases h : X = b
                    · rw [decide_eq_true h, ← HZ.out]; exact beq_eq_false_iff_ne.2 (fun h0 => hx ⟨h, List.length_eq_zero_iff.1 (by omega)⟩)
                    · rw [decide_eq_false h]; rfl
                  have h2 : (decide (X = s) && bw) = true := by rw [decide_eq_true e1, ← HW.out, decide_eq_true e2]; rfl
                  generalize (decide (X = b) && bz) = is at *
                  generalize (decide (X = s) && bw) = was at *
                  subst h1 h2
                  rw [e1, e2, e3, e4] at hT2
                  have hLK := hLK.out
                  have HLK' := Aside0.mk hLK; clear HLK hLK z0 z1 z2 z3; have HLK := HLK'; clear HLK'; obtain ⟨z0, z1, z2, z3⟩ := HLK.out.cells
                  clear HT HTL HP hx HOK e1 e2 e3 e4
                  have HT := Aside0.mk hT2
                  have HTL := Aside0.mk hT2.look
                  have HSZR := HSZ
                  clear hT2
                  have HKG := Aside0.mk (show lkG D1.restart ≠ 0 by rw [HTL.out.1]; omega)
                  have HLG2 := Aside0.mk (show Lg.G ⟨side, g, ((rows).length : Nat), true⟩ 900000 from ⟨HT.out.side01, HT.out.gb.1, HT.out.gb.2, show (0 : Int) ≤ ((rows).length : Int) by omega, show ((rows).length : Int) ≤ 900000 by omega⟩)
                  have HNO := Aside0.mk (ad_no (D := D1.restart) (L := ⟨side, g, ((rows).length : Nat), true⟩) (row := [122]) (show (recok [122] && !true) = false from Bool.and_false _))
                  have HSV := Aside0.mk (save_calm ((rows).length : Nat) true HT.out HSZR.out.1 HSZR.out.2.2.1 (by omega))
                  have hSl : (s).length ≤ 40 := HSZR.out.2.2.1
                  have kb := kbytes HSZR.out.1
                  go_wp2_with (first | ((with_reducible refine gate_dst (N := 189) rfl ?_); (try (refine gate_guard (by rfl) ?_; dsimp only)); refine goesL_ (some 189) rfl rfl Try.func37 (by kernel_rfl) rfl #[.pointer (some ⟨w.heap.size, 0, none⟩), .slice none 0 0] rfl (by (try simp only [List.map_toArray, List.map_cons, List.map_nil]); first | done | rfl | (simp only [List.length_drop, List.length_take]; rfl)) ?_; refine (LK.open HLK.out _ HT.out.ib HGR.out (by omega) HKG.out).mono ?_; rintro e w189 ⟨gl2, A3, c3, A4, c4, rfl, hLK, hx, hy⟩; refine ⟨_, rfl, ?_⟩; rw [HTL.out.2.2.1] at hx; rw [HTL.out.2.2.2] at hy; rw [HTL.out.1, HTL.out.2.1, HTL.out.2.2.2] at hLK; rw [HTL.out.2.2.1, HTL.out.2.2.2]; have HLK' := Aside0.mk hLK; clear HLK hLK z0 z1 z2 z3; have HLK := HLK'; clear HLK'; obtain ⟨z0, z1, z2, z3⟩ := HLK.out.cells; have hs3 := cstr (c := c3) hx; have HY3 := Aside0.mk hy; obtain ⟨q1, q2, q3, q4, q5⟩ := HLK.out.drop.rows_slice; cases q3; have HR2 := Aside0.mk q5; clear q4 q5; clear hx hy) | ((with_reducible refine gate_dst (N := 209) rfl ?_); (try (refine gate_guard (by rfl) ?_; dsimp only)); refine goesL_ (some 209) rfl rfl Try.func39 (by kernel_rfl) rfl #[.slice A4 (rows).length c4, .slice Ar rows.length cr] rfl (by (try simp only [List.map_toArray, List.map_cons, List.map_nil]); first | done | rfl | (simp only [List.length_drop, List.length_take]; rfl)) ?_; refine (same5 A4 c4 (rows) _ _ (rows) _ HY3.out HR2.out HSZR.out.2.1 HSZR.out.2.1 (by omega)).mono ?_; rintro e w209 ⟨rfl, hdr⟩; refine ⟨_, rfl, ?_⟩; rw [decide_eq_true (rfl : (rows) = (rows))]; have hLK := HLK.out.below hdr.below; have HLK' := Aside0.mk hLK; clear HLK hLK z0 z1 z2 z3; have HLK := HLK'; clear HLK'; obtain ⟨z0, z1, z2, z3⟩ := HLK.out.cells; clear hdr HY3 HR2) | ((with_reducible refine gate_dst (N := 216) rfl ?_); (try (refine gate_guard (by rfl) ?_; dsimp only)); refine goesL_ (some 216) rfl rfl Try.func40 (by kernel_rfl) rfl #[.pointer (some ⟨gl2, 0, none⟩), .slice (some ⟨w209.heap.size, 0, none⟩) 1 1] rfl (by (try simp only [List.map_toArray, List.map_cons, List.map_nil]); first | done | rfl | (simp only [List.length_drop, List.length_take]; rfl)) ?_; refine (LK.add (HLK.out.below (below_alloc (Below.refl _ _) _)) (some ⟨w209.heap.size, 0, none⟩) 1 [122] _ HGR.out (by omega) HLG2.out (C_const w209 [122] _ _ _ rfl (by decide)) (by decide) (by decide)).mono ?_; rintro e w216 ⟨rfl, hLK⟩; refine ⟨_, rfl, ?_⟩; rw [HNO.out.1]; rw [HNO.out.2.1, HNO.out.2.2] at hLK; have HLK' := Aside0.mk hLK; clear HLK hLK z0 z1 z2 z3; have HLK := HLK'; clear HLK'; obtain ⟨z0, z1, z2, z3⟩ := HLK.out.cells) | ((with_reducible refine gate_dst (N := 223) rfl ?_); (try (refine gate_guard (by rfl) ?_; dsimp only)); refine goesL_ (some 223) rfl rfl Try.func42 (by kernel_rfl) rfl #[.pointer (some ⟨gl2, 0, none⟩), .slice (some ⟨w216.heap.size, 0, none⟩) (s).length (grownCap w216 (s).length 0 5)] rfl (by (try simp only [List.map_toArray, List.map_cons, List.map_nil]); first | done | rfl | (simp only [List.length_drop, List.length_take]; rfl)) ?_; refine (LK.save (HLK.out.below (bytes_below (Below.refl _ _) (Nat.le_refl _) 5 (strOfNums (s)))) _ _ (s) _ HGR.out (by omega) HLG2.out (kbytes_C HSZR.out.1 (by omega) w216 _) (by omega)).mono ?_; rintro e w223 ⟨rfl, hLK⟩; refine ⟨_, rfl, ?_⟩; rw [show svE D1.restart (1 - Lg.side ⟨side, g, (rows).length, true⟩) (Lg.gen ⟨side, g, (rows).length, true⟩ + 1) (s) = 0 from HSV.out.1]; rw [HSV.out.2.1] at hLK; have HLK' := Aside0.mk hLK; clear HLK hLK z0 z1 z2 z3; have HLK := HLK'; clear HLK'; obtain ⟨z0, z1, z2, z3⟩ := HLK.out.cells))
                  go_roundg (l.length - (i + 1))
                  case measure => have := HK.out; omega
                  case rel => exact ⟨i + 1, gl2, s, by go_num, rfl, rfl, by omega, ⟨by omega⟩, ⟨_, _, _, _, _, HLK.out.drop.norows, HSV.out.2.2, HSZR.out.norows, (svD_G HGR.out _ _ _).mono (by omega), Nat.zero_le _, Int.le_refl 0, by omega, by omega⟩⟩
                · exact absurd ⟨e1, e2⟩ hx
      have j2 : (k == 2) = false := beq_eq_false_iff_ne.2 k2
      clear k2
      go_wp2_with fail
      go_roundg (l.length - (i + 1))
      case measure => have := HK.out; omega
      case rel => exact ⟨i + 1, gl, s, by go_num, rfl, rfl, by omega, ⟨by omega⟩, ⟨_, _, _, _, _, HLK.out.drop, HST.out, HSZ.out, HG.out.mono (by omega), by omega, hn0, by omega, by omega⟩⟩

    · have cib : decide ((i : Int) < (l.length : Int)) = false := decide_eq_false (by omega)
      have cibn : decide (i < l.length) = false := decide_eq_false ci
      clear hLT hST hSZ hG
      go_wp2_with (first | ((with_reducible refine gate_dst (N := 227) rfl ?_); (try (refine gate_guard (by rfl) ?_; dsimp only)); refine goesL_ (some 227) rfl rfl Try.func35 (by kernel_rfl) rfl #[] rfl (by (try simp only [List.map_toArray, List.map_cons, List.map_nil]); first | done | rfl | (simp only [List.length_drop, List.length_take]; rfl)) ?_; refine (known6 _).mono ?_; rintro e wk ⟨rfl, hbl⟩; refine ⟨_, rfl, ?_⟩; have HBK := Aside0.mk (below_step HLT.out.base hbl); clear hbl))
      go_ret
      exact ⟨rfl, HBK.out⟩
end Go.Proofs.Ythaeppjhmjpecaa.B

