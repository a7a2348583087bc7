/- TapePlays: the walk. -/
import Derived.Test.YthaeppjhmjpecaaV1
import Derived.Test.YthaeppjhmjpecaaOpenA
import Derived.Deep.RegionHeld
import Derived.Deep.DeepCutAuto
import Derived.Outline
import Derived.Deep.DeepMust
namespace Go.Proofs.Ythaeppjhmjpecaa.B
open Go.RowKit Go.Proofs.YthaeppjhmjpecaaW.PrintWords Go.Proofs.YthaeppjhmjpecaaW.PrintLast Go.Proofs.YthaeppjhmjpecaaW.PrintMore
attribute [local go_sem] max2_int min2_int max_two min_two max_three min_three max_four min_four
set_option linter.unusedVariables false
set_option linter.unusedSimpArgs false
set_option maxRecDepth 100000 in
set_option maxHeartbeats 4000000 in
theorem lawTPlays_no (room : Int) (A : Option Addr) (c : Nat) (l : List ActR) (w : World) (hn : room < 0 ∨ 200000 < room) (hl : l.length ≤ 80) :
    Calls Try.prog 7 #[.int .i64 room, .slice A l.length c] w fun e w' => e = .returned (.bool true) ∧ Below w.heap.size w w' := by
  have HB := Aside0.mk (Below.refl w.heap.size w)
  have HN := Aside0.mk hn
  have h1 : decide (80 < (l.length : Int)) = false := decide_eq_false (by omega)
  have h1n : decide (80 < l.length) = false := decide_eq_false (by omega)
  clear hn
  go_enter Try.func7, Try.ntmps7
  go_wp2_with (first | ((with_reducible refine gate_dst (N := 14) rfl ?_); (try (refine gate_guard (by rfl) ?_; dsimp only)); refine goesL_ (some 14) rfl rfl Try.func14 (by kernel_rfl) rfl #[.int .i64 room] rfl (by (try simp only [List.map_toArray, List.map_cons, List.map_nil]); first | done | rfl | (simp only [List.length_drop, List.length_take]; rfl)) ?_; refine (tnew0 room _ HN.out).mono ?_; rintro e w1 ⟨rfl, hbl⟩; refine ⟨_, rfl, ?_⟩; have HB_ := Aside0.mk (below_step HB.out hbl); clear HB; have HB := HB_; clear HB_; clear hbl) | ((with_reducible refine gate_dst (N := 16) rfl ?_); (try (refine gate_guard (by rfl) ?_; dsimp only)); refine goesL_ (some 16) rfl rfl Try.func24 (by kernel_rfl) rfl #[.int .i64 room] rfl (by (try simp only [List.map_toArray, List.map_cons, List.map_nil]); first | done | rfl | (simp only [List.length_drop, List.length_take]; rfl)) ?_; refine (xnew0 room _ HN.out).mono ?_; rintro e w2 ⟨rfl, hbl⟩; refine ⟨_, rfl, ?_⟩; have HB_ := Aside0.mk (below_step HB.out hbl); clear HB; have HB := HB_; clear HB_; clear hbl))
  refine wp_loop_rounds 1 ?_
  rw [rounds_succ]
  go_wp2_with (first | ((with_reducible refine gate_dst (N := 141) rfl ?_); (try (refine gate_guard (by rfl) ?_; dsimp only)); refine goesL_ (some 141) rfl rfl Try.func17 (by kernel_rfl) rfl #[] rfl (by (try simp only [List.map_toArray, List.map_cons, List.map_nil]); first | done | rfl | (simp only [List.length_drop, List.length_take]; rfl)) ?_; refine (known4 _).mono ?_; rintro e w3 ⟨rfl, hbl⟩; refine ⟨_, rfl, ?_⟩; have HB_ := Aside0.mk (below_step HB.out hbl); clear HB; have HB := HB_; clear HB_; clear hbl))
  go_ret
  exact ⟨rfl, HB.out⟩
theorem Dk.app_room (D : Dk) (side : Int) (l : List Int) : (D.app side l).room = D.room := by
  rcases D.app_cases side l with e | e | ⟨e, _⟩ | ⟨e, _⟩ <;> rw [e] <;> rfl
theorem Dk.sync_room (D : Dk) : D.sync.room = D.room := by
  rcases D.sync_cases with e | e | e <;> rw [e] <;> rfl
theorem Dk.wipe_room (D : Dk) (side : Int) : (D.wipe side).room = D.room := by
  rcases D.wipe_cases side with e | e | ⟨_, e⟩ | ⟨_, e⟩ <;> rw [e] <;> rfl
theorem cells5 (w : World) (a b c d e : Value) (t : Nat) : (w.alloc (.cells #[a, b, c, d, e] t)).cell? ⟨w.heap.size, 1, none⟩ = some b ∧ (w.alloc (.cells #[a, b, c, d, e] t)).cell? ⟨w.heap.size, 2, none⟩ = some c ∧ (w.alloc (.cells #[a, b, c, d, e] t)).cell? ⟨w.heap.size, 3, none⟩ = some d ∧ (w.alloc (.cells #[a, b, c, d, e] t)).cell? ⟨w.heap.size, 4, none⟩ = some e ∧ w.heap.size < (w.alloc (.cells #[a, b, c, d, e] t)).heap.size :=
  ⟨blk_cell (blk_new w _) 1, blk_cell (blk_new w _) 2, blk_cell (blk_new w _) 3, blk_cell (blk_new w _) 4, by simp⟩
set_option maxRecDepth 100000 in
set_option maxHeartbeats 4000000 in
theorem lawTPlays_yes (r : Nat) (A : Option Addr) (c : Nat) (l : List ActR) (w : World) (hr : r ≤ 200000) (hl : l.length ≤ 80) (hac : ActsC w A l) :
    Calls Try.prog 7 #[.int .i64 (r : Int), .slice A l.length c] w fun e w' => e = .returned (.bool true) ∧ Below w.heap.size w w' := by
  have HB := Aside0.mk (Below.refl w.heap.size w)
  have HAC := Aside0.mk hac
  have h1 : decide (80 < (l.length : Int)) = false := decide_eq_false (by omega)
  have h1n : decide (80 < l.length) = false := decide_eq_false (by omega)
  clear hac
  go_enter Try.func7, Try.ntmps7
  go_wp2_with (first | ((with_reducible refine gate_dst (N := 14) rfl ?_); (try (refine gate_guard (by rfl) ?_; dsimp only)); refine goesL_ (some 14) rfl rfl Try.func14 (by kernel_rfl) rfl #[.int .i64 (r : Int)] rfl (by (try simp only [List.map_toArray, List.map_cons, List.map_nil]); first | done | rfl | (simp only [List.length_drop, List.length_take]; rfl)) ?_; refine (tnew (r : Int) _ (by omega) (by omega) (fun k => k = w.heap.size) rfl).mono ?_; rintro e w1 ⟨rfl, hD, hbl⟩; refine ⟨_, rfl, ?_⟩; have HD := Aside0.mk hD; have HB1 := Aside0.mk (below_step HB.out hbl); clear HB hbl hD) | ((with_reducible refine gate_dst (N := 16) rfl ?_); (try (refine gate_guard (by rfl) ?_; dsimp only)); refine goesL_ (some 16) rfl rfl Try.func24 (by kernel_rfl) rfl #[.int .i64 (r : Int)] rfl (by (try simp only [List.map_toArray, List.map_cons, List.map_nil]); first | done | rfl | (simp only [List.length_drop, List.length_take]; rfl)) ?_; refine (xnew (r : Int) _ (by omega) (by omega) (fun k => k = w1.heap.size) rfl).mono ?_; rintro e w2 ⟨rfl, hX, hbl⟩; refine ⟨_, rfl, ?_⟩; have HB := Aside0.mk (below_step HB1.out hbl); have HDU := Aside0.mk (show Duo w2 w.heap.size w.heap.size w1.heap.size (fun _ => False) ⟨r, [], 0, [], 0, 0, 0, false, false, 0⟩ ⟨r, [], 0, [], 0, 0, 0, false, false, 0⟩ from ⟨_, _, HD.out.below hbl, hX, fun k h1 h2 => by have := HD.out.lt; omega, fun k hk => by have := (HD.out.below hbl).lt; subst hk; exact ⟨Nat.le_refl _, this, id⟩, fun k hk => by have := hX.lt; have := HB1.out.size; subst hk; exact ⟨this, by assumption, id⟩⟩); clear HD hX hbl HB1))
  go_loopg [7] l.length (fun kq v7 w' => ∃ i : Nat, v7 = .int .i64 (i : Int) ∧ i ≤ l.length ∧ Aside0 (kq + i = l.length) ∧ Aside0 (∃ D : Dk, Duo w' w.heap.size w.heap.size w1.heap.size (fun _ => False) D D ∧ D.G (i : Int) ∧ D.room = r) ∧ Aside0 (Below w.heap.size w w'))
  case atStart => exact ⟨0, rfl, Nat.zero_le _, ⟨rfl⟩, ⟨_, HDU.out, ⟨Nat.le_refl _, Nat.le_refl _, show (0 : Int) ≤ r by omega, show (0 : Int) ≤ r by omega, show (r : Int) ≤ 200000 by omega, Int.le_refl _, Int.le_refl _, show (-9223372036854775808 : Int) ≤ 0 by decide, show (0 : Int) < 9223372036854775808 by decide⟩, rfl⟩, HB⟩
  case round =>
    clear HDU HB
    obtain ⟨i, rfl, hi, HK, ⟨D, hD, hG, hroom⟩, HB⟩ := hrel
    have HD := Aside0.mk hD
    have HG := Aside0.mk hG
    have HRO := Aside0.mk hroom
    clear hD hG hroom
    by_cases ci : i < l.length
    · have cb : decide ((i : Int) < (l.length : Int)) = true := decide_eq_true (by exact_mod_cast ci)
      obtain ⟨ad, eA, hacts⟩ := HAC.out (by omega)
      cases eA
      obtain ⟨cs, ⟨Ab, cb', ecs, hbc, hbC, hbI, hk, hs, ht, hkp⟩, hcell⟩ := hacts i _ (List.getElem?_eq_getElem ci)
      subst ecs
      generalize l[i] = r' at *
      obtain ⟨rk, rs, rb, rt, rkp⟩ := r'
      simp only at hcell hbc hbC hbI hk hs ht hkp
      have y0 := pw_cell_below HB.out (hcell 0 _ rfl)
      have y1 := pw_cell_below HB.out (hcell 1 _ rfl)
      have y2 := pw_cell_below HB.out (hcell 2 _ rfl)
      have y3 := pw_cell_below HB.out (hcell 3 _ rfl)
      have y4 := pw_cell_below HB.out (hcell 4 _ rfl)
      rw [Addr.add_zero'] at y0
      rw [add_add, add_field _ _ _ (by decide)] at y1 y2 y3 y4
      clear hacts hcell
      by_cases c3 : 300 < rb.length
      · have h3 : decide (300 < (rb.length : Int)) = true := decide_eq_true (by omega)
        have h3n : decide (300 < rb.length) = true := decide_eq_true c3
        clear c3
        go_wp2
        go_ret
        exact ⟨rfl, below_alloc HB.out _⟩
      have hr3 : rb.length ≤ 300 := by omega
      have h3 : decide (300 < (rb.length : Int)) = false := decide_eq_false (by omega)
      have h3n : decide (300 < rb.length) = false := decide_eq_false c3
      go_upto_block 2 with fail
      have HD1 := Aside0.mk ((HD.out.keep (K' := fun k => k = wr.heap.size) (fun k h e => by omega)).below (below_alloc (Below.refl _ _) (.cells #[.int .i64 rk, .int .i64 rs, .slice Ab rb.length cb', .int .i64 rt, .int .i64 rkp] 44)))
      have HB1 := Aside0.mk (below_alloc HB.out (.cells #[.int .i64 rk, .int .i64 rs, .slice Ab rb.length cb', .int .i64 rt, .int .i64 rkp] 44))
      have z := cells5 wr (.int .i64 rk) (.int .i64 rs) (.slice Ab rb.length cb') (.int .i64 rt) (.int .i64 rkp) 44
      have HBs := Aside0.mk (show w.heap.size ≤ wr.heap.size from HB.out.size)
      generalize wr.alloc (.cells #[.int .i64 rk, .int .i64 rs, .slice Ab rb.length cb', .int .i64 rt, .int .i64 rkp] 44) = W at *
      generalize hg8 : wr.heap.size = g8 at *
      have HG8 := Aside0.mk hg8
      obtain ⟨z1, z2, z3, z4, zl⟩ := z
      clear y0 y1 y2 y3 y4 hg8 HD HB c3 h3 h3n
      have HZL := Aside0.mk zl
      clear zl
      go_cut [9] (fun v9 wx => v9 = .bool true ∧ Aside0 (∃ D' : Dk, Duo wx w.heap.size w.heap.size w1.heap.size (fun _ => False) D' D' ∧ D'.G ((i : Int) + 1) ∧ D'.room = r) ∧ Aside0 (Below w.heap.size w wx))
      case first => as_aux_lemma =>
        have HW := Aside0.mk (HG.out.wf (show (i : Int) < 1000000 by omega))
        have HKL := Aside0.mk (show ∀ k, k = g8 → k < W.drew.heap.size from fun k e => by rw [e]; exact HZL.out)
        have HAB := Aside0.mk (show ∀ ad, Ab = some ad → 0 < rb.length → ad.block < w.heap.size from C_block hbC)
        have HDr := Aside0.mk (HD1.out.below (below_drew (Below.refl _ _)))
        have HBr := Aside0.mk (below_drew HB1.out)
        have HCr := Aside0.mk (Kd.C_below hbC HBr.out)
        have HC0 := Aside0.mk hbC
        have HKP := Aside0.mk hkp
        have hlr : rb.length ≤ 140737488351232 := by omega
        clear hbC hk hs ht hkp
        by_cases k1 : rk = 1
        · as_aux_lemma =>
          subst k1
          go_wp2_with fail
          go_region_held (fun w' => w'.cell? ⟨g8, 1, none⟩ = some (.int .i64 rs) ∧ w'.cell? ⟨g8, 2, none⟩ = some (.slice Ab rb.length cb')) (first | exact ⟨z1, z2⟩ | exact ⟨HL1.out.cell rfl z1, HL1.out.cell rfl z2⟩ | exact ⟨HL2.out.cell rfl (HL1.out.cell rfl z1), HL2.out.cell rfl (HL1.out.cell rfl z2)⟩)
            (first | (go_at_call 15; (with_reducible refine (Duo.app1 HDr.out HBr.out.size HKL.out rs Ab cb' rb HCr.out hlr HAB.out HW.out).mono ?_); rintro e wA ⟨rfl, hd, hL⟩; have HD2 := Aside0.mk hd; have HL1 := Aside0.mk hL; clear hd hL; have HBA := Aside0.mk (HBr.out.trans HL1.out.below); have HCA := Aside0.mk (Kd.C_below HC0.out HBA.out)) | (go_at_call 25; go_must (with_reducible refine (Duo.app2 HD2.out HBA.out.size (fun k e => Nat.lt_of_lt_of_le (HKL.out k e) HL1.out.below.size) rs Ab cb' rb HCA.out hlr HAB.out HW.out).mono ?_); rintro e wC ⟨rfl, hd, hL⟩; have HD3 := Aside0.mk hd; have HL2 := Aside0.mk hL; clear hd hL))
          go_wp2_with fail
          go_meet
          exact ⟨rfl, ⟨_, HD3.out.keep (fun k _ e => e.elim), HG.out.app rs rb, (Dk.app_room _ _ _).trans HRO.out⟩, ⟨HBA.out.trans HL2.out.below⟩⟩
        have j1 : (rk == 1) = false := beq_eq_false_iff_ne.2 k1
        clear k1
        by_cases k2 : rk = 2
        · as_aux_lemma =>
          subst k2
          clear j1
          go_wp2_with (first | ((with_reducible refine gate_dst (N := 60) rfl ?_); (try (refine gate_guard (by rfl) ?_; dsimp only)); refine goesL_ (some 60) rfl rfl Try.func21 (by kernel_rfl) rfl #[.pointer (some ⟨w.heap.size, 0, none⟩)] rfl (by (try simp only [List.map_toArray, List.map_cons, List.map_nil]); first | done | rfl | (simp only [List.length_drop, List.length_take]; rfl)) ?_; refine (Duo.sync1 HD1.out HB1.out.size (fun k e => by rw [e]; exact HZL.out) HW.out).mono ?_; rintro e wA ⟨rfl, hd, hL⟩; refine ⟨_, rfl, ?_⟩; have HD2 := Aside0.mk hd; have HL1 := Aside0.mk hL; clear hd hL; have HBA := Aside0.mk (HB1.out.trans HL1.out.below)) | ((with_reducible refine gate_dst (N := 62) rfl ?_); (try (refine gate_guard (by rfl) ?_; dsimp only)); refine goesL_ (some 62) rfl rfl Try.func26 (by kernel_rfl) rfl #[.pointer (some ⟨w1.heap.size, 0, none⟩)] rfl (by (try simp only [List.map_toArray, List.map_cons, List.map_nil]); first | done | rfl | (simp only [List.length_drop, List.length_take]; rfl)) ?_; refine (Duo.sync2 HD2.out HBA.out.size (fun k e => Nat.lt_of_lt_of_le (show k < W.heap.size by rw [e]; exact HZL.out) HL1.out.below.size) HW.out).mono ?_; rintro e wC ⟨rfl, hd, hL⟩; refine ⟨_, rfl, ?_⟩; have HD3 := Aside0.mk hd; have HL2 := Aside0.mk hL; clear hd hL))
          go_meet
          exact ⟨rfl, ⟨_, HD3.out.keep (fun k _ e => e.elim), HG.out.sync, (Dk.sync_room _).trans HRO.out⟩, ⟨HBA.out.trans HL2.out.below⟩⟩
        have j2 : (rk == 2) = false := beq_eq_false_iff_ne.2 k2
        clear k2
        by_cases k3 : rk = 3
        · as_aux_lemma =>
          subst k3
          clear j1 j2
          go_wp2_with fail
          go_region_held (fun w' => w'.cell? ⟨g8, 1, none⟩ = some (.int .i64 rs)) (first | exact z1 | exact HL1.out.cell rfl z1 | exact HL2.out.cell rfl (HL1.out.cell rfl z1))
            (first | (go_at_call 23; (with_reducible refine (Duo.wipe1 HDr.out HBr.out.size HKL.out rs HW.out).mono ?_); rintro e wA ⟨rfl, hd, hL⟩; have HD2 := Aside0.mk hd; have HL1 := Aside0.mk hL; clear hd hL; have HBA := Aside0.mk (HBr.out.trans HL1.out.below)) | (go_at_call 27; (with_reducible refine (Duo.wipe2 HD2.out HBA.out.size (fun k e => Nat.lt_of_lt_of_le (HKL.out k e) HL1.out.below.size) rs HW.out).mono ?_); rintro e wC ⟨rfl, hd, hL⟩; have HD3 := Aside0.mk hd; have HL2 := Aside0.mk hL; clear hd hL))
          go_wp2_with fail
          go_meet
          exact ⟨rfl, ⟨_, HD3.out.keep (fun k _ e => e.elim), HG.out.wipe rs, (Dk.wipe_room _ _).trans HRO.out⟩, ⟨HBA.out.trans HL2.out.below⟩⟩
        have j3 : (rk == 3) = false := beq_eq_false_iff_ne.2 k3
        clear k3
        by_cases k4 : rk = 4
        · as_aux_lemma =>
          subst k4
          clear j1 j2 j3
          go_wp2_with (first | ((with_reducible refine gate_dst (N := 80) rfl ?_); (try (refine gate_guard (by rfl) ?_; dsimp only)); refine goesL_ (some 80) rfl rfl Try.func18 (by kernel_rfl) rfl #[.pointer (some ⟨w.heap.size, 0, none⟩), .agg #[.int .i64 rt, .int .i64 rkp]] rfl (by (try simp only [List.map_toArray, List.map_cons, List.map_nil]); first | done | rfl | (simp only [List.length_drop, List.length_take]; rfl)) ?_; refine (Duo.arm1 HD1.out HB1.out.size (fun k e => by rw [e]; exact HZL.out) rt rkp).mono ?_; rintro e wA ⟨rfl, hd, hL⟩; refine ⟨_, rfl, ?_⟩; have HD2 := Aside0.mk hd; have HL1 := Aside0.mk hL; clear hd hL; have HBA := Aside0.mk (HB1.out.trans HL1.out.below); have z3' := HL1.out.cell rfl z3; have z4' := HL1.out.cell rfl z4) | ((with_reducible refine gate_dst (N := 84) rfl ?_); (try (refine gate_guard (by rfl) ?_; dsimp only)); refine goesL_ (some 84) rfl rfl Try.func28 (by kernel_rfl) rfl #[.pointer (some ⟨w1.heap.size, 0, none⟩), .agg #[.int .i64 rt, .int .i64 rkp]] rfl (by (try simp only [List.map_toArray, List.map_cons, List.map_nil]); first | done | rfl | (simp only [List.length_drop, List.length_take]; rfl)) ?_; refine (Duo.arm2 HD2.out HBA.out.size (fun k e => Nat.lt_of_lt_of_le (show k < W.heap.size by rw [e]; exact HZL.out) HL1.out.below.size) rt rkp).mono ?_; rintro e wC ⟨rfl, hd, hL⟩; refine ⟨_, rfl, ?_⟩; have HD3 := Aside0.mk hd; have HL2 := Aside0.mk hL; clear hd hL))
          go_meet
          exact ⟨rfl, ⟨_, HD3.out.keep (fun k _ e => e.elim), (HG.out.arm rt rkp HKP.out).mono (by omega), (show (D.arm rt rkp).room = _ from HRO.out)⟩, ⟨HBA.out.trans HL2.out.below⟩⟩
        have j4 : (rk == 4) = false := beq_eq_false_iff_ne.2 k4
        clear k4
        by_cases k5 : rk = 5
        · as_aux_lemma =>
          subst k5
          clear j1 j2 j3 j4
          go_wp2_with (first | ((with_reducible refine gate_dst (N := 88) rfl ?_); (try (refine gate_guard (by rfl) ?_; dsimp only)); refine goesL_ (some 88) rfl rfl Try.func22 (by kernel_rfl) rfl #[.pointer (some ⟨w.heap.size, 0, none⟩)] rfl (by (try simp only [List.map_toArray, List.map_cons, List.map_nil]); first | done | rfl | (simp only [List.length_drop, List.length_take]; rfl)) ?_; refine (Duo.restart1 HD1.out HB1.out.size (fun k e => by rw [e]; exact HZL.out) ⟨HG.out.1, HG.out.2.1⟩).mono ?_; rintro e wA ⟨rfl, hd, hL⟩; refine ⟨_, rfl, ?_⟩; have HD2 := Aside0.mk hd; have HL1 := Aside0.mk hL; clear hd hL; have HBA := Aside0.mk (HB1.out.trans HL1.out.below)) | ((with_reducible refine gate_dst (N := 90) rfl ?_); (try (refine gate_guard (by rfl) ?_; dsimp only)); refine goesL_ (some 90) rfl rfl Try.func29 (by kernel_rfl) rfl #[.pointer (some ⟨w1.heap.size, 0, none⟩)] rfl (by (try simp only [List.map_toArray, List.map_cons, List.map_nil]); first | done | rfl | (simp only [List.length_drop, List.length_take]; rfl)) ?_; refine (Duo.restart2 HD2.out HBA.out.size (fun k e => Nat.lt_of_lt_of_le (show k < W.heap.size by rw [e]; exact HZL.out) HL1.out.below.size) ⟨HG.out.1, HG.out.2.1⟩).mono ?_; rintro e wC ⟨rfl, hd, hL⟩; refine ⟨_, rfl, ?_⟩; have HD3 := Aside0.mk hd; have HL2 := Aside0.mk hL; clear hd hL))
          go_meet
          exact ⟨rfl, ⟨_, HD3.out.keep (fun k _ e => e.elim), (HG.out.restart (by omega)).mono (by omega), (show D.restart.room = _ from HRO.out)⟩, ⟨HBA.out.trans HL2.out.below⟩⟩
        have j5 : (rk == 5) = false := beq_eq_false_iff_ne.2 k5
        clear k5
        go_wp2_with fail
        go_meet
        exact ⟨rfl, ⟨_, HD1.out.keep (fun k _ e => e.elim), HG.out.mono (by omega), HRO.out⟩, HB1⟩
      case rest => as_aux_lemma =>
        clear HD1 HB1 z1 z2 z3 z4 HG HRO
        obtain ⟨rfl, ⟨D2, hD2, hG2, hR2⟩, HB2⟩ := hcut
        have HE0 := Aside0.mk (hD2.below (below_drew (Below.refl _ _)))
        have HBr := Aside0.mk (below_drew HB2.out)
        have HG := Aside0.mk hG2
        have HRO := Aside0.mk hR2
        obtain ⟨x1, x2⟩ := hD2.cells
        obtain ⟨X0, hX0⟩ : ∃ X, D2.read 0 = X := ⟨_, rfl⟩
        obtain ⟨X1, hX1⟩ : ∃ X, D2.read 1 = X := ⟨_, rfl⟩
        have HX0 := Aside0.mk hX0
        have HX1 := Aside0.mk hX1
        have HX2 := Aside0.mk (show D2.read 2 = [] from rfl)
        have HLB := Aside0.mk (show D2.b0.length ≤ 140737488351232 ∧ D2.b1.length ≤ 140737488351232 by have := hG2.2.2.1; have := hG2.2.2.2.1; have := hG2.2.2.2.2.1; omega)
        clear hX0 hX1 hD2 hG2 hR2 hbC hk hs ht hkp HB2
        go_wp2_with fail
        go_region_held (fun w' => w'.cell? ⟨w1.heap.size, 5, none⟩ = some (.int .i64 D2.ops) ∧ w'.cell? ⟨w1.heap.size, 9, none⟩ = some (.bool D2.down)) (first | exact HE0.out.cells | exact HE1.out.cells | exact HE2.out.cells | exact HE3.out.cells | exact HE4.out.cells | exact HE5.out.cells | exact HE6.out.cells | exact HE7.out.cells | exact HE8.out.cells)
          (first | (go_at_call 19; refine HE0.out.down1.mono ?_; rintro e wE1 ⟨rfl, hb⟩; have HE1 := Aside0.mk (HE0.out.below hb); have HB1 := Aside0.mk (below_step HBr.out hb); clear hb) | (go_at_call 20; refine HE1.out.ops1.mono ?_; rintro e wE2 ⟨rfl, hb⟩; have HE2 := Aside0.mk (HE1.out.below hb); have HB2 := Aside0.mk (below_step HB1.out hb); clear hb) | (go_at_call 30; refine HE2.out.room1.mono ?_; rintro e wE3 ⟨rfl, hb⟩; rw [HRO.out]; have HE3 := Aside0.mk (HE2.out.below hb); have HB3 := Aside0.mk (below_step HB2.out hb); clear hb) | (go_at_call 16; (with_reducible refine (HE3.out.read1 0 HLB.out).mono ?_); rintro e wE4 ⟨A4, c4, rfl, hC, hb⟩; rw [HX0.out] at hC ⊢; have HE4 := Aside0.mk (HE3.out.below hb); have HB4 := Aside0.mk (below_step HB3.out hb); clear hb; have hs4 := cstr (c := c4) hC; have HC4 := Aside0.mk hC; clear hC) | (go_at_call 31; (with_reducible refine (HE4.out.read2 0 HLB.out).mono ?_); rintro e wE5 ⟨A5, c5, rfl, hC, hb⟩; rw [HX0.out] at hC ⊢; have HE5 := Aside0.mk (HE4.out.below hb); have HB5 := Aside0.mk (below_step HB4.out hb); have hs5 := cstr (c := c5) hC; have hs45 := cstr (c := c4) (Kd.C_below HC4.out hb); clear hC hb) | (go_at_call 16; (with_reducible refine (HE5.out.read1 1 HLB.out).mono ?_); rintro e wE6 ⟨A6, c6, rfl, hC, hb⟩; rw [HX1.out] at hC ⊢; have HE6 := Aside0.mk (HE5.out.below hb); have HB6 := Aside0.mk (below_step HB5.out hb); clear hb; have hs6 := cstr (c := c6) hC; have HC6 := Aside0.mk hC; clear hC) | (go_at_call 31; (with_reducible refine (HE6.out.read2 1 HLB.out).mono ?_); rintro e wE7 ⟨A7, c7, rfl, hC, hb⟩; rw [HX1.out] at hC ⊢; have HE7 := Aside0.mk (HE6.out.below hb); have HB7 := Aside0.mk (below_step HB6.out hb); have hs7 := cstr (c := c7) hC; have hs67 := cstr (c := c6) (Kd.C_below HC6.out hb); clear hC hb) | (go_at_call 16; (with_reducible refine (HE7.out.read1 2 HLB.out).mono ?_); rintro e wE8 ⟨A8, c8, rfl, hC, hb⟩; rw [HX2.out]; have HE8 := Aside0.mk (HE7.out.below hb); have HB8 := Aside0.mk (below_step HB7.out hb); clear hC hb))
        all_goals as_aux_lemma =>
          rename_i Q0 K0 hK hHeld
          refine hK _ _ ?_
          clear hK K0 hHeld
          go_wp2_with fail
          go_roundg (l.length - (i + 1))
          all_goals (first | (have := HK.out; omega) | exact ⟨i + 1, by go_num, by omega, ⟨by omega⟩, ⟨_, HE8.out, by exact_mod_cast HG.out, HRO.out⟩, HB8⟩)
    · have cb : decide ((i : Int) < (l.length : Int)) = false := decide_eq_false (by omega)
      have cbn : decide (i < l.length) = false := decide_eq_false ci
      go_wp2_with (first | ((with_reducible refine gate_dst (N := 141) rfl ?_); (try (refine gate_guard (by rfl) ?_; dsimp only)); refine goesL_ (some 141) rfl rfl Try.func17 (by kernel_rfl) rfl #[] rfl (by (try simp only [List.map_toArray, List.map_cons, List.map_nil]); first | done | rfl | (simp only [List.length_drop, List.length_take]; rfl)) ?_; refine (known4 _).mono ?_; rintro e w3 ⟨rfl, hbl⟩; refine ⟨_, rfl, ?_⟩; have HB_ := Aside0.mk (below_step HB.out hbl); clear HB; have HB := HB_; clear HB_; clear hbl))
      go_ret
      exact ⟨rfl, HB.out⟩
theorem lawTPlays (room : Int) (A : Option Addr) (c : Nat) (l : List ActR) (w : World) (hac : ActsC w A l) :
    Calls Try.prog 7 #[.int .i64 room, .slice A l.length c] w fun e w' => e = .returned (.bool true) ∧ Below w.heap.size w w' := by
  by_cases c1 : 80 < l.length
  · have HB := Aside0.mk (Below.refl w.heap.size w)
    have h1 : decide (80 < (l.length : Int)) = true := decide_eq_true (by omega)
    have h1n : decide (80 < l.length) = true := decide_eq_true c1
    clear hac
    go_enter Try.func7, Try.ntmps7
    go_wp2
    go_ret
    exact ⟨rfl, HB.out⟩
  by_cases hn : room < 0 ∨ 200000 < room
  · exact lawTPlays_no room A c l w hn (by omega)
  · obtain ⟨r, rfl⟩ : ∃ r : Nat, room = r := ⟨room.toNat, by omega⟩
    exact lawTPlays_yes r A c l w (by omega) (by omega) hac
end Go.Proofs.Ythaeppjhmjpecaa.B
