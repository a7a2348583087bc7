/- giroref3.ReadCmd: the walk. -/
import Derived.Test.YtoljpojpncjmoaaMsg9
namespace Go.Proofs.Ytoljpojpncjmoaa.B
open Go.RowKit Go.Proofs.YtoljpojpncjmoaaW.PrintWords Go.Proofs.YtoljpojpncjmoaaW.PrintLast Go.Proofs.YtoljpojpncjmoaaW.PrintMore
attribute [local go_sem] max2_int min2_int max_two min_two max_three min_three max_four min_four
set_option linter.unusedVariables false
set_option linter.unusedSimpArgs false

set_option maxHeartbeats 1000000 in
theorem mreadcmd3_short (A : Option Addr) (c : Nat) (l : List Int) (w : World) (h8 : l.length < 8) :
    Calls Try.prog 48 #[.slice A l.length c] w fun e w' => e = .returned (.tuple #[.agg (cmdCells (readCW l) (readCM l)), .int .i64 (readCE l)]) ∧ Below w.heap.size w w' := by
  have HB := Aside0.mk (Below.refl w.heap.size w)
  have HK := Aside0.mk (readCK_short h8)
  have h8b : decide ((l.length : Int) < 8) = true := decide_eq_true (by omega)
  go_enter Try.func48, Try.ntmps48
  go_wp2
  refine bodyPost_ret (results_ct rfl _ _ w.heap.size 63 _ (0, 0) _ rfl (blk_new w _) Try.underlying63 rfl (by kernel_rfl)) rfl ?_
  exact ⟨by unfold readCW readCM readCE; rw [HK.out]; rfl, below_alloc HB.out _⟩

set_option maxHeartbeats 1000000 in
theorem mreadcmd3_no (A : Option Addr) (c : Nat) (l : List Int) (w : World) (hr : Kd.C (Kd.int .u8) w A l.length l) (hc : l.length ≤ c) (hb : IsB l) (hl : l.length ≤ 140737488351232) (h8 : 8 ≤ l.length) (hn : readK (l.drop 8) = false) :
    Calls Try.prog 48 #[.slice A l.length c] w fun e w' => e = .returned (.tuple #[.agg (cmdCells (readCW l) (readCM l)), .int .i64 (readCE l)]) ∧ Below w.heap.size w w' := by
  have HR := Aside0.mk hr
  have HI := Aside0.mk hb
  have HB := Aside0.mk (Below.refl w.heap.size w)
  have HK := Aside0.mk (show readCK l = false by unfold readCK; rw [hn, Bool.and_false])
  have h8b : decide ((l.length : Int) < 8) = false := decide_eq_false (by omega)
  obtain ⟨x, hx, hxr, hxC, hxc⟩ := cutH (P := Try.prog) (Kd.int .u8) 22 5 Try.underlying22 info5 .i64 A c l 8 8 rfl h8 hc
  obtain ⟨y, A2, c2, hy, hyr, hyC, hyc, hyB⟩ := cutL (P := Try.prog) (Kd.int .u8) 22 5 Try.underlying22 info5 .i64 A c l 8 8 rfl h8 hc
  have hxl : x.length = 8 := by rw [hx.out, List.length_take]; omega
  have HXB := Aside0.mk (show IsB x by rw [hx.out]; exact HI.out.take _)
  have HYB := Aside0.mk (show IsB y by rw [hy.out]; exact HI.out.drop _)
  have hyl : y.length ≤ 140737488351232 := by rw [hy.out, List.length_drop]; omega
  have HM := Aside0.mk (show (readM y).cells = #[.int .i64 0, .int .i64 0, .int .i64 0, .int .i64 0, .int .i64 0, .int .i64 0, .int .i64 0] ∧ readE y = 2 by rw [hy.out]; unfold readM readE; rw [hn]; exact ⟨rfl, rfl⟩)
  have HGE := Aside0.mk (show gerr x = 0 from gerr_yes (by omega))
  have hxl8 : x.length ≤ 8 := by omega
  clear hr hb hn hxl
  go_enter Try.func48, Try.ntmps48
  go_wp2_with (first | ((with_reducible refine gate_dst (N := 15) rfl ?_); (try (refine gate_guard (by rfl) ?_; dsimp only)); refine goesL_ (some 15) rfl rfl Try.func26 (by kernel_rfl) rfl #[.slice A x.length c] rfl (by (try simp only [List.map_toArray, List.map_cons, List.map_nil]); first | done | rfl | (simp only [List.length_drop, List.length_take]; rfl)) ?_; refine (get2 A c x _ (hxC.out _ (Kd.C_alloc HR.out _)) hxc HXB.out (by omega)).mono ?_; rintro e w1 ⟨v, rfl, ho, hbl⟩; refine ⟨_, rfl, ?_⟩; rw [HGE.out]; obtain ⟨A1, c1, e1⟩ := Kd.R_slice ho; subst e1; have HB2 := Aside0.mk (below_step (below_alloc HB.out _) hbl); have HG0 := Aside0.mk (blk_below (blk_new w (.cells #[.int .i64 0, .int .i64 0, .int .i64 0, .int .i64 0, .int .i64 0, .int .i64 0, .int .i64 0, .int .i64 0] 63)) hbl); clear HB ho hbl) | ((with_reducible refine gate_dst (N := 21) rfl ?_); (try (refine gate_guard (by rfl) ?_; dsimp only)); refine goesL_ (some 21) rfl rfl Try.func46 (by kernel_rfl) rfl #[.slice A2 y.length c2] rfl (by (try simp only [List.map_toArray, List.map_cons, List.map_nil]); first | done | rfl | (simp only [List.length_drop, List.length_take]; rfl)) ?_; refine (mread3 A2 c2 y _ (hyC.out _ (Kd.C_below HR.out HB2.out)) hyc HYB.out hyl).mono ?_; rintro e w2 ⟨rfl, hbl⟩; refine ⟨_, rfl, ?_⟩; rw [HM.out.1, HM.out.2]; have HB3 := Aside0.mk (below_alloc (below_step HB2.out hbl) (.cells #[.int .i64 0, .int .i64 0, .int .i64 0, .int .i64 0, .int .i64 0, .int .i64 0, .int .i64 0] 54)); have HG3 := Aside0.mk (blk_alloc (blk_below HG0.out hbl) (.cells #[.int .i64 0, .int .i64 0, .int .i64 0, .int .i64 0, .int .i64 0, .int .i64 0, .int .i64 0] 54)); clear HB2 HG0 hbl; have HB2 := HB3; have HG0 := HG3; clear HB3 HG3) | (refine gate_store (t := 63) (p := 2) rfl ?_; (refine store_blk rfl 63 _ _ rfl w.heap.size _ rfl rfl 63 _ HG0.out (by kernel_rfl) rfl (by simp [Value.oneCell']) HB2.out (Nat.le_refl _) ?_; intro wz hgz_ hoz_ hbz_; have HGZ := Aside0.mk hgz_; have HBZ := Aside0.mk hbz_; clear hgz_ hoz_ hbz_)))
  refine bodyPost_ret (results_ct rfl _ _ w.heap.size 63 _ (0, 0) _ rfl (HGZ.out) Try.underlying63 rfl (by kernel_rfl)) rfl ?_
  exact ⟨by unfold readCW readCM readCE; rw [HK.out]; rfl, HBZ.out⟩

set_option maxHeartbeats 1000000 in
theorem mreadcmd3_ok (A : Option Addr) (c : Nat) (l : List Int) (w : World) (hr : Kd.C (Kd.int .u8) w A l.length l) (hc : l.length ≤ c) (hb : IsB l) (hl : l.length ≤ 140737488351232) (h8 : 8 ≤ l.length) (hn : readK (l.drop 8) = true) :
    Calls Try.prog 48 #[.slice A l.length c] w fun e w' => e = .returned (.tuple #[.agg (cmdCells (readCW l) (readCM l)), .int .i64 (readCE l)]) ∧ Below w.heap.size w w' := by
  have HR := Aside0.mk hr
  have HI := Aside0.mk hb
  have HB := Aside0.mk (Below.refl w.heap.size w)
  have HK := Aside0.mk (show readCK l = true by unfold readCK; rw [hn, decide_eq_true h8]; rfl)
  have h8b : decide ((l.length : Int) < 8) = false := decide_eq_false (by omega)
  obtain ⟨x, hx, hxr, hxC, hxc⟩ := cutH (P := Try.prog) (Kd.int .u8) 22 5 Try.underlying22 info5 .i64 A c l 8 8 rfl h8 hc
  obtain ⟨y, A2, c2, hy, hyr, hyC, hyc, hyB⟩ := cutL (P := Try.prog) (Kd.int .u8) 22 5 Try.underlying22 info5 .i64 A c l 8 8 rfl h8 hc
  have hxl : x.length = 8 := by rw [hx.out, List.length_take]; omega
  have HXB := Aside0.mk (show IsB x by rw [hx.out]; exact HI.out.take _)
  have HYB := Aside0.mk (show IsB y by rw [hy.out]; exact HI.out.drop _)
  have hyl : y.length ≤ 140737488351232 := by rw [hy.out, List.length_drop]; omega
  obtain ⟨⟨k, p0, p1, p2, p3, p4, p5⟩, hm⟩ : ∃ m, m = readM y := ⟨_, rfl⟩
  have HM := Aside0.mk (show (readM y).cells = #[.int .i64 k, .int .i64 p0, .int .i64 p1, .int .i64 p2, .int .i64 p3, .int .i64 p4, .int .i64 p5] ∧ readE y = 0 by rw [← hm]; exact ⟨rfl, by rw [hy.out]; unfold readE; rw [hn]; rfl⟩)
  have HMM := Aside0.mk (show readM (l.drop 8) = ⟨k, p0, p1, p2, p3, p4, p5⟩ by rw [← hy.out]; exact hm.symm)
  clear hm
  have HGE := Aside0.mk (show gerr x = 0 from gerr_yes (by omega))
  obtain ⟨q, hq⟩ : ∃ q, getl x = [q] := List.length_eq_one_iff.1 (by rw [getl_yes (by omega), gets_length]; omega)
  have HQ := Aside0.mk hq
  have HCW := Aside0.mk (show readCW l = q by unfold readCW; rw [HK.out, if_pos rfl, ← hx.out, hq]; rfl)
  have hxl8 : x.length ≤ 8 := by omega
  clear hr hb hn hxl hq
  go_enter Try.func48, Try.ntmps48
  go_wp2_with (first | ((with_reducible refine gate_dst (N := 15) rfl ?_); (try (refine gate_guard (by rfl) ?_; dsimp only)); refine goesL_ (some 15) rfl rfl Try.func26 (by kernel_rfl) rfl #[.slice A x.length c] rfl (by (try simp only [List.map_toArray, List.map_cons, List.map_nil]); first | done | rfl | (simp only [List.length_drop, List.length_take]; rfl)) ?_; refine (get2 A c x _ (hxC.out _ (Kd.C_alloc HR.out _)) hxc HXB.out (by omega)).mono ?_; rintro e w1 ⟨v, rfl, ho, hbl⟩; refine ⟨_, rfl, ?_⟩; rw [HGE.out]; rw [HQ.out] at ho; obtain ⟨A1, c1, e1⟩ := Kd.R_slice ho; subst e1; obtain ⟨ad, ea, hq0⟩ := Kd.at_int (Kd.R_reads' ho).2.2 0 (by omega) (by simp); cases ea; rw [show ((0 : Int)).toNat = 0 from rfl, Addr.add_zero', show rd [q] 0 = q from rfl] at hq0; have HQ0 := Aside0.mk hq0; clear hq0; have HB2 := Aside0.mk (below_step (below_alloc HB.out _) hbl); have HG0 := Aside0.mk (blk_below (blk_new w (.cells #[.int .i64 0, .int .i64 0, .int .i64 0, .int .i64 0, .int .i64 0, .int .i64 0, .int .i64 0, .int .i64 0] 63)) hbl); clear HB ho hbl) | ((with_reducible refine gate_dst (N := 21) rfl ?_); (try (refine gate_guard (by rfl) ?_; dsimp only)); refine goesL_ (some 21) rfl rfl Try.func46 (by kernel_rfl) rfl #[.slice A2 y.length c2] rfl (by (try simp only [List.map_toArray, List.map_cons, List.map_nil]); first | done | rfl | (simp only [List.length_drop, List.length_take]; rfl)) ?_; refine (mread3 A2 c2 y _ (hyC.out _ (Kd.C_below HR.out HB2.out)) hyc HYB.out hyl).mono ?_; rintro e w2 ⟨rfl, hbl⟩; refine ⟨_, rfl, ?_⟩; rw [HM.out.1, HM.out.2]; have HB3 := Aside0.mk (below_alloc (below_step HB2.out hbl) (.cells #[.int .i64 k, .int .i64 p0, .int .i64 p1, .int .i64 p2, .int .i64 p3, .int .i64 p4, .int .i64 p5] 54)); have HG3 := Aside0.mk (blk_alloc (blk_below HG0.out hbl) (.cells #[.int .i64 k, .int .i64 p0, .int .i64 p1, .int .i64 p2, .int .i64 p3, .int .i64 p4, .int .i64 p5] 54)); have HQ1 := Aside0.mk (pw_cell_below (below_alloc hbl (.cells #[.int .i64 k, .int .i64 p0, .int .i64 p1, .int .i64 p2, .int .i64 p3, .int .i64 p4, .int .i64 p5] 54)) HQ0.out); have HGm := Aside0.mk (blk_new w2 (.cells #[.int .i64 k, .int .i64 p0, .int .i64 p1, .int .i64 p2, .int .i64 p3, .int .i64 p4, .int .i64 p5] 54)); clear HQ0 HB2 HG0 hbl; have HB2 := HB3; have HG0 := HG3; clear HB3 HG3))
  obtain ⟨gm, hgm⟩ : ∃ gm, gm = w2.heap.size := ⟨_, rfl⟩
  rw [← hgm] at HGm ⊢
  generalize w2.alloc (.cells #[.int .i64 k, .int .i64 p0, .int .i64 p1, .int .i64 p2, .int .i64 p3, .int .i64 p4, .int .i64 p5] 54) = wo at HQ1 HGm HB2 HG0 ⊢
  clear hgm
  have hq0 := HQ1.out
  have m0 := blk_cell HGm.out 0
  simp only [List.getElem?_toArray, List.getElem?_cons_zero, List.getElem?_cons_succ] at m0
  have m1 := blk_cell HGm.out 1
  simp only [List.getElem?_toArray, List.getElem?_cons_zero, List.getElem?_cons_succ] at m1
  have m2 := blk_cell HGm.out 2
  simp only [List.getElem?_toArray, List.getElem?_cons_zero, List.getElem?_cons_succ] at m2
  have m3 := blk_cell HGm.out 3
  simp only [List.getElem?_toArray, List.getElem?_cons_zero, List.getElem?_cons_succ] at m3
  have m4 := blk_cell HGm.out 4
  simp only [List.getElem?_toArray, List.getElem?_cons_zero, List.getElem?_cons_succ] at m4
  have m5 := blk_cell HGm.out 5
  simp only [List.getElem?_toArray, List.getElem?_cons_zero, List.getElem?_cons_succ] at m5
  have m6 := blk_cell HGm.out 6
  simp only [List.getElem?_toArray, List.getElem?_cons_zero, List.getElem?_cons_succ] at m6
  have z0 := blk_cell HG0.out 0
  simp only [List.getElem?_toArray, List.getElem?_cons_zero, List.getElem?_cons_succ] at z0
  have f0 := blk_frozen HG0.out 0
  have z1 := blk_cell HG0.out 1
  simp only [List.getElem?_toArray, List.getElem?_cons_zero, List.getElem?_cons_succ] at z1
  have f1 := blk_frozen HG0.out 1
  have z2 := blk_cell HG0.out 2
  simp only [List.getElem?_toArray, List.getElem?_cons_zero, List.getElem?_cons_succ] at z2
  have f2 := blk_frozen HG0.out 2
  have z3 := blk_cell HG0.out 3
  simp only [List.getElem?_toArray, List.getElem?_cons_zero, List.getElem?_cons_succ] at z3
  have f3 := blk_frozen HG0.out 3
  have z4 := blk_cell HG0.out 4
  simp only [List.getElem?_toArray, List.getElem?_cons_zero, List.getElem?_cons_succ] at z4
  have f4 := blk_frozen HG0.out 4
  have z5 := blk_cell HG0.out 5
  simp only [List.getElem?_toArray, List.getElem?_cons_zero, List.getElem?_cons_succ] at z5
  have f5 := blk_frozen HG0.out 5
  have z6 := blk_cell HG0.out 6
  simp only [List.getElem?_toArray, List.getElem?_cons_zero, List.getElem?_cons_succ] at z6
  have f6 := blk_frozen HG0.out 6
  have z7 := blk_cell HG0.out 7
  simp only [List.getElem?_toArray, List.getElem?_cons_zero, List.getElem?_cons_succ] at z7
  have f7 := blk_frozen HG0.out 7
  go_region
  all_goals go_wp2
  all_goals (refine bodyPost_ret (results_ct rfl _ _ w.heap.size 63 _ (0, 0) _ rfl (blk8 HG0.out _ _ _ _ _ _ _ _) Try.underlying63 rfl (by kernel_rfl)) rfl ?_)
  all_goals exact ⟨by rw [HCW.out]; unfold readCM readCE; rw [HK.out, if_pos rfl, if_pos rfl, HMM.out]; rfl, below8 HB2.out (Nat.le_refl _) _ _ _ _ _ _ _ _⟩
/-- giroref3.ReadCmd. -/
theorem mreadcmd3 (A : Option Addr) (c : Nat) (l : List Int) (w : World) (hr : Kd.C (Kd.int .u8) w A l.length l) (hc : l.length ≤ c) (hb : IsB l) (hl : l.length ≤ 140737488351232) :
    Calls Try.prog 48 #[.slice A l.length c] w fun e w' => e = .returned (.tuple #[.agg (cmdCells (readCW l) (readCM l)), .int .i64 (readCE l)]) ∧ Below w.heap.size w w' := by
  by_cases h8 : 8 ≤ l.length
  · cases hn : readK (l.drop 8) with
    | false => exact mreadcmd3_no A c l w hr hc hb hl h8 hn
    | true => exact mreadcmd3_ok A c l w hr hc hb hl h8 hn
  · exact mreadcmd3_short A c l w (by omega)
end Go.Proofs.Ytoljpojpncjmoaa.B
