/- giroref3.Bytes, giroref3.Cmd: the walks. -/
import Derived.Test.YtoljpojpncjmoaaMsg6
import Derived.Test.YtoljpojpncjmoaaMsg5
import Derived.Deep.RegionHeldLaw
import Derived.Laws.Cover3
namespace Go.Proofs.Ytoljpojpncjmoaa.B
open Go.RowKit Go.Proofs.YtoljpojpncjmoaaW.PrintWords Go.Proofs.YtoljpojpncjmoaaW.PrintLast Go.Proofs.YtoljpojpncjmoaaW.PrintMore
attribute [local go_sem] max2_int min2_int max_two min_two max_three min_three max_four min_four
set_option linter.unusedVariables false
set_option linter.unusedSimpArgs false

theorem eqNil (W : World) (a : Option Addr) (l c : Nat) : (Go.binOp .eql 22 (.slice a l c) (.slice none 0 0)).run Try.prog W = .ok (.bool a.isNone) W := by
  simp only [Go.binOp]
  simp [run_equal_slice_nil (P := Try.prog) W 22 5 a l c Try.underlying22]
set_option maxHeartbeats 2000000 in
theorem mbytes3 (k p0 p1 p2 p3 p4 p5 : Int) (w : World) : Calls Try.prog 49 #[.agg #[.int .i64 k, .int .i64 p0, .int .i64 p1, .int .i64 p2, .int .i64 p3, .int .i64 p4, .int .i64 p5]] w fun e w' => ∃ v : Value, e = .returned v ∧ Kd.R (Kd.int .u8) 5 w' w.heap.size (fun _ => True) v (bytesM ⟨k, p0, p1, p2, p3, p4, p5⟩) ∧ (isM ⟨k, p0, p1, p2, p3, p4, p5⟩ = false → v = .slice none 0 0) ∧ Below w.heap.size w w' := by
  have HB := Aside0.mk (Below.refl w.heap.size w)
  obtain ⟨im, him⟩ : ∃ im, im = isM ⟨k, p0, p1, p2, p3, p4, p5⟩ := ⟨_, rfl⟩
  have HIM := Aside0.mk him
  have HS0 := Aside0.mk (show BS w w.heap.size [p0, p1, p2, p3, p4, p5] (w.alloc (.cells #[.int .i64 k, .int .i64 p0, .int .i64 p1, .int .i64 p2, .int .i64 p3, .int .i64 p4, .int .i64 p5] 54)) ∧ (w.alloc (.cells #[.int .i64 k, .int .i64 p0, .int .i64 p1, .int .i64 p2, .int .i64 p3, .int .i64 p4, .int .i64 p5] 54)).cell? ⟨w.heap.size, 0, none⟩ = some (.int .i64 k) from ⟨⟨⟨C_blk (k := .i64) (t := 54) (blk_new w _) [p0, p1, p2, p3, p4, p5] rfl (by simp)⟩, ⟨below_alloc HB.out _⟩⟩, by rw [World.cell?_alloc_mark]; rfl⟩)
  cases im with
  | false =>
    have HE := Aside0.mk (show bytesM ⟨k, p0, p1, p2, p3, p4, p5⟩ = [] by unfold bytesM; rw [← him]; rfl)
    clear him
    go_enter Try.func49, Try.ntmps49
    go_wp2_with (first | ((with_reducible refine gate_dst (N := 4) rfl ?_); (try (refine gate_guard (by rfl) ?_; dsimp only)); refine goesL_ (some 4) rfl rfl Try.func51 (by kernel_rfl) rfl #[.agg #[.int .i64 k, .int .i64 p0, .int .i64 p1, .int .i64 p2, .int .i64 p3, .int .i64 p4, .int .i64 p5]] rfl (by (try simp only [List.map_toArray, List.map_cons, List.map_nil]); first | done | rfl | (simp only [List.length_drop, List.length_take]; rfl)) ?_; refine (mis3 k p0 p1 p2 p3 p4 p5 _).mono ?_; rintro e w1 ⟨rfl, hbl⟩; refine ⟨_, rfl, ?_⟩; rw [← HIM.out]; have HB' := Aside0.mk (below_step (below_alloc HB.out _) hbl); clear HB hbl; have HB := HB'; clear HB'))
    go_ret
    exact ⟨_, rfl, by rw [HE.out]; exact Kd.R_nil _ _ _ _ _, fun _ => rfl, HB.out⟩
  | true =>
    obtain ⟨n, hn⟩ : ∃ n : Nat, many k = n := ⟨(many k).toNat, by
      have h := him.symm
      unfold isM at h
      rw [Bool.and_eq_true, decide_eq_true_iff] at h
      have := h.1
      simp only at this
      omega⟩
    have hn6 : n ≤ 6 := by have := (many_bd k).2; omega
    have HN := Aside0.mk hn
    obtain ⟨ys, hys, hrun, hC⟩ := arrH (P := Try.prog) 52 2 6 Try.underlying52 info2 ⟨w.heap.size, 1, none⟩ [p0, p1, p2, p3, p4, p5] rfl n hn6
    have hyl : ys.length ≤ 6 := by rw [hys.out, List.length_take]; omega
    have HE := Aside0.mk (show bytesM ⟨k, p0, p1, p2, p3, p4, p5⟩ = [IntKind.u8.wrap k] ++ puts ys by unfold bytesM; rw [← him, if_pos rfl, hys.out]; show _ :: puts (_) = _; rw [show many (Ms.k ⟨k, p0, p1, p2, p3, p4, p5⟩) = n from hn]; rfl)
    have hpl := puts_length ys
    obtain ⟨py, hpy⟩ : ∃ py, py = puts ys := ⟨_, rfl⟩
    rw [← hpy] at hpl HE
    have HPY := Aside0.mk hpy
    have hpyl : py.length ≤ 48 := by omega
    clear him hn hpl hpy
    go_enter Try.func49, Try.ntmps49
    go_wp2_with (first | ((with_reducible refine gate_dst (N := 4) rfl ?_); (try (refine gate_guard (by rfl) ?_; dsimp only)); refine goesL_ (some 4) rfl rfl Try.func51 (by kernel_rfl) rfl #[.agg #[.int .i64 k, .int .i64 p0, .int .i64 p1, .int .i64 p2, .int .i64 p3, .int .i64 p4, .int .i64 p5]] rfl (by (try simp only [List.map_toArray, List.map_cons, List.map_nil]); first | done | rfl | (simp only [List.length_drop, List.length_take]; rfl)) ?_; refine (mis3 k p0 p1 p2 p3 p4 p5 _).mono ?_; rintro e w1 ⟨rfl, hbl⟩; refine ⟨_, rfl, ?_⟩; rw [← HIM.out]; have HS1 := Aside0.mk (show BS w1 w.heap.size [p0, p1, p2, p3, p4, p5] w1 ∧ w1.cell? ⟨w.heap.size, 0, none⟩ = some (.int .i64 k) from ⟨⟨(BS.below hbl HS0.out).1.1, ⟨Below.refl _ _⟩⟩, (BS.below hbl HS0.out).2⟩); have HBW := Aside0.mk (below_step (below_alloc HB.out _) hbl); have hcell := HS1.out.2; clear HB hbl HS0))
    go_region_held_law (fun w' => BS w1 w.heap.size [p0, p1, p2, p3, p4, p5] w' ∧ w'.cell? ⟨w.heap.size, 0, none⟩ = some (.int .i64 k)) (first | exact BS.alloc (by assumption) _ | exact BS.of HS1.out hbF | exact BS.below hbl (by assumption) | exact BS.below (below_drew (Below.refl _ _)) HS1.out)
      (first | (go_at_call 36; refine (mmany3 k _).mono ?_; rintro e wA ⟨rfl, hblA⟩; have hbl := hblA; rw [HN.out]) | (go_at_call 34; refine (put2 (some ⟨w.heap.size, 1, none⟩) 6 ys _ (hC.out _ (BS.C (by assumption))) (by omega)).mono ?_; rintro e wB ⟨vB, rfl, hoB, hblB⟩; have hbl := hblB; rw [← HPY.out] at hoB; obtain ⟨AB, cB, eB⟩ := Kd.R_slice hoB; subst eB) | (refine app_step (w0 := w1) w1.heap.size (by rfl) (.tmp 9) (.tmp 15) 22 5 rfl Try.underlying22 info5 _ [IntKind.u8.wrap k] py AB py.length cB rfl rfl (by first | exact Kd.R_below (Kd.R_below (R_blk w1.drew (IntKind.u8.wrap k) 5 w1.heap.size (Nat.le_refl _)) hblA) hblB | exact Kd.R_below (R_blk wA (IntKind.u8.wrap k) 5 w1.heap.size hblA.size) hblB | exact R_blk wB (IntKind.u8.wrap k) 5 w1.heap.size (Nat.le_trans hblA.size hblB.size)) (by first | exact (Kd.R_reads' hoB).2.2 | exact Kd.C_alloc (Kd.R_reads' hoB).2.2 _) (by exact BS.B (by assumption)) (by exact (BS.B (by assumption)).size) (by simp; omega) ?_; intro v5 w5 hoF hbF hgF; clear hgF; have HO5 := Aside0.mk (Kd.R_lower hoF HBW.out.size); have HB5 := Aside0.mk (below_step HBW.out hbF)))
    all_goals (go_wp2; go_ret; exact ⟨v5, by first | rfl | exact congrArg _ (set2_get _ _ _ (by decide)) | simp, by rw [HE.out]; exact HO5.out, (fun h => absurd (HIM.out.trans h) (by decide)), HB5.out⟩)

set_option maxHeartbeats 1000000 in
theorem mcmd3 (who k p0 p1 p2 p3 p4 p5 : Int) (w : World) : Calls Try.prog 50 #[.agg #[.int .i64 who, .int .i64 k, .int .i64 p0, .int .i64 p1, .int .i64 p2, .int .i64 p3, .int .i64 p4, .int .i64 p5]] w fun e w' => ∃ v : Value, e = .returned v ∧ Kd.R (Kd.int .u8) 5 w' w.heap.size (fun _ => True) v (cmdM who ⟨k, p0, p1, p2, p3, p4, p5⟩) ∧ Below w.heap.size w w' := by
  have HB := Aside0.mk (Below.refl w.heap.size w)
  obtain ⟨b, hb⟩ : ∃ b, b = bytesM ⟨k, p0, p1, p2, p3, p4, p5⟩ := ⟨_, rfl⟩
  have hlen : b.length ≤ 49 := by rw [hb]; exact bytesM_len _
  have HBM := Aside0.mk hb
  by_cases hz : b = []
  · have HE := Aside0.mk (show cmdM who ⟨k, p0, p1, p2, p3, p4, p5⟩ = [] by unfold cmdM; rw [← hb, if_pos hz])
    have hz0 : ((b.length : Int) == 0) = true := by rw [hz]; rfl
    have HIS := Aside0.mk ((bytesM_nil _).1 (hb.symm.trans hz))
    clear hb hz
    have hnil := eqNil
    go_enter Try.func50, Try.ntmps50
    go_wp2_with (first | ((with_reducible refine gate_dst (N := 6) rfl ?_); (try (refine gate_guard (by rfl) ?_; dsimp only)); refine goesL_ (some 6) rfl rfl Try.func49 (by kernel_rfl) rfl #[.agg #[.int .i64 k, .int .i64 p0, .int .i64 p1, .int .i64 p2, .int .i64 p3, .int .i64 p4, .int .i64 p5]] rfl (by (try simp only [List.map_toArray, List.map_cons, List.map_nil]); first | done | rfl | (simp only [List.length_drop, List.length_take]; rfl)) ?_; refine (mbytes3 k p0 p1 p2 p3 p4 p5 _).mono ?_; rintro e w1 ⟨v, rfl, ho, hv, hbl⟩; refine ⟨_, rfl, ?_⟩; have e1 := hv HIS.out; subst e1; clear hv; have HB2 := Aside0.mk (below_step (below_alloc HB.out _) hbl); clear HB hbl ho; have HB := HB2; clear HB2))
    go_ret
    exact ⟨_, rfl, by rw [HE.out]; exact Kd.R_nil _ _ _ _ _, HB.out⟩
  · have HE := Aside0.mk (show cmdM who ⟨k, p0, p1, p2, p3, p4, p5⟩ = puts [who] ++ b by unfold cmdM; rw [← hb, if_neg hz])
    have hz0 : ((b.length : Int) == 0) = false := by
      have := List.length_pos_iff.2 hz
      rw [beq_eq_false_iff_ne]
      omega
    have hlen8 := Aside0.mk (show (puts [who]).length = 8 from rfl)
    have hpos : 0 < b.length := List.length_pos_iff.2 hz
    clear hb hz
    have hnil := eqNil
    go_enter Try.func50, Try.ntmps50
    go_wp2_with (first | ((with_reducible refine gate_dst (N := 6) rfl ?_); (try (refine gate_guard (by rfl) ?_; dsimp only)); refine goesL_ (some 6) rfl rfl Try.func49 (by kernel_rfl) rfl #[.agg #[.int .i64 k, .int .i64 p0, .int .i64 p1, .int .i64 p2, .int .i64 p3, .int .i64 p4, .int .i64 p5]] rfl (by (try simp only [List.map_toArray, List.map_cons, List.map_nil]); first | done | rfl | (simp only [List.length_drop, List.length_take]; rfl)) ?_; refine (mbytes3 k p0 p1 p2 p3 p4 p5 _).mono ?_; rintro e w1 ⟨v, rfl, ho, hv, hbl⟩; refine ⟨_, rfl, ?_⟩; rw [← HBM.out] at ho; clear hv; obtain ⟨gb, c1, e1, hgb⟩ := Kd.R_form ho (by omega); subst e1; clear hgb; have HB2 := Aside0.mk (below_step (below_alloc HB.out _) hbl); have hcell := pw_cell_below hbl (show (w.alloc (.cells #[.int .i64 who, .int .i64 k, .int .i64 p0, .int .i64 p1, .int .i64 p2, .int .i64 p3, .int .i64 p4, .int .i64 p5] 63)).cell? ⟨w.heap.size, 0, none⟩ = some (.int .i64 who) by rw [World.cell?_alloc_mark]; rfl); have H1 := Aside0.mk (Kd.R_reads' ho).2.2; have HB1 := Aside0.mk (Below.refl w1.heap.size w1); clear HB hbl ho; have HB := HB2; clear HB2) | ((with_reducible refine gate_dst (N := 11) rfl ?_); refine Kd.R_lit (Kd.int .i64) (w0 := w1) w1.heap.size 2 rfl (N := 11) rfl (xs := [who]) (inner := [.int .i64 who]) (ok := fun _ => True) (okp := fun _ => True) (by first | (go_simp; done) | (go_simp; rfl) | (go_simp; exact ⟨rfl, rfl⟩)) (lit_one _) (fun _ hk => hk) trivial HB1.out HB1.out.size (by simp) ?_; intro v2 w2 ho hb hg_ hnew_; have H1' := Aside0.mk (Kd.C_below H1.out hb); have HB2 := Aside0.mk (below_step HB.out hb); clear hg_ hnew_ HB HB1 H1; have H1 := H1'; clear H1'; have HO := Aside0.mk ho; have HB := HB2; clear HB2 ho hb; obtain ⟨A2, c2, e2⟩ := Kd.R_slice HO.out; subst e2) | ((with_reducible refine gate_dst (N := 12) rfl ?_); (try (refine gate_guard (by rfl) ?_; dsimp only)); refine goesL_ (some 12) rfl rfl Try.func34 (by kernel_rfl) rfl #[.slice A2 1 c2] rfl (by (try simp only [List.map_toArray, List.map_cons, List.map_nil]); first | done | rfl | (simp only [List.length_drop, List.length_take]; rfl)) ?_; refine (put2 A2 c2 [who] _ (Kd.R_reads' HO.out).2.2 (by simp)).mono ?_; rintro e w3 ⟨v3, rfl, ho, hbl⟩; refine ⟨_, rfl, ?_⟩; have HO2 := Aside0.mk (Kd.R_lower ho HB.out.size); have H1' := Aside0.mk (Kd.C_below H1.out hbl); have HB2 := Aside0.mk (below_step HB.out hbl); clear ho hbl HB HO H1; have HB := HB2; have H1 := H1'; clear HB2 H1') | ((with_reducible refine gate_dst (N := 14) rfl ?_); refine Kd.R_append_row (Value.int .u8) 0 (h1 := fun _ => rfl) (w0 := w) w.heap.size rfl _ _ 22 5 (.int .u8 0) 1 rfl Try.underlying22 info5 rfl (by decide) v3 (puts [who]) b (some ⟨gb, 0, none⟩) b.length c1 (fun _ => True) rfl rfl (fun _ _ => trivial) HO2.out H1.out HB.out HB.out.size (by have := hlen8.out; omega) ?_; intro v5 w5 ho hb hg_ hnew_; clear hg_ hnew_ HB; have HO := Aside0.mk ho; have HB := Aside0.mk hb; clear ho hb))
    go_ret
    exact ⟨_, rfl, by rw [HE.out]; exact HO.out, HB.out⟩

end Go.Proofs.Ytoljpojpncjmoaa.B
