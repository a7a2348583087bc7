/- msg.Bytes: the walk. -/
import Derived.Test.YtoljpojpncjmoaaMsg2
import Derived.Deep.RegionHeldLaw
namespace Go.Proofs.Ytoljpojpncjmoaa.B
open Go.RowKit Go.Proofs.YtoljpojpncjmoaaW.PrintWords Go.Proofs.YtoljpojpncjmoaaW.PrintLast Go.Proofs.YtoljpojpncjmoaaW.PrintMore
attribute [local go_sem] max2_int min2_int max_two min_two max_three min_three max_four min_four
set_option linter.unusedVariables false
set_option linter.unusedSimpArgs false

/-- A message as bytes; none: nothing. -/
def bytesM (m : Ms) : List Int := if isM m then (m.k % 256) :: puts (m.l.take (many m.k).toNat) else []

theorem set2_get (L : List Value) (d : Nat) (v : Value) (h : 2 < L.length) : ((L.set d v).set 2 v).toArray.getD 2 undef = v := by simp [Array.getD_eq_getD_getElem?, h]

set_option maxHeartbeats 2000000 in
theorem mbytes (k p0 p1 p2 p3 p4 p5 : Int) (w : World) : Calls Try.prog 38 #[.agg #[.int .i64 k, .int .i64 p0, .int .i64 p1, .int .i64 p2, .int .i64 p3, .int .i64 p4, .int .i64 p5]] w fun e w' => ∃ v : Value, e = .returned v ∧ Kd.R (Kd.int .u8) 5 w' w.heap.size (fun _ => True) v (bytesM ⟨k, p0, p1, p2, p3, p4, p5⟩) ∧ Below w.heap.size w w' := by
  have HB := Aside0.mk (Below.refl w.heap.size w)
  obtain ⟨im, him⟩ : ∃ im, im = isM ⟨k, p0, p1, p2, p3, p4, p5⟩ := ⟨_, rfl⟩
  have HIM := Aside0.mk him
  have HS0 := Aside0.mk (show BS w w.heap.size [p0, p1, p2, p3, p4, p5] (w.alloc (.cells #[.int .i64 k, .int .i64 p0, .int .i64 p1, .int .i64 p2, .int .i64 p3, .int .i64 p4, .int .i64 p5] 54)) ∧ (w.alloc (.cells #[.int .i64 k, .int .i64 p0, .int .i64 p1, .int .i64 p2, .int .i64 p3, .int .i64 p4, .int .i64 p5] 54)).cell? ⟨w.heap.size, 0, none⟩ = some (.int .i64 k) from ⟨⟨⟨C_blk (k := .i64) (t := 54) (blk_new w _) [p0, p1, p2, p3, p4, p5] rfl (by simp)⟩, ⟨below_alloc HB.out _⟩⟩, by rw [World.cell?_alloc_mark]; rfl⟩)
  cases im with
  | false =>
    have HE := Aside0.mk (show bytesM ⟨k, p0, p1, p2, p3, p4, p5⟩ = [] by unfold bytesM; rw [← him]; rfl)
    clear him
    go_enter Try.func38, Try.ntmps38
    go_wp2_with (first | ((with_reducible refine gate_dst (N := 4) rfl ?_); (try (refine gate_guard (by rfl) ?_; dsimp only)); refine goesL_ (some 4) rfl rfl Try.func44 (by kernel_rfl) rfl #[.agg #[.int .i64 k, .int .i64 p0, .int .i64 p1, .int .i64 p2, .int .i64 p3, .int .i64 p4, .int .i64 p5]] rfl (by (try simp only [List.map_toArray, List.map_cons, List.map_nil]); first | done | rfl | (simp only [List.length_drop, List.length_take]; rfl)) ?_; refine (mis k p0 p1 p2 p3 p4 p5 _).mono ?_; rintro e w1 ⟨rfl, hbl⟩; refine ⟨_, rfl, ?_⟩; rw [← HIM.out]; have HB' := Aside0.mk (below_step (below_alloc HB.out _) hbl); clear HB hbl; have HB := HB'; clear HB'))
    go_ret
    exact ⟨_, rfl, by rw [HE.out]; exact Kd.R_nil _ _ _ _ _, HB.out⟩
  | true =>
    obtain ⟨n, hn⟩ : ∃ n : Nat, many k = n := ⟨(many k).toNat, by
      have h := him.symm
      unfold isM at h
      rw [Bool.and_eq_true, decide_eq_true_iff] at h
      have := h.1
      simp only at this
      omega⟩
    have hn6 : n ≤ 6 := by have := (many_bd k).2; omega
    have HN := Aside0.mk hn
    obtain ⟨ys, hys, hrun, hC⟩ := arrH (P := Try.prog) 52 2 6 Try.underlying52 info2 ⟨w.heap.size, 1, none⟩ [p0, p1, p2, p3, p4, p5] rfl n hn6
    have hyl : ys.length ≤ 6 := by rw [hys.out, List.length_take]; omega
    have HE := Aside0.mk (show bytesM ⟨k, p0, p1, p2, p3, p4, p5⟩ = [IntKind.u8.wrap k] ++ puts ys by unfold bytesM; rw [← him, if_pos rfl, hys.out]; show _ :: puts (_) = _; rw [show many (Ms.k ⟨k, p0, p1, p2, p3, p4, p5⟩) = n from hn]; rfl)
    have hpl := puts_length ys
    obtain ⟨py, hpy⟩ : ∃ py, py = puts ys := ⟨_, rfl⟩
    rw [← hpy] at hpl HE
    have HPY := Aside0.mk hpy
    have hpyl : py.length ≤ 48 := by omega
    clear him hn hpl hpy
    go_enter Try.func38, Try.ntmps38
    go_wp2_with (first | ((with_reducible refine gate_dst (N := 4) rfl ?_); (try (refine gate_guard (by rfl) ?_; dsimp only)); refine goesL_ (some 4) rfl rfl Try.func44 (by kernel_rfl) rfl #[.agg #[.int .i64 k, .int .i64 p0, .int .i64 p1, .int .i64 p2, .int .i64 p3, .int .i64 p4, .int .i64 p5]] rfl (by (try simp only [List.map_toArray, List.map_cons, List.map_nil]); first | done | rfl | (simp only [List.length_drop, List.length_take]; rfl)) ?_; refine (mis k p0 p1 p2 p3 p4 p5 _).mono ?_; rintro e w1 ⟨rfl, hbl⟩; refine ⟨_, rfl, ?_⟩; rw [← HIM.out]; have HS1 := Aside0.mk (show BS w1 w.heap.size [p0, p1, p2, p3, p4, p5] w1 ∧ w1.cell? ⟨w.heap.size, 0, none⟩ = some (.int .i64 k) from ⟨⟨(BS.below hbl HS0.out).1.1, ⟨Below.refl _ _⟩⟩, (BS.below hbl HS0.out).2⟩); have HBW := Aside0.mk (below_step (below_alloc HB.out _) hbl); have hcell := HS1.out.2; clear HB hbl HS0))
    go_region_held_law (fun w' => BS w1 w.heap.size [p0, p1, p2, p3, p4, p5] w' ∧ w'.cell? ⟨w.heap.size, 0, none⟩ = some (.int .i64 k)) (first | exact BS.alloc (by assumption) _ | exact BS.of HS1.out hbF | exact BS.below hbl (by assumption) | exact BS.below (below_drew (Below.refl _ _)) HS1.out)
      (first | (go_at_call 39; refine (mmany k _).mono ?_; rintro e wA ⟨rfl, hblA⟩; have hbl := hblA; rw [HN.out]) | (go_at_call 32; refine (wput (some ⟨w.heap.size, 1, none⟩) 6 ys _ (hC.out _ (BS.C (by assumption))) (by omega)).mono ?_; rintro e wB ⟨vB, rfl, hoB, hblB⟩; have hbl := hblB; rw [← HPY.out] at hoB; obtain ⟨AB, cB, eB⟩ := Kd.R_slice hoB; subst eB) | (refine app_step (w0 := w1) w1.heap.size (by rfl) (.tmp 9) (.tmp 15) 22 5 rfl Try.underlying22 info5 _ [IntKind.u8.wrap k] py AB py.length cB rfl rfl (by first | exact Kd.R_below (Kd.R_below (R_blk w1.drew (IntKind.u8.wrap k) 5 w1.heap.size (Nat.le_refl _)) hblA) hblB | exact Kd.R_below (R_blk wA (IntKind.u8.wrap k) 5 w1.heap.size hblA.size) hblB | exact R_blk wB (IntKind.u8.wrap k) 5 w1.heap.size (Nat.le_trans hblA.size hblB.size)) (by first | exact (Kd.R_reads' hoB).2.2 | exact Kd.C_alloc (Kd.R_reads' hoB).2.2 _) (by exact BS.B (by assumption)) (by exact (BS.B (by assumption)).size) (by simp; omega) ?_; intro v5 w5 hoF hbF hgF; clear hgF; have HO5 := Aside0.mk (Kd.R_lower hoF HBW.out.size); have HB5 := Aside0.mk (below_step HBW.out hbF)))
    all_goals (go_wp2; go_ret; exact ⟨v5, by first | rfl | exact congrArg _ (set2_get _ _ _ (by decide)) | simp, by rw [HE.out]; exact HO5.out, HB5.out⟩)
end Go.Proofs.Ytoljpojpncjmoaa.B
