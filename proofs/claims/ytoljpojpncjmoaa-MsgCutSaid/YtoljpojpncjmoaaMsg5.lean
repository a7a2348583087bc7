/- msg.Cmd: the walk. -/
import Derived.Test.YtoljpojpncjmoaaMsgK
namespace Go.Proofs.Ytoljpojpncjmoaa.B
open Go.RowKit Go.Proofs.YtoljpojpncjmoaaW.PrintWords Go.Proofs.YtoljpojpncjmoaaW.PrintLast Go.Proofs.YtoljpojpncjmoaaW.PrintMore
attribute [local go_sem] max2_int min2_int max_two min_two max_three min_three max_four min_four
set_option linter.unusedVariables false
set_option linter.unusedSimpArgs false

/-- A command as bytes; none: nothing. -/
def cmdM (who : Int) (m : Ms) : List Int := if bytesM m = [] then [] else puts [who] ++ bytesM m
theorem bytesM_len (m : Ms) : (bytesM m).length ≤ 49 := by
  unfold bytesM
  split
  · rw [List.length_cons, puts_length, List.length_take]
    have := (many_bd m.k).2
    omega
  · simp
theorem bytesM_nil (m : Ms) : bytesM m = [] ↔ isM m = false := by
  unfold bytesM
  cases isM m <;> simp

set_option maxHeartbeats 1000000 in
theorem mcmd (who k p0 p1 p2 p3 p4 p5 : Int) (w : World) : Calls Try.prog 45 #[.agg #[.int .i64 who, .int .i64 k, .int .i64 p0, .int .i64 p1, .int .i64 p2, .int .i64 p3, .int .i64 p4, .int .i64 p5]] w fun e w' => ∃ v : Value, e = .returned v ∧ Kd.R (Kd.int .u8) 5 w' w.heap.size (fun _ => True) v (cmdM who ⟨k, p0, p1, p2, p3, p4, p5⟩) ∧ Below w.heap.size w w' := by
  have HB := Aside0.mk (Below.refl w.heap.size w)
  obtain ⟨b, hb⟩ : ∃ b, b = bytesM ⟨k, p0, p1, p2, p3, p4, p5⟩ := ⟨_, rfl⟩
  have hlen : b.length ≤ 49 := by rw [hb]; exact bytesM_len _
  have HBM := Aside0.mk hb
  by_cases hz : b = []
  · have HE := Aside0.mk (show cmdM who ⟨k, p0, p1, p2, p3, p4, p5⟩ = [] by unfold cmdM; rw [← hb, if_pos hz])
    have hz0 : ((b.length : Int) == 0) = true := by rw [hz]; rfl
    clear hb hz
    go_enter Try.func45, Try.ntmps45
    go_wp2_with (first | ((with_reducible refine gate_dst (N := 6) rfl ?_); (try (refine gate_guard (by rfl) ?_; dsimp only)); refine goesL_ (some 6) rfl rfl Try.func38 (by kernel_rfl) rfl #[.agg #[.int .i64 k, .int .i64 p0, .int .i64 p1, .int .i64 p2, .int .i64 p3, .int .i64 p4, .int .i64 p5]] rfl (by (try simp only [List.map_toArray, List.map_cons, List.map_nil]); first | done | rfl | (simp only [List.length_drop, List.length_take]; rfl)) ?_; refine (mbytes k p0 p1 p2 p3 p4 p5 _).mono ?_; rintro e w1 ⟨v, rfl, ho, hbl⟩; refine ⟨_, rfl, ?_⟩; rw [← HBM.out] at ho; obtain ⟨A1, c1, e1⟩ := Kd.R_slice ho; subst e1; have HB2 := Aside0.mk (below_step (below_alloc HB.out _) hbl); clear HB hbl ho; have HB := HB2; clear HB2))
    go_ret
    exact ⟨_, rfl, by rw [HE.out]; exact Kd.R_nil _ _ _ _ _, HB.out⟩
  · have HE := Aside0.mk (show cmdM who ⟨k, p0, p1, p2, p3, p4, p5⟩ = puts [who] ++ b by unfold cmdM; rw [← hb, if_neg hz])
    have hz0 : ((b.length : Int) == 0) = false := by
      have := List.length_pos_iff.2 hz
      rw [beq_eq_false_iff_ne]
      omega
    have hlen8 := Aside0.mk (show (puts [who]).length = 8 from rfl)
    clear hb hz
    go_enter Try.func45, Try.ntmps45
    go_wp2_with (first | ((with_reducible refine gate_dst (N := 6) rfl ?_); (try (refine gate_guard (by rfl) ?_; dsimp only)); refine goesL_ (some 6) rfl rfl Try.func38 (by kernel_rfl) rfl #[.agg #[.int .i64 k, .int .i64 p0, .int .i64 p1, .int .i64 p2, .int .i64 p3, .int .i64 p4, .int .i64 p5]] rfl (by (try simp only [List.map_toArray, List.map_cons, List.map_nil]); first | done | rfl | (simp only [List.length_drop, List.length_take]; rfl)) ?_; refine (mbytes k p0 p1 p2 p3 p4 p5 _).mono ?_; rintro e w1 ⟨v, rfl, ho, hbl⟩; refine ⟨_, rfl, ?_⟩; rw [← HBM.out] at ho; obtain ⟨A1, c1, e1⟩ := Kd.R_slice ho; subst e1; have HB2 := Aside0.mk (below_step (below_alloc HB.out _) hbl); have hcell := pw_cell_below hbl (show (w.alloc (.cells #[.int .i64 who, .int .i64 k, .int .i64 p0, .int .i64 p1, .int .i64 p2, .int .i64 p3, .int .i64 p4, .int .i64 p5] 63)).cell? ⟨w.heap.size, 0, none⟩ = some (.int .i64 who) by rw [World.cell?_alloc_mark]; rfl); have H1 := Aside0.mk (Kd.R_reads' ho).2.2; have HB1 := Aside0.mk (Below.refl w1.heap.size w1); clear HB hbl ho; have HB := HB2; clear HB2) | ((with_reducible refine gate_dst (N := 12) rfl ?_); refine Kd.R_lit (Kd.int .i64) (w0 := w1) w1.heap.size 2 rfl (N := 12) rfl (xs := [who]) (inner := [.int .i64 who]) (ok := fun _ => True) (okp := fun _ => True) (by first | (go_simp; done) | (go_simp; rfl) | (go_simp; exact ⟨rfl, rfl⟩)) (lit_one _) (fun _ hk => hk) trivial HB1.out HB1.out.size (by simp) ?_; intro v2 w2 ho hb hg_ hnew_; have H1' := Aside0.mk (Kd.C_below H1.out hb); have HB2 := Aside0.mk (below_step HB.out hb); clear hg_ hnew_ HB HB1 H1; have H1 := H1'; clear H1'; have HO := Aside0.mk ho; have HB := HB2; clear HB2 ho hb; obtain ⟨A2, c2, e2⟩ := Kd.R_slice HO.out; subst e2) | ((with_reducible refine gate_dst (N := 13) rfl ?_); (try (refine gate_guard (by rfl) ?_; dsimp only)); refine goesL_ (some 13) rfl rfl Try.func32 (by kernel_rfl) rfl #[.slice A2 1 c2] rfl (by (try simp only [List.map_toArray, List.map_cons, List.map_nil]); first | done | rfl | (simp only [List.length_drop, List.length_take]; rfl)) ?_; refine (wput A2 c2 [who] _ (Kd.R_reads' HO.out).2.2 (by simp)).mono ?_; rintro e w3 ⟨v3, rfl, ho, hbl⟩; refine ⟨_, rfl, ?_⟩; have HO2 := Aside0.mk (Kd.R_lower ho HB.out.size); have H1' := Aside0.mk (Kd.C_below H1.out hbl); have HB2 := Aside0.mk (below_step HB.out hbl); clear ho hbl HB HO H1; have HB := HB2; have H1 := H1'; clear HB2 H1') | ((with_reducible refine gate_dst (N := 15) rfl ?_); refine Kd.R_append_row (Value.int .u8) 0 (h1 := fun _ => rfl) (w0 := w) w.heap.size rfl _ _ 22 5 (.int .u8 0) 1 rfl Try.underlying22 info5 rfl (by decide) v3 (puts [who]) b A1 b.length c1 (fun _ => True) rfl rfl (fun _ _ => trivial) HO2.out H1.out HB.out HB.out.size (by have := hlen8.out; omega) ?_; intro v5 w5 ho hb hg_ hnew_; clear hg_ hnew_ HB; have HO := Aside0.mk ho; have HB := Aside0.mk hb; clear ho hb))
    go_ret
    exact ⟨_, rfl, by rw [HE.out]; exact HO.out, HB.out⟩
end Go.Proofs.Ytoljpojpncjmoaa.B
