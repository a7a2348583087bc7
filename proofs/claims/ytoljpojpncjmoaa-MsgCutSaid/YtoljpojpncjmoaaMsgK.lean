/- girolaw3.known: it holds. -/
import Derived.Test.YtoljpojpncjmoaaMsg4
namespace Go.Proofs.Ytoljpojpncjmoaa.B
open Go.RowKit Go.Proofs.YtoljpojpncjmoaaW.PrintWords Go.Proofs.YtoljpojpncjmoaaW.PrintLast Go.Proofs.YtoljpojpncjmoaaW.PrintMore
attribute [local go_sem] max2_int min2_int max_two min_two max_three min_three max_four min_four
set_option linter.unusedVariables false
set_option linter.unusedSimpArgs false

theorem k14_m : (readM [14]).cells = #[.int .i64 14, .int .i64 0, .int .i64 0, .int .i64 0, .int .i64 0, .int .i64 0, .int .i64 0] := by rw [show readM [14] = msOf 14 [] by unfold readM; rw [show readK [14] = true by decide +kernel]; rfl]; rfl
theorem k14_e : readE [14] = 0 := by decide +kernel
theorem k14_b : bytesM ⟨14, 0, 0, 0, 0, 0, 0⟩ = [14] := by decide +kernel
theorem k14_i : IsB [14] := by intro x hx; rw [List.mem_singleton.1 hx]; omega
theorem many1 : many 1 = 6 := by decide +kernel

set_option maxHeartbeats 1000000 in
theorem known3 (w : World) : Calls Try.prog 37 #[] w fun e w' => e = .returned (.bool true) ∧ Below w.heap.size w w' := by
  have HB := Aside0.mk (Below.refl w.heap.size w)
  go_enter Try.func37, Try.ntmps37
  go_wp2_with (first | ((with_reducible refine gate_dst (N := 5) rfl ?_); (try (refine gate_guard (by rfl) ?_; dsimp only)); refine goesL_ (some 5) rfl rfl Try.func35 (by kernel_rfl) rfl #[.slice (some ⟨w.heap.size, 0, none⟩) 1 1] rfl (by (try simp only [List.map_toArray, List.map_cons, List.map_nil]); first | done | rfl | (simp only [List.length_drop, List.length_take]; rfl)) ?_; refine (mread (some ⟨w.heap.size, 0, none⟩) 1 [14] _ (C_const w [14] _ _ _ rfl (by decide)) (by decide) k14_i (by decide)).mono ?_; rintro e w2 ⟨rfl, hbl⟩; refine ⟨_, rfl, ?_⟩; rw [k14_m, k14_e]; have HB2 := Aside0.mk (below_step (below_alloc HB.out _) hbl); clear HB hbl; have HB := HB2; clear HB2) | ((with_reducible refine gate_dst (N := 9) rfl ?_); (try (refine gate_guard (by rfl) ?_; dsimp only)); refine goesL_ (some 9) rfl rfl Try.func38 (by kernel_rfl) rfl #[.agg #[.int .i64 14, .int .i64 0, .int .i64 0, .int .i64 0, .int .i64 0, .int .i64 0, .int .i64 0]] rfl (by (try simp only [List.map_toArray, List.map_cons, List.map_nil]); first | done | rfl | (simp only [List.length_drop, List.length_take]; rfl)) ?_; refine (mbytes 14 0 0 0 0 0 0 _).mono ?_; rintro e w3 ⟨v4, rfl, ho, hbl⟩; refine ⟨_, rfl, ?_⟩; rw [k14_b] at ho; have HB2 := Aside0.mk (below_step (below_alloc HB.out _) hbl); obtain ⟨A4, c4, e4⟩ := Kd.R_slice ho; subst e4; have hs1 := Kd.C_string (P := Try.prog) (c := c4) Try.underlying22 Try.underlying5 Try.underlying9 (Kd.R_reads' ho).2.2; rw [show strOfNums [14] = ⟨#[14]⟩ from rfl, show ([14] : List Int).length = 1 from rfl] at hs1; have hcell := pw_cell_below hbl (show (w2.alloc (.cells #[.int .i64 14, .int .i64 0, .int .i64 0, .int .i64 0, .int .i64 0, .int .i64 0, .int .i64 0] 54)).cell? ⟨w2.heap.size, 0, none⟩ = some (.int .i64 14) by rw [World.cell?_alloc_mark]; rfl); clear HB ho hbl; have HB := HB2; clear HB2) | ((with_reducible refine gate_dst (N := 22) rfl ?_); (try (refine gate_guard (by rfl) ?_; dsimp only)); refine goesL_ (some 22) rfl rfl Try.func39 (by kernel_rfl) rfl #[.int .i64 1] rfl (by (try simp only [List.map_toArray, List.map_cons, List.map_nil]); first | done | rfl | (simp only [List.length_drop, List.length_take]; rfl)) ?_; refine (mmany 1 _).mono ?_; rintro e w4 ⟨rfl, hbl⟩; refine ⟨_, rfl, ?_⟩; rw [many1]; have HB2 := Aside0.mk (below_step HB.out hbl); clear HB hbl; have HB := HB2; clear HB2))
  go_ret
  exact ⟨rfl, HB.out⟩
end Go.Proofs.Ytoljpojpncjmoaa.B
