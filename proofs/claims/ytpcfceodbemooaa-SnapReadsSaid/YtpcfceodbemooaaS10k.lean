/- Snap: known, SnapSame: walks. -/
import Derived.Test.YtpcfceodbemooaaS9
namespace Go.Proofs.Ytpcfceodbemooaa.B
open Go.RowKit Go.Proofs.YtpcfceodbemooaaW.PrintWords Go.Proofs.YtpcfceodbemooaaW.PrintLast Go.Proofs.YtpcfceodbemooaaW.PrintMore Go.Proofs.Ytpcfceodbemooaa.PSnapBytes
attribute [local go_sem] max2_int min2_int max_two min_two max_three min_three max_four min_four
set_option linter.unusedVariables false
set_option linter.unusedSimpArgs false
theorem known_ok : sOk (sbytes st0) = true := by kernel_rfl
theorem known_read : sRead (sbytes st0) = st0 := by unfold sRead; rw [known_ok, if_pos rfl]; kernel_rfl
theorem known_len : (sbytes st0).length = 104 := by kernel_rfl
theorem st0_bd (M : Nat) : st0.Bd M := ⟨Nat.zero_le _, Nat.zero_le _, fun _ h => (List.not_mem_nil h).elim, Nat.zero_le _, Nat.zero_le _, fun _ h => (List.not_mem_nil h).elim, Nat.zero_le _, Nat.zero_le _, fun _ h => (List.not_mem_nil h).elim, Nat.zero_le _, Nat.zero_le _⟩
set_option maxHeartbeats 4000000 in
theorem known24 (w : World) : Calls Try.prog 13 #[] w fun e w' => e = .returned (.bool true) ∧ Below w.heap.size w w' := by
  have HB := Aside0.mk (Below.refl w.heap.size w)
  obtain ⟨SB, hSB⟩ : ∃ x, sbytes st0 = x := ⟨_, rfl⟩
  have HI := Aside0.mk (show IsB SB by rw [← hSB]; exact sbytes_bytes _)
  have HL := Aside0.mk (show SB.length = 104 by rw [← hSB]; exact known_len)
  have HK := Aside0.mk (show sOk SB = true ∧ sRead SB = st0 by rw [← hSB]; exact ⟨known_ok, known_read⟩)
  have HS := Aside0.mk hSB
  have hl1 : ((SB.length : Int) == 104) = true := by rw [HL.out]; rfl
  clear hSB
  go_enter Try.func13, Try.ntmps13
  go_wp2_with (first | ((with_reducible refine gate_dst (N := 5) rfl ?_); (try (refine gate_guard (by rfl) ?_; dsimp only)); refine goesL_ (some 5) rfl rfl Try.func8 (by kernel_rfl) rfl #[.agg #[.int .i64 0, .slice none 0 0, .slice none 0 0, .slice none 0 0, .slice none 0 0, .slice none 0 0, .slice none 0 0, .slice none 0 0, .slice none 0 0, .int .i64 0, .bool false]] rfl (by (try simp only [List.map_toArray, List.map_cons, List.map_nil]); first | done | rfl | (simp only [List.length_drop, List.length_take]; rfl)) ?_; refine (snapBytes ⟨none, 0, none, 0, none, 0, none, 0, none, 0, none, 0, none, 0, none, 0⟩ st0 0 _ (no_bytes _) (st0_bd 0) (by omega) (by rw [known_len]; decide)).mono ?_; rintro e w2 ⟨v2, rfl, ho, hbl⟩; refine ⟨_, rfl, ?_⟩; rw [HS.out] at ho; have HO := Aside0.mk ho; have HB2 := Aside0.mk hbl; clear ho hbl HB; have HB := HB2; clear HB2; obtain ⟨A1, c1, e1⟩ := Kd.R_slice HO.out; subst e1) | ((with_reducible refine gate_dst (N := 8) rfl ?_); (try (refine gate_guard (by rfl) ?_; dsimp only)); refine goesL_ (some 8) rfl rfl Try.func9 (by kernel_rfl) rfl #[.slice A1 SB.length c1] rfl (by (try simp only [List.map_toArray, List.map_cons, List.map_nil]); first | done | rfl | (simp only [List.length_drop, List.length_take]; rfl)) ?_; refine (snapRead A1 c1 SB _ (Kd.R_reads' HO.out).2.2 (Kd.R_reads' HO.out).2.1 HI.out (by have := HL.out; omega)).mono ?_; rintro e w3 ⟨h3, rfl, hr, hbl⟩; refine ⟨_, rfl, ?_⟩; rw [HK.out.1, HK.out.2]; rw [HK.out.2] at hr; have HR := Aside0.mk hr; have HB2 := Aside0.mk (below_step HB.out hbl); clear hr hbl HB; have HB := HB2; clear HB2; obtain ⟨q1, r1, q2, r2, q3, r3, q4, r4, q5, r5, q6, r6, q7, r7, q8, r8⟩ := h3) | ((with_reducible refine gate_dst (N := 20) rfl ?_); (try (refine gate_guard (by rfl) ?_; dsimp only)); refine goesL_ (some 20) rfl rfl Try.func12 (by kernel_rfl) rfl #[.agg #[.int .i64 0, .slice q1 0 r1, .slice q2 0 r2, .slice q3 0 r3, .slice q4 0 r4, .slice q5 0 r5, .slice q6 0 r6, .slice q7 0 r7, .slice q8 0 r8, .int .i64 0, .bool false], .agg #[.int .i64 0, .slice none 0 0, .slice none 0 0, .slice none 0 0, .slice none 0 0, .slice none 0 0, .slice none 0 0, .slice none 0 0, .slice none 0 0, .int .i64 0, .bool false]] rfl (by (try simp only [List.map_toArray, List.map_cons, List.map_nil]); first | done | rfl | (simp only [List.length_drop, List.length_take]; rfl)) ?_; refine (snapSame ⟨q1, r1, q2, r2, q3, r3, q4, r4, q5, r5, q6, r6, q7, r7, q8, r8⟩ ⟨none, 0, none, 0, none, 0, none, 0, none, 0, none, 0, none, 0, none, 0⟩ st0 st0 0 _ (HR.out.below (below_alloc (Below.refl _ _) _)) (no_bytes _) (by decide) (st0_bd 0)).mono ?_; rintro e w4 ⟨rfl, hbl⟩; refine ⟨_, rfl, ?_⟩; rw [decide_eq_true (rfl : st0 = st0)]; have HB2 := Aside0.mk (below_step (below_alloc HB.out _) hbl); clear hbl HB; have HB := HB2; clear HB2))
  go_ret
  exact ⟨rfl, HB.out⟩
end Go.Proofs.Ytpcfceodbemooaa.B
