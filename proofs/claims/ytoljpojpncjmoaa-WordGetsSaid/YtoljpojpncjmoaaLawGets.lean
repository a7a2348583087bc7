/- girolaw2.WordGets: the walk. -/
import Derived.Test.YtoljpojpncjmoaaWordK
namespace Go.Proofs.Ytoljpojpncjmoaa.B
open Go.RowKit Go.Proofs.YtoljpojpncjmoaaW.PrintWords Go.Proofs.YtoljpojpncjmoaaW.PrintLast Go.Proofs.YtoljpojpncjmoaaW.PrintMore
attribute [local go_sem] max2_int min2_int max_two min_two max_three min_three max_four min_four
set_option linter.unusedVariables false
set_option linter.unusedSimpArgs false

set_option maxHeartbeats 2000000 in
theorem lawGets (A : Option Addr) (c : Nat) (l : List Int) (w : World) (hr : Kd.C (Kd.int .u8) w A l.length l) (hc : l.length ≤ c) (hb : IsB l) (hl : l.length ≤ 140737488351232) :
    Calls Try.prog 7 #[.slice A l.length c] w fun e w' => e = .returned (.bool true) ∧ Below w.heap.size w w' := by
  have HR := Aside0.mk hr
  have HI := Aside0.mk hb
  have HC := Aside0.mk hc
  clear hr hb hc
  have HB := Aside0.mk (Below.refl w.heap.size w)
  by_cases h4 : 400 < l.length
  · have h4b : decide (400 < (l.length : Int)) = true := decide_eq_true (by omega)
    go_enter Try.func7, Try.ntmps7
    go_wp2
    go_ret
    exact ⟨rfl, HB.out⟩
  · have h4b : decide (400 < (l.length : Int)) = false := decide_eq_false (by omega)
    have hg : (gets l).length ≤ 50 := by rw [gets_length]; omega
    have hgl : (getl l).length ≤ 50 := by
      unfold getl
      split
      · exact hg
      · simp
    have hn : (nextL l).length ≤ 50 := by
      unfold nextL
      split
      · rw [gets_length, List.length_take, List.length_drop]; omega
      · simp
    have hx : (nextR l).length ≤ 400 := by
      unfold nextR
      split
      · rw [List.length_drop]; omega
      · simp
    have HN := Aside0.mk (nextR_bytes HI.out)
    go_enter Try.func7, Try.ntmps7
    go_wp2_with (first | ((with_reducible refine gate_dst (N := 18) rfl ?_); (try (refine gate_guard (by rfl) ?_; dsimp only)); refine goesL_ (some 18) rfl rfl Try.func25 (by kernel_rfl) rfl #[.slice A l.length c] rfl (by (try simp only [List.map_toArray, List.map_cons, List.map_nil]); first | done | rfl | (simp only [List.length_drop, List.length_take]; rfl)) ?_; refine (wget A c l _ (Kd.C_below HR.out HB.out) HC.out HI.out (by omega)).mono ?_; rintro e w1 ⟨v1, rfl, ho, hbl⟩; refine ⟨_, rfl, ?_⟩; have HR_ := Aside0.mk (Kd.C_below HR.out hbl); clear HR; have HR := HR_; clear HR_; have HB_ := Aside0.mk (below_step HB.out hbl); clear HB; have HB := HB_; clear HB_; clear hbl; obtain ⟨A1, c1, e1⟩ := Kd.R_slice ho; subst e1; have H1 := Aside0.mk (Kd.R_reads' ho).2.2; clear ho) | ((with_reducible refine gate_dst (N := 23) rfl ?_); (try (refine gate_guard (by rfl) ?_; dsimp only)); refine goesL_ (some 23) rfl rfl Try.func26 (by kernel_rfl) rfl #[.slice A l.length c] rfl (by (try simp only [List.map_toArray, List.map_cons, List.map_nil]); first | done | rfl | (simp only [List.length_drop, List.length_take]; rfl)) ?_; refine (get2 A c l _ HR.out HC.out HI.out (by omega)).mono ?_; rintro e w2 ⟨v2, rfl, ho, hbl⟩; refine ⟨_, rfl, ?_⟩; have HR_ := Aside0.mk (Kd.C_below HR.out hbl); clear HR; have HR := HR_; clear HR_; have H1_ := Aside0.mk (Kd.C_below H1.out hbl); clear H1; have H1 := H1_; clear H1_; have HB_ := Aside0.mk (below_step HB.out hbl); clear HB; have HB := HB_; clear HB_; clear hbl; obtain ⟨A2, c2, e2⟩ := Kd.R_slice ho; subst e2; have H2 := Aside0.mk (Kd.R_reads' ho).2.2; clear ho) | ((with_reducible refine gate_dst (N := 28) rfl ?_); (try (refine gate_guard (by rfl) ?_; dsimp only)); refine goesL_ (some 28) rfl rfl Try.func27 (by kernel_rfl) rfl #[.slice A l.length c] rfl (by (try simp only [List.map_toArray, List.map_cons, List.map_nil]); first | done | rfl | (simp only [List.length_drop, List.length_take]; rfl)) ?_; refine (wnext A c l _ HR.out HC.out HI.out (by omega)).mono ?_; rintro e w3 ⟨v3, A3, c3, rfl, ho, h3, hc3, hbl⟩; refine ⟨_, rfl, ?_⟩; have HR_ := Aside0.mk (Kd.C_below HR.out hbl); clear HR; have HR := HR_; clear HR_; have H1_ := Aside0.mk (Kd.C_below H1.out hbl); clear H1; have H1 := H1_; clear H1_; have H2_ := Aside0.mk (Kd.C_below H2.out hbl); clear H2; have H2 := H2_; clear H2_; have HB_ := Aside0.mk (below_step HB.out hbl); clear HB; have HB := HB_; clear HB_; clear hbl; have HX := Aside0.mk h3; obtain ⟨A5, c5, e5⟩ := Kd.R_slice ho; subst e5; have H3 := Aside0.mk (Kd.R_reads' ho).2.2; clear ho h3 hc3) | ((with_reducible refine gate_dst (N := 34) rfl ?_); (try (refine gate_guard (by rfl) ?_; dsimp only)); refine goesL_ (some 34) rfl rfl Try.func28 (by kernel_rfl) rfl #[.slice A l.length c] rfl (by (try simp only [List.map_toArray, List.map_cons, List.map_nil]); first | done | rfl | (simp only [List.length_drop, List.length_take]; rfl)) ?_; refine (next2 A c l _ HR.out HC.out HI.out (by omega)).mono ?_; rintro e w4 ⟨v4, A4, c4, rfl, ho, h3, hc3, hbl⟩; refine ⟨_, rfl, ?_⟩; have HR_ := Aside0.mk (Kd.C_below HR.out hbl); clear HR; have HR := HR_; clear HR_; have H1_ := Aside0.mk (Kd.C_below H1.out hbl); clear H1; have H1 := H1_; clear H1_; have H2_ := Aside0.mk (Kd.C_below H2.out hbl); clear H2; have H2 := H2_; clear H2_; have H3_ := Aside0.mk (Kd.C_below H3.out hbl); clear H3; have H3 := H3_; clear H3_; have HX_ := Aside0.mk (Kd.C_below HX.out hbl); clear HX; have HX := HX_; clear HX_; have HB_ := Aside0.mk (below_step HB.out hbl); clear HB; have HB := HB_; clear HB_; clear hbl; have HY := Aside0.mk h3; obtain ⟨A6, c6, e6⟩ := Kd.R_slice ho; subst e6; have H4 := Aside0.mk (Kd.R_reads' ho).2.2; clear ho h3 hc3) | ((with_reducible refine gate_dst (N := 40) rfl ?_); (try (refine gate_guard (by rfl) ?_; dsimp only)); refine goesL_ (some 40) rfl rfl Try.func29 (by kernel_rfl) rfl #[.slice A1 (getl l).length c1, .slice A2 (getl l).length c2] rfl (by (try simp only [List.map_toArray, List.map_cons, List.map_nil]); first | done | rfl | (simp only [List.length_drop, List.length_take]; rfl)) ?_; refine (same2 A1 c1 (getl l) A2 c2 (getl l) _ H1.out H2.out (by omega)).mono ?_; rintro e w5 ⟨rfl, hd⟩; refine ⟨_, rfl, ?_⟩; have hbl := hd.below; clear hd; rw [decide_eq_true (rfl : getl l = getl l)]; have HR_ := Aside0.mk (Kd.C_below HR.out hbl); clear HR; have HR := HR_; clear HR_; have H1_ := Aside0.mk (Kd.C_below H1.out hbl); clear H1; have H1 := H1_; clear H1_; have H2_ := Aside0.mk (Kd.C_below H2.out hbl); clear H2; have H2 := H2_; clear H2_; have H3_ := Aside0.mk (Kd.C_below H3.out hbl); clear H3; have H3 := H3_; clear H3_; have H4_ := Aside0.mk (Kd.C_below H4.out hbl); clear H4; have H4 := H4_; clear H4_; have HX_ := Aside0.mk (Kd.C_below HX.out hbl); clear HX; have HX := HX_; clear HX_; have HY_ := Aside0.mk (Kd.C_below HY.out hbl); clear HY; have HY := HY_; clear HY_; have HB_ := Aside0.mk (below_step HB.out hbl); clear HB; have HB := HB_; clear HB_; clear hbl) | ((with_reducible refine gate_dst (N := 49) rfl ?_); (try (refine gate_guard (by rfl) ?_; dsimp only)); refine goesL_ (some 49) rfl rfl Try.func29 (by kernel_rfl) rfl #[.slice A5 (nextL l).length c5, .slice A6 (nextL l).length c6] rfl (by (try simp only [List.map_toArray, List.map_cons, List.map_nil]); first | done | rfl | (simp only [List.length_drop, List.length_take]; rfl)) ?_; refine (same2 A5 c5 (nextL l) A6 c6 (nextL l) _ H3.out H4.out (by omega)).mono ?_; rintro e w6 ⟨rfl, hd⟩; refine ⟨_, rfl, ?_⟩; have hbl := hd.below; clear hd; rw [decide_eq_true (rfl : nextL l = nextL l)]; have HR_ := Aside0.mk (Kd.C_below HR.out hbl); clear HR; have HR := HR_; clear HR_; have HX_ := Aside0.mk (Kd.C_below HX.out hbl); clear HX; have HX := HX_; clear HX_; have HY_ := Aside0.mk (Kd.C_below HY.out hbl); clear HY; have HY := HY_; clear HY_; have HB_ := Aside0.mk (below_step HB.out hbl); clear HB; have HB := HB_; clear HB_; clear hbl; have hs1 := Kd.C_string (P := Try.prog) (c := c3) Try.underlying22 Try.underlying5 Try.underlying9 HX.out; have hs2 := Kd.C_string (P := Try.prog) (c := c4) Try.underlying22 Try.underlying5 Try.underlying9 HY.out) | ((with_reducible refine gate_dst (N := 64) rfl ?_); (try (refine gate_guard (by rfl) ?_; dsimp only)); refine goesL_ (some 64) rfl rfl Try.func30 (by kernel_rfl) rfl #[] rfl (by (try simp only [List.map_toArray, List.map_cons, List.map_nil]); first | done | rfl | (simp only [List.length_drop, List.length_take]; rfl)) ?_; refine (known2 _).mono ?_; rintro e w7 ⟨rfl, hbl⟩; refine ⟨_, rfl, ?_⟩; have HB_ := Aside0.mk (below_step HB.out hbl); clear HB; have HB := HB_; clear HB_; clear hbl))
    go_ret
    exact ⟨rfl, HB.out⟩
end Go.Proofs.Ytoljpojpncjmoaa.B
