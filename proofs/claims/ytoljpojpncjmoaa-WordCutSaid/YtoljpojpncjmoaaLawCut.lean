/- girolaw2.WordCut: the walk. -/
import Derived.Test.YtoljpojpncjmoaaWordK
namespace Go.Proofs.Ytoljpojpncjmoaa.B
open Go.RowKit Go.Proofs.YtoljpojpncjmoaaW.PrintWords Go.Proofs.YtoljpojpncjmoaaW.PrintLast Go.Proofs.YtoljpojpncjmoaaW.PrintMore
attribute [local go_sem] max2_int min2_int max_two min_two max_three min_three max_four min_four
set_option linter.unusedVariables false
set_option linter.unusedSimpArgs false

set_option maxHeartbeats 2000000 in
theorem lawCut (A : Option Addr) (c : Nat) (l : List Int) (cut : Int) (w : World) (hr : Kd.C (Kd.int .i64) w A l.length l) (hc : l.length ≤ c) (hn : IsN l) (hl : l.length ≤ 17592186043904) (hcut : -9223372036854775808 ≤ cut ∧ cut < 9223372036854775808) :
    Calls Try.prog 8 #[.slice A l.length c, .int .i64 cut] w fun e w' => e = .returned (.bool true) ∧ Below w.heap.size w w' := by
  have HR := Aside0.mk hr
  have HI := Aside0.mk hn
  have HC := Aside0.mk hc
  clear hr hn hc
  have HB := Aside0.mk (Below.refl w.heap.size w)
  have HL := Aside0.mk (row_length l)
  obtain ⟨r, hrr⟩ : ∃ r, r = row l := ⟨_, rfl⟩
  have HRR := Aside0.mk hrr
  rw [← hrr] at HL
  have hrl : r.length ≤ 140737488351240 := by have := HL.out; omega
  clear hrr
  have RW : Aside0 (∀ (v : Value) (w' : World), Kd.R (Kd.int .u8) 5 w' w.heap.size (fun _ => True) v (row l) → Kd.R (Kd.int .u8) 5 w' w.heap.size (fun _ => True) v r) := ⟨fun v w' h => by rw [HRR.out]; exact h⟩
  by_cases h1 : 40 < l.length ∨ cut < 0 ∨ (r.length : Int) ≤ cut
  · by_cases h40 : 40 < l.length
    · have h40b : decide (40 < (l.length : Int)) = true := decide_eq_true (by omega)
      clear h1
      go_enter Try.func8, Try.ntmps8
      go_wp2_with (first | ((with_reducible refine gate_dst (N := 10) rfl ?_); (try (refine gate_guard (by rfl) ?_; dsimp only)); refine goesL_ (some 10) rfl rfl Try.func31 (by kernel_rfl) rfl #[.slice A l.length c] rfl (by (try simp only [List.map_toArray, List.map_cons, List.map_nil]); first | done | rfl | (simp only [List.length_drop, List.length_take]; rfl)) ?_; refine (row2 A c l _ HR.out hl).mono ?_; rintro e w1 ⟨v1, rfl, ho, hbl⟩; refine ⟨_, rfl, ?_⟩; replace ho := RW.out _ _ ho; have HR_ := Aside0.mk (Kd.C_below HR.out hbl); clear HR; have HR := HR_; clear HR_; have HB_ := Aside0.mk (below_step HB.out hbl); clear HB; have HB := HB_; clear HB_; clear hbl; obtain ⟨A1, c1, e1⟩ := Kd.R_slice ho; subst e1; clear ho))
      go_ret
      exact ⟨rfl, HB.out⟩
    · have h40b : decide (40 < (l.length : Int)) = false := decide_eq_false (by omega)
      by_cases h0 : cut < 0
      · have h0b : decide (cut < 0) = true := decide_eq_true h0
        clear h1
        go_enter Try.func8, Try.ntmps8
        go_wp2_with (first | ((with_reducible refine gate_dst (N := 10) rfl ?_); (try (refine gate_guard (by rfl) ?_; dsimp only)); refine goesL_ (some 10) rfl rfl Try.func31 (by kernel_rfl) rfl #[.slice A l.length c] rfl (by (try simp only [List.map_toArray, List.map_cons, List.map_nil]); first | done | rfl | (simp only [List.length_drop, List.length_take]; rfl)) ?_; refine (row2 A c l _ HR.out hl).mono ?_; rintro e w1 ⟨v1, rfl, ho, hbl⟩; refine ⟨_, rfl, ?_⟩; replace ho := RW.out _ _ ho; have HR_ := Aside0.mk (Kd.C_below HR.out hbl); clear HR; have HR := HR_; clear HR_; have HB_ := Aside0.mk (below_step HB.out hbl); clear HB; have HB := HB_; clear HB_; clear hbl; obtain ⟨A1, c1, e1⟩ := Kd.R_slice ho; subst e1; clear ho))
        go_ret
        exact ⟨rfl, HB.out⟩
      · have h0b : decide (cut < 0) = false := decide_eq_false h0
        have hcb : decide ((r.length : Int) ≤ cut) = true := decide_eq_true (by omega)
        clear h1
        go_enter Try.func8, Try.ntmps8
        go_wp2_with (first | ((with_reducible refine gate_dst (N := 10) rfl ?_); (try (refine gate_guard (by rfl) ?_; dsimp only)); refine goesL_ (some 10) rfl rfl Try.func31 (by kernel_rfl) rfl #[.slice A l.length c] rfl (by (try simp only [List.map_toArray, List.map_cons, List.map_nil]); first | done | rfl | (simp only [List.length_drop, List.length_take]; rfl)) ?_; refine (row2 A c l _ HR.out hl).mono ?_; rintro e w1 ⟨v1, rfl, ho, hbl⟩; refine ⟨_, rfl, ?_⟩; replace ho := RW.out _ _ ho; have HR_ := Aside0.mk (Kd.C_below HR.out hbl); clear HR; have HR := HR_; clear HR_; have HB_ := Aside0.mk (below_step HB.out hbl); clear HB; have HB := HB_; clear HB_; clear hbl; obtain ⟨A1, c1, e1⟩ := Kd.R_slice ho; subst e1; clear ho))
        go_ret
        exact ⟨rfl, HB.out⟩
  · have h40 : l.length ≤ 40 := by omega
    have h0 : 0 ≤ cut := by omega
    have hcl : cut < (r.length : Int) := by omega
    have hrl2 : r.length ≤ 328 := by have := HL.out; omega
    have h40b : decide (40 < (l.length : Int)) = false := decide_eq_false (by omega)
    have h0b : decide (cut < 0) = false := decide_eq_false (by omega)
    have hcb : decide ((r.length : Int) ≤ cut) = false := decide_eq_false (by omega)
    clear h1
    have HX := Aside0.mk (show nextB (r.take cut.toNat) = false by rw [HRR.out]; exact next_cut (by omega) _ (by rw [← HRR.out]; omega))
    have HRB := Aside0.mk (show IsB r by rw [HRR.out]; exact row_bytes l)
    go_enter Try.func8, Try.ntmps8
    go_wp2_with (first | ((with_reducible refine gate_dst (N := 10) rfl ?_); (try (refine gate_guard (by rfl) ?_; dsimp only)); refine goesL_ (some 10) rfl rfl Try.func31 (by kernel_rfl) rfl #[.slice A l.length c] rfl (by (try simp only [List.map_toArray, List.map_cons, List.map_nil]); first | done | rfl | (simp only [List.length_drop, List.length_take]; rfl)) ?_; refine (row2 A c l _ HR.out hl).mono ?_; rintro e w1 ⟨v1, rfl, ho, hbl⟩; refine ⟨_, rfl, ?_⟩; replace ho := RW.out _ _ ho; have HR_ := Aside0.mk (Kd.C_below HR.out hbl); clear HR; have HR := HR_; clear HR_; have HB_ := Aside0.mk (below_step HB.out hbl); clear HB; have HB := HB_; clear HB_; clear hbl; obtain ⟨A1, c1, e1⟩ := Kd.R_slice ho; subst e1; have H1 := Aside0.mk (Kd.R_reads' ho).2.2; have HC1 := Aside0.mk (Kd.R_reads' ho).2.1; clear ho; obtain ⟨x, hx, hxr, hxC, hxc⟩ := cutH (P := Try.prog) (Kd.int .u8) 22 5 Try.underlying22 info5 .i64 A1 c1 r cut cut.toNat (by omega) (by omega) HC1.out) | ((with_reducible refine gate_dst (N := 28) rfl ?_); (try (refine gate_guard (by rfl) ?_; dsimp only)); refine goesL_ (some 28) rfl rfl Try.func27 (by kernel_rfl) rfl #[.slice A1 x.length c1] rfl (by (try simp only [List.map_toArray, List.map_cons, List.map_nil]); first | done | rfl | (simp only [List.length_drop, List.length_take]; rfl)) ?_; refine (wnext A1 c1 x _ (hxC.out _ H1.out) hxc (by rw [hx.out]; exact HRB.out.take _) (by rw [hx.out, List.length_take]; omega)).mono ?_; rintro e w2 ⟨v2, A2, c2, rfl, ho, h3, hc3, hbl⟩; refine ⟨_, rfl, ?_⟩; rw [hx.out, nextL_no HX.out] at ho; rw [hx.out, nextR_no HX.out, HX.out]; have HR_ := Aside0.mk (Kd.C_below HR.out hbl); clear HR; have HR := HR_; clear HR_; have HB_ := Aside0.mk (below_step HB.out hbl); clear HB; have HB := HB_; clear HB_; clear hbl; obtain ⟨A3, c3, e3⟩ := Kd.R_slice ho; subst e3; clear ho h3 hc3) | ((with_reducible refine gate_dst (N := 43) rfl ?_); (try (refine gate_guard (by rfl) ?_; dsimp only)); refine goesL_ (some 43) rfl rfl Try.func30 (by kernel_rfl) rfl #[] rfl (by (try simp only [List.map_toArray, List.map_cons, List.map_nil]); first | done | rfl | (simp only [List.length_drop, List.length_take]; rfl)) ?_; refine (known2 _).mono ?_; rintro e w7 ⟨rfl, hbl⟩; refine ⟨_, rfl, ?_⟩; have HB_ := Aside0.mk (below_step HB.out hbl); clear HB; have HB := HB_; clear HB_; clear hbl))
    go_ret
    exact ⟨rfl, HB.out⟩
end Go.Proofs.Ytoljpojpncjmoaa.B
