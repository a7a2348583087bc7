/- girolaw2.WordOwn: the walk. -/
import Derived.Test.YtoljpojpncjmoaaWordK
namespace Go.Proofs.Ytoljpojpncjmoaa.B
open Go.RowKit Go.Proofs.YtoljpojpncjmoaaW.PrintWords Go.Proofs.YtoljpojpncjmoaaW.PrintLast Go.Proofs.YtoljpojpncjmoaaW.PrintMore
attribute [local go_sem] max2_int min2_int max_two min_two max_three min_three max_four min_four
set_option linter.unusedVariables false
set_option linter.unusedSimpArgs false

set_option maxHeartbeats 2000000 in
theorem lawOwn (A : Option Addr) (c : Nat) (l : List Int) (w : World) (hr : Kd.C (Kd.int .i64) w A l.length l) (hc : l.length ≤ c) (hn : IsN l) (hl : l.length ≤ 17592186043904) :
    Calls Try.prog 9 #[.slice A l.length c] w fun e w' => e = .returned (.bool true) ∧ Below w.heap.size w w' := by
  have HR := Aside0.mk hr
  have HI := Aside0.mk hn
  have HC := Aside0.mk hc
  clear hr hn hc
  have HB := Aside0.mk (Below.refl w.heap.size w)
  by_cases h1 : l.length < 1
  · have h1b : decide ((l.length : Int) < 1) = true := decide_eq_true (by omega)
    go_enter Try.func9, Try.ntmps9
    go_wp2
    go_ret
    exact ⟨rfl, HB.out⟩
  · have h1b : decide ((l.length : Int) < 1) = false := decide_eq_false (by omega)
    by_cases h40 : 40 < l.length
    · have h40b : decide (40 < (l.length : Int)) = true := decide_eq_true (by omega)
      go_enter Try.func9, Try.ntmps9
      go_wp2
      go_ret
      exact ⟨rfl, HB.out⟩
    · have h40b : decide (40 < (l.length : Int)) = false := decide_eq_false (by omega)
      have hlp : 0 < l.length := by omega
      have hl40 : l.length ≤ 40 := by omega
      obtain ⟨r, hrr⟩ : ∃ r, r = row l := ⟨_, rfl⟩
      have HRR := Aside0.mk hrr
      have hrl : r.length ≤ 328 := by rw [hrr, row_length]; omega
      clear hrr h1 h40
      have RW : Aside0 (∀ (v : Value) (w1 w' : World), Kd.R (Kd.int .u8) 5 w' w1.heap.size (fun _ => True) v (row l) → Kd.R (Kd.int .u8) 5 w' w1.heap.size (fun _ => True) v r) := ⟨fun v _ w' h => by rw [HRR.out]; exact h⟩
      have HN := Aside0.mk (show nextB r = true ∧ nextL r = l ∧ nextR r = [] by rw [HRR.out]; have := next_row HI.out (by omega) []; rwa [List.append_nil] at this)
      have HRB := Aside0.mk (show IsB r by rw [HRR.out]; exact row_bytes l)
      have hneq : ((l.length : Int) != (l.length : Int)) = false := by simp
      go_enter Try.func9, Try.ntmps9
      go_wp2_with (first | ((with_reducible refine gate_dst (N := 19) rfl ?_); (try (refine gate_guard (by rfl) ?_; dsimp only)); refine goesL_ (some 19) rfl rfl Try.func31 (by kernel_rfl) rfl #[.slice A l.length c] rfl (by (try simp only [List.map_toArray, List.map_cons, List.map_nil]); first | done | rfl | (simp only [List.length_drop, List.length_take]; rfl)) ?_; refine (row2 A c l _ HR.out hl).mono ?_; rintro e w1 ⟨v1, rfl, ho, hbl⟩; refine ⟨_, rfl, ?_⟩; replace ho := RW.out _ _ _ ho; have HR_ := Aside0.mk (Kd.C_below HR.out hbl); clear HR; have HR := HR_; clear HR_; have HB_ := Aside0.mk (below_step HB.out hbl); clear HB; have HB := HB_; clear HB_; clear hbl; obtain ⟨A1, c1, e1⟩ := Kd.R_slice ho; subst e1; have H1 := Aside0.mk (Kd.R_reads' ho).2.2; have HC1 := Aside0.mk (Kd.R_reads' ho).2.1; clear ho) | ((with_reducible refine gate_dst (N := 22) rfl ?_); (try (refine gate_guard (by rfl) ?_; dsimp only)); refine goesL_ (some 22) rfl rfl Try.func27 (by kernel_rfl) rfl #[.slice A1 r.length c1] rfl (by (try simp only [List.map_toArray, List.map_cons, List.map_nil]); first | done | rfl | (simp only [List.length_drop, List.length_take]; rfl)) ?_; refine (wnext A1 c1 r _ H1.out HC1.out HRB.out (by omega)).mono ?_; rintro e w2 ⟨v2, A2, c2, rfl, ho, h3, hc3, hbl⟩; refine ⟨_, rfl, ?_⟩; rw [HN.out.2.1] at ho; rw [HN.out.1]; rw [HN.out.2.2] at h3 ⊢; obtain ⟨g, k2, rfl, hg1, hg2, _⟩ := Kd.R_form ho hlp; have hcell := (Kd.R_celln (0 : Int) ho 0 (by omega) (by omega)).1; have hfro := (Kd.R_celln (0 : Int) ho 0 (by omega) (by omega)).2; rw [show ((0 : Int)).toNat = 0 from rfl] at hcell hfro; have HBL := Aside0.mk hbl; have HG := Aside0.mk hg1; clear hbl hg1 ho h3 hc3) | ((with_reducible refine gate_dst (N := 38) rfl ?_); (try (refine gate_guard (by rfl) ?_; dsimp only)); refine goesL_ (some 38) rfl rfl Try.func27 (by kernel_rfl) rfl #[.slice A1 r.length c1] rfl (by (try simp only [List.map_toArray, List.map_cons, List.map_nil]); first | done | rfl | (simp only [List.length_drop, List.length_take]; rfl)) ?_; refine (wnext A1 c1 r _ (Kd.C_below H1.out (HBL.out.setCell HG.out _)) HC1.out HRB.out (by omega)).mono ?_; rintro e w3 ⟨v3, A3, c3, rfl, ho, h3, hc3, hbl⟩; refine ⟨_, rfl, ?_⟩; rw [HN.out.2.1] at ho; rw [HN.out.1]; rw [HN.out.2.2] at h3 ⊢; obtain ⟨A4, c4, e4⟩ := Kd.R_slice ho; subst e4; have H4 := Aside0.mk (Kd.R_reads' ho).2.2; have hb13 := below_then (HBL.out.setCell HG.out _) (HBL.out.setCell HG.out _).size hbl; have H1' := Aside0.mk (Kd.C_below H1.out hb13); have HR' := Aside0.mk (Kd.C_below HR.out hb13); have HB' := Aside0.mk (below_step HB.out hb13); clear HB HR H1 hb13 hbl ho h3 hc3 hcell hfro HBL; have HB := HB'; have HR := HR'; have H1 := H1'; clear HB' HR' H1'))
      have ST := fun (W : World) (h : Aside0 (Kd.C (Kd.int .u8) W A1 r.length r)) => Kd.C_string (P := Try.prog) (c := c1) Try.underlying22 Try.underlying5 Try.underlying9 h.out
      have ST' := Aside0.mk ST
      have RW' := Aside0.mk (fun (v : Value) (w1 w' : World) (h : Kd.R (Kd.int .u8) 5 w' w1.heap.size (fun _ => True) v (row l)) => RW.out v w1 w' h)
      clear ST RW
      go_region_held (fun w' => Aside0 (Kd.C (Kd.int .i64) w' A l.length l) ∧ Aside0 (Kd.C (Kd.int .i64) w' A4 l.length l) ∧ Aside0 (Kd.C (Kd.int .u8) w' A1 r.length r) ∧ Aside0 (Below w.heap.size w w') ∧ (convert 22 9 (.slice A1 r.length c1)).run Try.prog w' = .ok (.string (strOfNums r)) w') (first | exact ⟨⟨Kd.C_drew HR.out⟩, ⟨Kd.C_drew H4.out⟩, ⟨Kd.C_drew H1.out⟩, ⟨below_drew1 HB.out⟩, ST'.out _ ⟨Kd.C_drew H1.out⟩⟩ | exact ⟨carryC hbl s1, carryC hbl s2, carryC hbl s3, carryB hbl s4, ST'.out _ (carryC hbl s3)⟩)
        (first | (go_at_call 29; obtain ⟨s1, s2, s3, s4, s5⟩ := (by assumption : Aside0 (Kd.C (Kd.int .i64) _ A l.length l) ∧ _ ∧ _ ∧ _ ∧ _); clear s5; refine (same2 A4 c4 l A c l _ s2.out s1.out (by omega)).mono ?_; rintro e w5 ⟨rfl, hd⟩; have hbl := hd.below; clear hd; rw [decide_eq_true (rfl : l = l)]) | (go_at_call 31; obtain ⟨s1, s2, s3, s4, s5⟩ := (by assumption : Aside0 (Kd.C (Kd.int .i64) _ A l.length l) ∧ _ ∧ _ ∧ _ ∧ _); clear s5; refine (row2 A c l _ s1.out hl).mono ?_; rintro e w6 ⟨v6, rfl, ho, hbl⟩; replace ho := RW'.out _ _ _ ho; obtain ⟨A6, c6, e6⟩ := Kd.R_slice ho; subst e6; have hs2 := Kd.C_string (P := Try.prog) (c := c6) Try.underlying22 Try.underlying5 Try.underlying9 (Kd.R_reads' ho).2.2; clear ho) | (go_at_call 30; obtain ⟨s1, s2, s3, s4, s5⟩ := (by assumption : Aside0 (Kd.C (Kd.int .i64) _ A l.length l) ∧ _ ∧ _ ∧ _ ∧ _); clear s5; refine (known2 _).mono ?_; rintro e w7 ⟨rfl, hbl⟩))
      obtain ⟨_, _, _, sB, _⟩ := (by assumption : Aside0 (Kd.C (Kd.int .i64) w7 A l.length l) ∧ _ ∧ _ ∧ _ ∧ _)
      go_wp2
      go_ret
      exact ⟨rfl, sB.out⟩
end Go.Proofs.Ytoljpojpncjmoaa.B
