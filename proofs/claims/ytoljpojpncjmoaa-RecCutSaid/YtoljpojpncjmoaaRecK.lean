/- girolaw5.known: it holds. girolaw5.RecPuts: the walk. -/
import Derived.Test.YtoljpojpncjmoaaRec2
import Derived.Lib.SlBytesConst
namespace Go.Proofs.Ytoljpojpncjmoaa.B
open Go.RowKit Go.Proofs.YtoljpojpncjmoaaW.PrintWords Go.Proofs.YtoljpojpncjmoaaW.PrintLast Go.Proofs.YtoljpojpncjmoaaW.PrintMore
attribute [local go_sem] max2_int min2_int max_two min_two max_three min_three max_four min_four
set_option linter.unusedVariables false
set_option linter.unusedSimpArgs false

theorem cstr5 {W : World} {A : Option Addr} {c : Nat} {x : List Int} (h : Kd.C (Kd.int .u8) W A x.length x) : (convert 22 9 (.slice A x.length c)).run Try.prog W = .ok (.string (strOfNums x)) W := Kd.C_string (P := Try.prog) (c := c) Try.underlying22 Try.underlying5 Try.underlying9 h
def kx5 : List Int := [0, 1, 97, 98]
theorem kx5_s : scan kx5 = ([[97]], 1) := by decide +kernel
theorem kx5_b : IsB kx5 := by intro x hx; simp only [kx5, List.mem_cons, List.not_mem_nil, or_false] at hx; omega
theorem kx5_p : recp [97] = [0, 1, 97] := by decide +kernel

set_option maxHeartbeats 1000000 in
theorem known5 (w : World) : Calls Try.prog 24 #[] w fun e w' => e = .returned (.bool true) ∧ Below w.heap.size w w' := by
  have kc := fun (w : World) (C : Array Value) (n c : Nat) => Lib.run_convert_bytes_const (P := Try.prog) w 22 5 C n c Try.underlying22 Try.underlying5
  have HB := Aside0.mk (Below.refl w.heap.size w)
  go_enter Try.func24, Try.ntmps24
  go_wp2_with (first | ((with_reducible refine gate_dst (N := 8) rfl ?_); (try (refine gate_guard (by rfl) ?_; dsimp only)); go_loud (refine goesL_ (some 8) rfl rfl Try.func19 (by kernel_rfl) rfl #[.slice (some ⟨w.heap.size, 0, none⟩) 1 1] rfl (by (try simp only [List.map_toArray, List.map_cons, List.map_nil]); first | done | rfl | (simp only [List.length_drop, List.length_take]; rfl)) ?_; refine (rput (some ⟨w.heap.size, 0, none⟩) 1 [97] _ (C_const w [97] _ _ _ rfl (by decide)) (by decide) (by decide)).mono ?_; rintro e w2 ⟨v2, rfl, ho, hbl⟩; refine ⟨_, rfl, ?_⟩; rw [kx5_p] at ho; rw [show recok [97] = true from rfl]; have HB2 := Aside0.mk (below_step (below_alloc HB.out _) hbl); clear HB hbl; have HB := HB2; clear HB2; obtain ⟨A2, c2, e2⟩ := Kd.R_slice ho; subst e2; have H2 := Aside0.mk (Kd.R_reads' ho).2.2; clear ho)) | ((with_reducible refine gate_dst (N := 14) rfl ?_); (try (refine gate_guard (by rfl) ?_; dsimp only)); go_loud (refine goesL_ (some 14) rfl rfl Try.func21 (by kernel_rfl) rfl #[.slice (some ⟨w2.heap.size, 0, none⟩) 4 4] rfl (by (try simp only [List.map_toArray, List.map_cons, List.map_nil]); first | done | rfl | (simp only [List.length_drop, List.length_take]; rfl)) ?_; refine (rscan (some ⟨w2.heap.size, 0, none⟩) 4 kx5 _ (C_const w2 kx5 _ _ _ rfl (by decide)) (by decide) kx5_b (by decide)).mono ?_; rintro e w3 ⟨v3, rfl, ho, hbl⟩; refine ⟨_, rfl, ?_⟩; rw [kx5_s] at ho; rw [kx5_s]; have HB2 := Aside0.mk (below_step (below_alloc HB.out _) hbl); have hb23 := below_step (below_alloc (Below.refl _ _) _) hbl; have hs1 := cstr5 (c := c2) (Kd.C_below H2.out hb23); clear HB hbl hb23 H2; have HB := HB2; clear HB2; obtain ⟨A3, c3, e3⟩ := Kd.S_slice ho; subst e3; obtain ⟨ad, A4, c4, ea, hx, hxl, hxC⟩ := at_L1 (Kd.S_reads' ho).2.2 0 (by omega) (by decide); cases ea; have hs2 := cstr5 (c := c4) hxC; rw [show ((0 : Int)).toNat = 0 from rfl, Addr.add_zero', show rd_L1 [[97]] 0 = [97] from rfl, show ([97] : List Int).length = 1 from rfl] at hx; rw [show strOfNums [0, 1, 97] = ⟨#[0, 1, 97]⟩ from rfl, show ([0, 1, 97] : List Int).length = 3 from rfl] at hs1; rw [show rd_L1 [[97]] 0 = [97] from rfl, show strOfNums [97] = ⟨#[97]⟩ from rfl, show ([97] : List Int).length = 1 from rfl] at hs2; clear ho hxC hxl)))
  go_ret
  exact ⟨rfl, HB.out⟩

set_option maxHeartbeats 2000000 in
theorem lawRPuts (A : Option Addr) (c : Nat) (l : List Int) (w : World) (hr : Kd.C (Kd.int .u8) w A l.length l) (hc : l.length ≤ c) (hb : IsB l) (hl : l.length ≤ 140737488351232) :
    Calls Try.prog 3 #[.slice A l.length c] w fun e w' => e = .returned (.bool true) ∧ Below w.heap.size w w' := by
  have HR := Aside0.mk hr
  have HI := Aside0.mk hb
  have HC := Aside0.mk hc
  clear hr hb hc
  have HB := Aside0.mk (Below.refl w.heap.size w)
  by_cases h4 : 1000 < l.length
  · have h4b : decide (1000 < (l.length : Int)) = true := decide_eq_true (by omega)
    go_enter Try.func3, Try.ntmps3
    go_wp2
    go_ret
    exact ⟨rfl, HB.out⟩
  · have h4b : decide (1000 < (l.length : Int)) = false := decide_eq_false (by omega)
    have hpl : (recp l).length ≤ 1002 := by rw [recp_length (by omega)]; omega
    obtain ⟨p, hp⟩ : ∃ p, p = recp l := ⟨_, rfl⟩
    obtain ⟨sl, hsl⟩ : ∃ sl, sl = (scan l).1 := ⟨_, rfl⟩
    obtain ⟨sn, hsn⟩ : ∃ sn, sn = (scan l).2 := ⟨_, rfl⟩
    rw [← hp] at hpl
    have HS := Aside0.mk (scan_facts HI.out (by omega))
    rw [← hsl] at HS
    have HE := Aside0.mk (And.intro hp (And.intro hsl hsn))
    clear hp hsl hsn
    have hsll := HS.out.1
    go_enter Try.func3, Try.ntmps3
    go_wp2_with (first | ((with_reducible refine gate_dst (N := 16) rfl ?_); (try (refine gate_guard (by rfl) ?_; dsimp only)); go_loud (refine goesL_ (some 16) rfl rfl Try.func19 (by kernel_rfl) rfl #[.slice A l.length c] rfl (by (try simp only [List.map_toArray, List.map_cons, List.map_nil]); first | done | rfl | (simp only [List.length_drop, List.length_take]; rfl)) ?_; refine (rput A c l _ HR.out HC.out hl).mono ?_; rintro e w1 ⟨v1, rfl, ho, hbl⟩; refine ⟨_, rfl, ?_⟩; rw [← HE.out.1] at ho; have HR_ := Aside0.mk (Kd.C_below HR.out hbl); clear HR; have HR := HR_; clear HR_; have HB_ := Aside0.mk (below_step HB.out hbl); clear HB; have HB := HB_; clear HB_; clear hbl; obtain ⟨A1, c1, e1⟩ := Kd.R_slice ho; subst e1; have H1 := Aside0.mk (Kd.R_reads' ho).2.2; clear ho)) | ((with_reducible refine gate_dst (N := 21) rfl ?_); (try (refine gate_guard (by rfl) ?_; dsimp only)); go_loud (refine goesL_ (some 21) rfl rfl Try.func20 (by kernel_rfl) rfl #[.slice A l.length c] rfl (by (try simp only [List.map_toArray, List.map_cons, List.map_nil]); first | done | rfl | (simp only [List.length_drop, List.length_take]; rfl)) ?_; refine (rput5 A c l _ HR.out HC.out hl).mono ?_; rintro e w2 ⟨v2, rfl, ho, hbl⟩; refine ⟨_, rfl, ?_⟩; rw [← HE.out.1] at ho; have HR_ := Aside0.mk (Kd.C_below HR.out hbl); clear HR; have HR := HR_; clear HR_; have H1_ := Aside0.mk (Kd.C_below H1.out hbl); clear H1; have H1 := H1_; clear H1_; have HB_ := Aside0.mk (below_step HB.out hbl); clear HB; have HB := HB_; clear HB_; clear hbl; obtain ⟨A2, c2, e2⟩ := Kd.R_slice ho; subst e2; have H2 := Aside0.mk (Kd.R_reads' ho).2.2; clear ho)) | ((with_reducible refine gate_dst (N := 26) rfl ?_); (try (refine gate_guard (by rfl) ?_; dsimp only)); go_loud (refine goesL_ (some 26) rfl rfl Try.func21 (by kernel_rfl) rfl #[.slice A l.length c] rfl (by (try simp only [List.map_toArray, List.map_cons, List.map_nil]); first | done | rfl | (simp only [List.length_drop, List.length_take]; rfl)) ?_; refine (rscan A c l _ HR.out HC.out HI.out (by omega)).mono ?_; rintro e w3 ⟨v3, rfl, ho, hbl⟩; refine ⟨_, rfl, ?_⟩; rw [← HE.out.2.1] at ho; rw [← HE.out.2.2]; have HR_ := Aside0.mk (Kd.C_below HR.out hbl); clear HR; have HR := HR_; clear HR_; have H1_ := Aside0.mk (Kd.C_below H1.out hbl); clear H1; have H1 := H1_; clear H1_; have H2_ := Aside0.mk (Kd.C_below H2.out hbl); clear H2; have H2 := H2_; clear H2_; have HB_ := Aside0.mk (below_step HB.out hbl); clear HB; have HB := HB_; clear HB_; clear hbl; obtain ⟨A3, c3, e3⟩ := Kd.S_slice ho; subst e3; have H3 := Aside0.mk (Kd.S_reads' ho).2.2; clear ho)) | ((with_reducible refine gate_dst (N := 31) rfl ?_); (try (refine gate_guard (by rfl) ?_; dsimp only)); go_loud (refine goesL_ (some 31) rfl rfl Try.func22 (by kernel_rfl) rfl #[.slice A l.length c] rfl (by (try simp only [List.map_toArray, List.map_cons, List.map_nil]); first | done | rfl | (simp only [List.length_drop, List.length_take]; rfl)) ?_; refine (rscan5 A c l _ HR.out HC.out HI.out (by omega)).mono ?_; rintro e w4 ⟨v4, rfl, ho, hbl⟩; refine ⟨_, rfl, ?_⟩; rw [← HE.out.2.1] at ho; rw [← HE.out.2.2]; have HR_ := Aside0.mk (Kd.C_below HR.out hbl); clear HR; have HR := HR_; clear HR_; have H1_ := Aside0.mk (Kd.C_below H1.out hbl); clear H1; have H1 := H1_; clear H1_; have H2_ := Aside0.mk (Kd.C_below H2.out hbl); clear H2; have H2 := H2_; clear H2_; have H3_ := Aside0.mk (Kd.C_below H3.out hbl); clear H3; have H3 := H3_; clear H3_; have HB_ := Aside0.mk (below_step HB.out hbl); clear HB; have HB := HB_; clear HB_; clear hbl; obtain ⟨A4, c4, e4⟩ := Kd.S_slice ho; subst e4; have H4 := Aside0.mk (Kd.S_reads' ho).2.2; have hs1 := cstr5 (c := c1) H1.out; have hs2 := cstr5 (c := c2) H2.out; clear ho)) | ((with_reducible refine gate_dst (N := 47) rfl ?_); (try (refine gate_guard (by rfl) ?_; dsimp only)); go_loud (refine goesL_ (some 47) rfl rfl Try.func23 (by kernel_rfl) rfl #[.slice A3 sl.length c3, .slice A4 sl.length c4] rfl (by (try simp only [List.map_toArray, List.map_cons, List.map_nil]); first | done | rfl | (simp only [List.length_drop, List.length_take]; rfl)) ?_; refine (same5 A3 c3 sl A4 c4 sl _ H3.out H4.out HS.out.2 HS.out.2 (by omega)).mono ?_; rintro e w5 ⟨rfl, hd⟩; refine ⟨_, rfl, ?_⟩; have hbl := hd.below; clear hd hs1 hs2; rw [decide_eq_true (rfl : sl = sl)]; have HB_ := Aside0.mk (below_step HB.out hbl); clear HB; have HB := HB_; clear HB_; clear hbl)) | ((with_reducible refine gate_dst (N := 55) rfl ?_); (try (refine gate_guard (by rfl) ?_; dsimp only)); go_loud (refine goesL_ (some 55) rfl rfl Try.func24 (by kernel_rfl) rfl #[] rfl (by (try simp only [List.map_toArray, List.map_cons, List.map_nil]); first | done | rfl | (simp only [List.length_drop, List.length_take]; rfl)) ?_; refine (known5 _).mono ?_; rintro e w7 ⟨rfl, hbl⟩; refine ⟨_, rfl, ?_⟩; have HB_ := Aside0.mk (below_step HB.out hbl); clear HB; have HB := HB_; clear HB_; clear hbl)))
    go_ret
    exact ⟨rfl, HB.out⟩
end Go.Proofs.Ytoljpojpncjmoaa.B
