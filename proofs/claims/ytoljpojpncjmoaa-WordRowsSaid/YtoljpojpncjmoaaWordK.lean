/- girolaw2.known: it holds. -/
import Derived.Test.YtoljpojpncjmoaaWord4
import Derived.Lib.SlBytesConst
namespace Go.Proofs.Ytoljpojpncjmoaa.B
open Go.RowKit Go.Proofs.YtoljpojpncjmoaaW.PrintWords Go.Proofs.YtoljpojpncjmoaaW.PrintLast Go.Proofs.YtoljpojpncjmoaaW.PrintMore
attribute [local go_sem] max2_int min2_int max_two min_two max_three min_three max_four min_four
set_option linter.unusedVariables false
set_option linter.unusedSimpArgs false

def kx : List Int := [0, 0, 0, 0, 0, 0, 0, 1, 0, 0, 0, 0, 0, 0, 0, 7, 97]
theorem kx_len : kx.length = 17 := rfl
theorem kx_B : nextB kx = true := by decide +kernel
theorem kx_L : nextL kx = [7] := by decide +kernel
theorem kx_R : nextR kx = [97] := by decide +kernel
theorem kx_b : IsB kx := by intro x hx; simp only [kx, List.mem_cons, List.not_mem_nil, or_false] at hx; omega
theorem kx_p : puts [-2] = [255, 255, 255, 255, 255, 255, 255, 254] := by decide +kernel

set_option maxHeartbeats 1000000 in
theorem known2 (w : World) : Calls Try.prog 30 #[] w fun e w' => e = .returned (.bool true) ∧ Below w.heap.size w w' := by
  have kc := fun (w : World) (C : Array Value) (n c : Nat) => Lib.run_convert_bytes_const (P := Try.prog) w 22 5 C n c Try.underlying22 Try.underlying5
  have HB := Aside0.mk (Below.refl w.heap.size w)
  go_enter Try.func30, Try.ntmps30
  go_wp2_with (first | ((with_reducible refine gate_dst (N := 7) rfl ?_); (try (refine gate_guard (by rfl) ?_; dsimp only)); refine goesL_ (some 7) rfl rfl Try.func27 (by kernel_rfl) rfl #[.slice (some ⟨w.heap.size, 0, none⟩) 17 17] rfl (by (try simp only [List.map_toArray, List.map_cons, List.map_nil]); first | done | rfl | (simp only [List.length_drop, List.length_take]; rfl)) ?_; refine (wnext (some ⟨w.heap.size, 0, none⟩) 17 kx _ (C_const w kx _ _ _ rfl (by decide)) (by decide) kx_b (by decide)).mono ?_; rintro e w2 ⟨v2, A2, c2, rfl, ho, hr, hc, hbl⟩; refine ⟨_, rfl, ?_⟩; rw [kx_L] at ho; rw [kx_B, kx_R]; rw [kx_R] at hr; have HO2 := Aside0.mk ho; have HB2 := Aside0.mk (below_step (below_alloc HB.out _) hbl); have HR2 := Aside0.mk hr; clear HB ho hbl hr hc; have HB := HB2; clear HB2; obtain ⟨A3, c3, e3⟩ := Kd.R_slice HO2.out; subst e3) | ((with_reducible refine gate_dst (N := 12) rfl ?_); (try (refine gate_guard (by rfl) ?_; dsimp only)); refine goesL_ (some 12) rfl rfl Try.func32 (by kernel_rfl) rfl #[.slice (some ⟨w2.heap.size, 0, none⟩) 1 1] rfl (by (try simp only [List.map_toArray, List.map_cons, List.map_nil]); first | done | rfl | (simp only [List.length_drop, List.length_take]; rfl)) ?_; refine (wput (some ⟨w2.heap.size, 0, none⟩) 1 [-2] _ (C_const w2 [-2] _ _ _ rfl (by decide)) (by decide)).mono ?_; rintro e w3 ⟨v4, rfl, ho, hbl⟩; refine ⟨_, rfl, ?_⟩; rw [kx_p] at ho; have HB2 := Aside0.mk (below_step (below_alloc HB.out _) hbl); have hb3 := below_step (below_alloc (Below.refl _ _) _) hbl; have hRr := Kd.C_below HR2.out hb3; have hOr := Kd.R_below HO2.out hb3; obtain ⟨A4, c4, e4⟩ := Kd.R_slice ho; subst e4; have hs1 := Kd.C_string (P := Try.prog) (c := c4) Try.underlying22 Try.underlying5 Try.underlying9 (Kd.R_reads' ho).2.2; have hs2 := Kd.C_string (P := Try.prog) (c := c2) Try.underlying22 Try.underlying5 Try.underlying9 hRr; obtain ⟨ad, ea, hcell⟩ := Kd.at_int (Kd.R_reads' hOr).2.2 0 (by omega) (by simp); cases ea; rw [show ((0 : Int)).toNat = 0 from rfl, Addr.add_zero', show rd [7] 0 = 7 from rfl] at hcell; rw [show strOfNums [255, 255, 255, 255, 255, 255, 255, 254] = ⟨#[255, 255, 255, 255, 255, 255, 255, 254]⟩ from rfl, show ([255, 255, 255, 255, 255, 255, 255, 254] : List Int).length = 8 from rfl] at hs1; rw [show strOfNums [97] = ⟨#[97]⟩ from rfl, show ([97] : List Int).length = 1 from rfl] at hs2; clear HB hb3 ho hbl hRr hOr HO2 HR2; have HB := HB2; clear HB2))
  go_ret
  exact ⟨rfl, HB.out⟩
end Go.Proofs.Ytoljpojpncjmoaa.B
