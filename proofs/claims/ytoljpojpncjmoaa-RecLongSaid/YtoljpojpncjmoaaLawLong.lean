/- girolaw5.RecLong: the walk. -/
import Derived.Test.YtoljpojpncjmoaaRecK
namespace Go.Proofs.Ytoljpojpncjmoaa.B
open Go.RowKit Go.Proofs.YtoljpojpncjmoaaW.PrintWords Go.Proofs.YtoljpojpncjmoaaW.PrintLast Go.Proofs.YtoljpojpncjmoaaW.PrintMore
attribute [local go_sem] max2_int min2_int max_two min_two max_three min_three max_four min_four
set_option linter.unusedVariables false
set_option linter.unusedSimpArgs false

theorem scan_big {b : List Int} (h : 60000 < rd b 0 * 256 + rd b 1) : scan b = ([], (b.length : Int)) := by
  unfold scan
  simp only [scanK]
  split
  · rfl
  · rw [if_pos (Or.inl h)]
theorem rep_bytes (n : Nat) : IsB (List.replicate n 0) := fun x hx => by rw [(List.mem_replicate.1 hx).2]; omega

set_option maxRecDepth 100000 in
set_option maxHeartbeats 2000000 in
theorem lawLong (more : Int) (w : World) (hw : -9223372036854775808 ≤ more ∧ more < 9223372036854775808) :
    Calls Try.prog 5 #[.int .i64 more] w fun e w' => e = .returned (.bool true) ∧ Below w.heap.size w w' := by
  have HB := Aside0.mk (Below.refl w.heap.size w)
  by_cases h3 : more < -3
  · have h3b : decide (more < -3) = true := decide_eq_true h3
    go_enter Try.func5, Try.ntmps5
    go_wp2
    go_ret
    exact ⟨rfl, HB.out⟩
  · have h3b : decide (more < -3) = false := decide_eq_false h3
    by_cases h4 : 3 < more
    · have h4b : decide (3 < more) = true := decide_eq_true h4
      clear h3
      go_enter Try.func5, Try.ntmps5
      go_wp2
      go_ret
      exact ⟨rfl, HB.out⟩
    · have h4b : decide (3 < more) = false := decide_eq_false h4
      have hm0 : -3 ≤ more := by omega
      have hm1 : more ≤ 3 := by omega
      clear h3 h4
      obtain ⟨x, hx⟩ : ∃ x : List Int, x = List.replicate (60000 + more).toNat 0 := ⟨_, rfl⟩
      have HX := Aside0.mk hx
      have HXL := Aside0.mk (show (x.length : Int) = 60000 + more by rw [hx, List.length_replicate]; omega)
      have hxl : x.length ≤ 60003 := by have := HXL.out; omega
      clear hx
      obtain ⟨p, hp⟩ : ∃ p, p = recp x := ⟨_, rfl⟩
      have HP := Aside0.mk hp
      have HPL := Aside0.mk (show p.length = if more ≤ 0 then 2 + x.length else 0 by
        rw [hp]
        split
        · rw [recp_length (by have := HXL.out; omega)]
        · rw [recp_no (by have := HXL.out; omega)]; rfl)
      have HOK := Aside0.mk (show recok x = decide (more ≤ 0) by
        unfold recok
        rw [Bool.eq_iff_iff, decide_eq_true_iff, decide_eq_true_iff]
        have := HXL.out
        omega)
      clear hp
      obtain ⟨z, hz⟩ : ∃ z : List Int, z = [255, 255] ++ List.replicate 70000 0 := ⟨_, rfl⟩
      have HZ := Aside0.mk hz
      have hzl : z.length = 70002 := by rw [hz, List.length_append, List.length_replicate]; rfl
      have HZS := Aside0.mk (show scan z = ([], 70002) by
        rw [scan_big (by rw [hz]; rw [show rd ([255, 255] ++ List.replicate 70000 0) 0 = 255 from rfl, show rd ([255, 255] ++ List.replicate 70000 0) 1 = 255 from rfl]; omega), hzl]
        rfl)
      have HZB := Aside0.mk (show IsB z by rw [hz]; exact IsB.append (fun y hy => by simp only [List.mem_cons, List.not_mem_nil, or_false] at hy; omega) (rep_bytes _))
      have HZL := Aside0.mk hzl
      clear hz hzl
      by_cases hle : more ≤ 0
      · have hleb : decide (more ≤ 0) = true := decide_eq_true hle
        have hpl := HPL.out
        rw [if_pos hle] at hpl
        have HPL2 := Aside0.mk (show ((p.length : Int) == 60002 + more) = true by rw [beq_iff_eq]; have := HXL.out; omega)
        clear hpl
        have hpe := HPL2.out
        go_enter Try.func5, Try.ntmps5
        go_wp2_with (first | ((with_reducible refine gate_dst (N := 16) rfl ?_); refine Kd.R_make (Kd.int .u8) (w0 := w) w.heap.size 5 rfl (N := 16) rfl 22 _ _ rfl (60000 + more) rfl rfl Try.underlying22 (.int .u8 0) 1 info5 rfl (by decide) (by decide) 0 (ok := fun _ => True) (okp := fun _ => True) rfl (fun _ h => h) trivial (by omega) (by omega) HB.out HB.out.size ?_; intro v1 w1 ho hb hg_ hnew_; clear hg_ hnew_ HB; rw [← HX.out] at ho; have HB := Aside0.mk hb; obtain ⟨A1, c1, e1⟩ := Kd.R_slice ho; subst e1; have H1 := Aside0.mk (Kd.R_reads' ho); clear ho hb) | ((with_reducible refine gate_dst (N := 17) rfl ?_); (try (refine gate_guard (by rfl) ?_; dsimp only)); refine goesL_ (some 17) rfl rfl Try.func19 (by kernel_rfl) rfl #[.slice A1 x.length c1] rfl (by (try simp only [List.map_toArray, List.map_cons, List.map_nil]); first | done | rfl | (simp only [List.length_drop, List.length_take]; rfl)) ?_; refine (rput A1 c1 x _ H1.out.2.2 H1.out.2.1 (by omega)).mono ?_; rintro e w2 ⟨v2, rfl, ho, hbl⟩; refine ⟨_, rfl, ?_⟩; rw [← HP.out] at ho; rw [HOK.out, hleb]; have HB_ := Aside0.mk (below_step HB.out hbl); clear HB; have HB := HB_; clear HB_; clear hbl; obtain ⟨A2, c2, e2⟩ := Kd.R_slice ho; subst e2; clear ho) | ((with_reducible refine gate_dst (N := 21) rfl ?_); refine Kd.R_lit (Kd.int .u8) (w0 := w) w.heap.size 5 rfl (N := 21) rfl (xs := ([255, 255] : List Int)) (inner := [.int .u8 255, .int .u8 255]) (ok := fun _ => True) (okp := fun _ => True) (by first | (go_simp; done) | (go_simp; rfl) | (go_simp; exact ⟨rfl, rfl⟩)) (reps_map (Value.int .u8) [255, 255]) (fun _ hk => hk) trivial HB.out HB.out.size (by simp) ?_; intro v3 w3 ho hb hg_ hnew_; clear hg_ hnew_ HB; have HO := Aside0.mk ho; have HB := Aside0.mk hb; clear ho hb) | ((with_reducible refine gate_dst (N := 22) rfl ?_); refine Kd.R_append_zeros (Kd.int .u8) (w0 := w) w.heap.size rfl _ _ 22 3 5 (.int .u8 0) 1 rfl Try.underlying22 (k := .i64) Try.underlying3 info5 rfl (by decide) (by decide) v3 ([255, 255] : List Int) 0 70000 (fun _ => True) rfl rfl rfl (fun _ _ => trivial) HO.out (by decide) HB.out HB.out.size (by decide) ?_; intro v4 w4 ho hb hg_ hnew_; clear hg_ hnew_ HB HO; rw [show ((70000 : Int)).toNat = 70000 from rfl, ← HZ.out] at ho; have HB := Aside0.mk hb; obtain ⟨A4, c4, e4⟩ := Kd.R_slice ho; subst e4; have H4 := Aside0.mk (Kd.R_reads' ho); clear ho hb) | ((with_reducible refine gate_dst (N := 23) rfl ?_); (try (refine gate_guard (by rfl) ?_; dsimp only)); refine goesL_ (some 23) rfl rfl Try.func21 (by kernel_rfl) rfl #[.slice A4 z.length c4] rfl (by (try simp only [List.map_toArray, List.map_cons, List.map_nil]); first | done | rfl | (simp only [List.length_drop, List.length_take]; rfl)) ?_; refine (rscan A4 c4 z _ H4.out.2.2 H4.out.2.1 HZB.out (by have := HZL.out; omega)).mono ?_; rintro e w5 ⟨v5, rfl, ho, hbl⟩; refine ⟨_, rfl, ?_⟩; rw [HZS.out] at ho; rw [HZS.out]; have HB_ := Aside0.mk (below_step HB.out hbl); clear HB; have HB := HB_; clear HB_; clear hbl; obtain ⟨A5, c5, e5⟩ := Kd.S_slice ho; subst e5; clear ho) | ((with_reducible refine gate_dst (N := 59) rfl ?_); (try (refine gate_guard (by rfl) ?_; dsimp only)); refine goesL_ (some 59) rfl rfl Try.func24 (by kernel_rfl) rfl #[] rfl (by (try simp only [List.map_toArray, List.map_cons, List.map_nil]); first | done | rfl | (simp only [List.length_drop, List.length_take]; rfl)) ?_; refine (known5 _).mono ?_; rintro e w7 ⟨rfl, hbl⟩; refine ⟨_, rfl, ?_⟩; have HB_ := Aside0.mk (below_step HB.out hbl); clear HB; have HB := HB_; clear HB_; clear hbl))
        go_ret
        exact ⟨rfl, HB.out⟩
      · have hleb : decide (more ≤ 0) = false := decide_eq_false hle
        have hpl := HPL.out
        rw [if_neg hle] at hpl
        have HPL2 := Aside0.mk (show ((p.length : Int) == 0) = true by rw [beq_iff_eq]; omega)
        clear hpl
        have hpe := HPL2.out
        go_enter Try.func5, Try.ntmps5
        go_wp2_with (first | ((with_reducible refine gate_dst (N := 16) rfl ?_); refine Kd.R_make (Kd.int .u8) (w0 := w) w.heap.size 5 rfl (N := 16) rfl 22 _ _ rfl (60000 + more) rfl rfl Try.underlying22 (.int .u8 0) 1 info5 rfl (by decide) (by decide) 0 (ok := fun _ => True) (okp := fun _ => True) rfl (fun _ h => h) trivial (by omega) (by omega) HB.out HB.out.size ?_; intro v1 w1 ho hb hg_ hnew_; clear hg_ hnew_ HB; rw [← HX.out] at ho; have HB := Aside0.mk hb; obtain ⟨A1, c1, e1⟩ := Kd.R_slice ho; subst e1; have H1 := Aside0.mk (Kd.R_reads' ho); clear ho hb) | ((with_reducible refine gate_dst (N := 17) rfl ?_); (try (refine gate_guard (by rfl) ?_; dsimp only)); refine goesL_ (some 17) rfl rfl Try.func19 (by kernel_rfl) rfl #[.slice A1 x.length c1] rfl (by (try simp only [List.map_toArray, List.map_cons, List.map_nil]); first | done | rfl | (simp only [List.length_drop, List.length_take]; rfl)) ?_; refine (rput A1 c1 x _ H1.out.2.2 H1.out.2.1 (by omega)).mono ?_; rintro e w2 ⟨v2, rfl, ho, hbl⟩; refine ⟨_, rfl, ?_⟩; rw [← HP.out] at ho; rw [HOK.out, hleb]; have HB_ := Aside0.mk (below_step HB.out hbl); clear HB; have HB := HB_; clear HB_; clear hbl; obtain ⟨A2, c2, e2⟩ := Kd.R_slice ho; subst e2; clear ho) | ((with_reducible refine gate_dst (N := 21) rfl ?_); refine Kd.R_lit (Kd.int .u8) (w0 := w) w.heap.size 5 rfl (N := 21) rfl (xs := ([255, 255] : List Int)) (inner := [.int .u8 255, .int .u8 255]) (ok := fun _ => True) (okp := fun _ => True) (by first | (go_simp; done) | (go_simp; rfl) | (go_simp; exact ⟨rfl, rfl⟩)) (reps_map (Value.int .u8) [255, 255]) (fun _ hk => hk) trivial HB.out HB.out.size (by simp) ?_; intro v3 w3 ho hb hg_ hnew_; clear hg_ hnew_ HB; have HO := Aside0.mk ho; have HB := Aside0.mk hb; clear ho hb) | ((with_reducible refine gate_dst (N := 22) rfl ?_); refine Kd.R_append_zeros (Kd.int .u8) (w0 := w) w.heap.size rfl _ _ 22 3 5 (.int .u8 0) 1 rfl Try.underlying22 (k := .i64) Try.underlying3 info5 rfl (by decide) (by decide) v3 ([255, 255] : List Int) 0 70000 (fun _ => True) rfl rfl rfl (fun _ _ => trivial) HO.out (by decide) HB.out HB.out.size (by decide) ?_; intro v4 w4 ho hb hg_ hnew_; clear hg_ hnew_ HB HO; rw [show ((70000 : Int)).toNat = 70000 from rfl, ← HZ.out] at ho; have HB := Aside0.mk hb; obtain ⟨A4, c4, e4⟩ := Kd.R_slice ho; subst e4; have H4 := Aside0.mk (Kd.R_reads' ho); clear ho hb) | ((with_reducible refine gate_dst (N := 23) rfl ?_); (try (refine gate_guard (by rfl) ?_; dsimp only)); refine goesL_ (some 23) rfl rfl Try.func21 (by kernel_rfl) rfl #[.slice A4 z.length c4] rfl (by (try simp only [List.map_toArray, List.map_cons, List.map_nil]); first | done | rfl | (simp only [List.length_drop, List.length_take]; rfl)) ?_; refine (rscan A4 c4 z _ H4.out.2.2 H4.out.2.1 HZB.out (by have := HZL.out; omega)).mono ?_; rintro e w5 ⟨v5, rfl, ho, hbl⟩; refine ⟨_, rfl, ?_⟩; rw [HZS.out] at ho; rw [HZS.out]; have HB_ := Aside0.mk (below_step HB.out hbl); clear HB; have HB := HB_; clear HB_; clear hbl; obtain ⟨A5, c5, e5⟩ := Kd.S_slice ho; subst e5; clear ho) | ((with_reducible refine gate_dst (N := 59) rfl ?_); (try (refine gate_guard (by rfl) ?_; dsimp only)); refine goesL_ (some 59) rfl rfl Try.func24 (by kernel_rfl) rfl #[] rfl (by (try simp only [List.map_toArray, List.map_cons, List.map_nil]); first | done | rfl | (simp only [List.length_drop, List.length_take]; rfl)) ?_; refine (known5 _).mono ?_; rintro e w7 ⟨rfl, hbl⟩; refine ⟨_, rfl, ?_⟩; have HB_ := Aside0.mk (below_step HB.out hbl); clear HB; have HB := HB_; clear HB_; clear hbl))
        go_ret
        exact ⟨rfl, HB.out⟩
end Go.Proofs.Ytoljpojpncjmoaa.B
