/- giroref4: Sync, Wipe, Restart, Read. -/
import Derived.Test.YthaeppjhmjpecaaU2
namespace Go.Proofs.Ythaeppjhmjpecaa.B
open Go.RowKit Go.Proofs.YthaeppjhmjpecaaW.PrintWords Go.Proofs.YthaeppjhmjpecaaW.PrintLast Go.Proofs.YthaeppjhmjpecaaW.PrintMore
attribute [local go_sem] max2_int min2_int max_two min_two max_three min_three max_four min_four
set_option linter.unusedVariables false
set_option linter.unusedSimpArgs false

theorem xsync_down (g : Nat) (ok : Nat → Prop) (room : Int) (b0 : List Int) (s0 : Nat) (b1 : List Int) (s1 : Nat) (cat keep : Int) (armed : Bool) (ops : Int) (w : World) (h : IsX w ok g ⟨room, b0, s0, b1, s1, cat, keep, armed, true, ops⟩) : Calls Try.prog 26 #[.pointer (some ⟨g, 0, none⟩)] w fun e w' => e = .returned (.int .i64 11) ∧ IsX w' ok g ⟨room, b0, s0, b1, s1, cat, keep, armed, true, ops⟩ ∧ Fr ok w w' := by
  have HB := Aside0.mk (Below.refl w.heap.size w)
  have HD := Aside0.mk h
  obtain ⟨hg, A0, c0, A1, c1, hG, h0, h1⟩ := h.op
  obtain ⟨z0, z1, z2, z3, z4, z5, z6, z7, z8, z9, zf⟩ := cells10 hG
  clear h hG h0 h1 hg
  go_enter Try.func26, Try.ntmps26
  go_wp2
  go_ret
  exact ⟨rfl, HD.out, Fr.of_below HB.out⟩
theorem xsync_hit (g : Nat) (ok : Nat → Prop) (room : Int) (b0 : List Int) (s0 : Nat) (b1 : List Int) (s1 : Nat) (cat keep : Int) (armed : Bool) (ops : Int) (w : World) (h : IsX w ok g ⟨room, b0, s0, b1, s1, cat, keep, armed, false, ops⟩) (hw : Dk.Wf ⟨room, b0, s0, b1, s1, cat, keep, armed, false, ops⟩) (hh : Dk.hit ⟨room, b0, s0, b1, s1, cat, keep, armed, false, ops⟩ = true) : Calls Try.prog 26 #[.pointer (some ⟨g, 0, none⟩)] w fun e w' => e = .returned (.int .i64 11) ∧ IsX w' ok g (Dk.crash ⟨room, b0, s0, b1, s1, cat, keep, armed, false, ops⟩) ∧ Fr ok w w' := by
  have HB := Aside0.mk (Below.refl w.heap.size w)
  have HD := Aside0.mk h
  have HW := Aside0.mk hw
  have HH := Aside0.mk hh
  have hgo := h.1
  clear hw hh
  obtain ⟨hg, A0, c0, A1, c1, hG, h0, h1⟩ := h.op
  obtain ⟨z0, z1, z2, z3, z4, z5, z6, z7, z8, z9, zf⟩ := cells10 hG
  clear h hG h0 h1 hg
  go_enter Try.func26, Try.ntmps26
  go_wp2_with (first | ((with_reducible refine gate_dst (N := 9) rfl ?_); (try (refine gate_guard (by rfl) ?_; dsimp only)); refine goesL_ (some 9) rfl rfl Try.func48 (by kernel_rfl) rfl #[.pointer (some ⟨g, 0, none⟩)] rfl (by (try simp only [List.map_toArray, List.map_cons, List.map_nil]); first | done | rfl | (simp only [List.length_drop, List.length_take]; rfl)) ?_; refine (xcrash_yes g ok room b0 s0 b1 s1 cat keep armed false ops _ HD.out HW.out HH.out).mono ?_; rintro e w3 ⟨rfl, hD3, ho3⟩; refine ⟨_, rfl, ?_⟩; have HD3 := Aside0.mk hD3; have HF3 := Aside0.mk (Fr.trans (Fr.of_below HB.out) (ho3.fr hgo)); clear hD3 ho3))
  go_ret
  exact ⟨rfl, HD3.out, HF3.out⟩
set_option maxHeartbeats 1000000 in
theorem xsync_ok (g : Nat) (ok : Nat → Prop) (room : Int) (b0 : List Int) (s0 : Nat) (b1 : List Int) (s1 : Nat) (cat keep : Int) (armed : Bool) (ops : Int) (w : World) (h : IsX w ok g ⟨room, b0, s0, b1, s1, cat, keep, armed, false, ops⟩) (hw : Dk.Wf ⟨room, b0, s0, b1, s1, cat, keep, armed, false, ops⟩) (hh : Dk.hit ⟨room, b0, s0, b1, s1, cat, keep, armed, false, ops⟩ = false) : Calls Try.prog 26 #[.pointer (some ⟨g, 0, none⟩)] w fun e w' => e = .returned (.int .i64 0) ∧ IsX w' ok g ⟨room, b0, b0.length, b1, b1.length, cat, keep, armed, false, ops + 1⟩ ∧ Fr ok w w' := by
  have HB := Aside0.mk (Below.refl w.heap.size w)
  have HD := Aside0.mk h
  have HW := Aside0.mk hw
  have HH := Aside0.mk hh
  have hgo := h.1
  clear hw hh
  obtain ⟨hg, A0, c0, A1, c1, hG, h0, h1⟩ := h.op
  obtain ⟨z0, z1, z2, z3, z4, z5, z6, z7, z8, z9, zf⟩ := cells10 hG
  clear h hG h0 h1 hg
  go_enter Try.func26, Try.ntmps26
  go_wp2_with (first | ((with_reducible refine gate_dst (N := 9) rfl ?_); (try (refine gate_guard (by rfl) ?_; dsimp only)); refine goesL_ (some 9) rfl rfl Try.func48 (by kernel_rfl) rfl #[.pointer (some ⟨g, 0, none⟩)] rfl (by (try simp only [List.map_toArray, List.map_cons, List.map_nil]); first | done | rfl | (simp only [List.length_drop, List.length_take]; rfl)) ?_; refine (xcrash_no g ok room b0 s0 b1 s1 cat keep armed false ops _ HD.out HW.out HH.out).mono ?_; rintro e w3 ⟨rfl, hD3, ho3⟩; refine ⟨_, rfl, ?_⟩; have HF3 := Aside0.mk (Fr.trans (Fr.of_below HB.out) (ho3.fr hgo)); clear ho3 HB HD z0 z1 z2 z3 z4 z5 z6 z7 z8 z9 zf; obtain ⟨hg, A0, c0, A1, c1, hG, h0, h1⟩ := hD3.op; have HG := Aside0.mk hG; have H0 := Aside0.mk h0; have H1 := Aside0.mk h1; clear hD3 h0 h1; obtain ⟨z0, z1, z2, z3, z4, z5, z6, z7, z8, z9, zf⟩ := cells10 hG; clear hG hg))
  go_region
  all_goals (refine name_world (g := g) (w := w3) (X := .cells #[.slice A0 b0.length c0, .slice A1 b1.length c1, .int .i64 (b0.length : Int), .int .i64 (b1.length : Int), .int .i64 room, .int .i64 (ops + 1), .int .i64 cat, .int .i64 keep, .bool armed, .bool false] 50 (0, 0)) (by first | exact blk_drew (set10_3 (set10_2 HG.out _) _) | exact blk_drew (set10_2 (set10_3 HG.out _) _)) (by first | exact Only.trans (Only.trans (Only.set g 2 _ _) (Only.set g 3 _ _)) (Only.drew g _) | exact Only.trans (Only.trans (Only.set g 3 _ _) (Only.set g 2 _ _)) (Only.drew g _)) ?_; intro w4 hG4 ho4; have HG4 := Aside0.mk hG4; have HO4 := Aside0.mk ho4; clear hG4 ho4 z0 z1 z2 z3 z4 z5 z6 z7 z8 z9 zf)
  all_goals go_wp2
  all_goals go_ret
  all_goals exact ⟨rfl, ⟨hgo, A0, c0, A1, c1, HG4.out, P0_set H0.out HO4.out, P0_set H1.out HO4.out⟩, Fr.trans HF3.out (HO4.out.fr hgo)⟩
theorem xsync (g : Nat) (ok : Nat → Prop) (D : Dk) (w : World) (h : IsX w ok g D) (hw : D.Wf) : Calls Try.prog 26 #[.pointer (some ⟨g, 0, none⟩)] w fun e w' => e = .returned (.int .i64 D.syncE) ∧ IsX w' ok g D.sync ∧ Fr ok w w' := by
  obtain ⟨room, b0, s0, b1, s1, cat, keep, armed, down, ops⟩ := D
  cases down with
  | true => exact xsync_down g ok room b0 s0 b1 s1 cat keep armed ops w h
  | false =>
    cases hh : Dk.hit ⟨room, b0, s0, b1, s1, cat, keep, armed, false, ops⟩ with
    | true =>
      have e := sync_hit (D := ⟨room, b0, s0, b1, s1, cat, keep, armed, false, ops⟩) rfl hh
      rw [e.1, e.2]
      exact xsync_hit g ok room b0 s0 b1 s1 cat keep armed ops w h hw hh
    | false =>
      have e := sync_ok (D := ⟨room, b0, s0, b1, s1, cat, keep, armed, false, ops⟩) rfl hh
      rw [e.1, e.2]
      exact xsync_ok g ok room b0 s0 b1 s1 cat keep armed ops w h hw hh

theorem xwipe_down (g : Nat) (ok : Nat → Prop) (room : Int) (b0 : List Int) (s0 : Nat) (b1 : List Int) (s1 : Nat) (cat keep : Int) (armed : Bool) (ops : Int) (w : World) (h : IsX w ok g ⟨room, b0, s0, b1, s1, cat, keep, armed, true, ops⟩) (side : Int) : Calls Try.prog 27 #[.pointer (some ⟨g, 0, none⟩), .int .i64 side] w fun e w' => e = .returned (.int .i64 11) ∧ IsX w' ok g ⟨room, b0, s0, b1, s1, cat, keep, armed, true, ops⟩ ∧ Fr ok w w' := by
  have HB := Aside0.mk (Below.refl w.heap.size w)
  have HD := Aside0.mk h
  obtain ⟨hg, A0, c0, A1, c1, hG, h0, h1⟩ := h.op
  obtain ⟨z0, z1, z2, z3, z4, z5, z6, z7, z8, z9, zf⟩ := cells10 hG
  clear h hG h0 h1 hg
  go_enter Try.func27, Try.ntmps27
  go_wp2
  go_ret
  exact ⟨rfl, HD.out, Fr.of_below HB.out⟩
theorem xwipe_side (g : Nat) (ok : Nat → Prop) (room : Int) (b0 : List Int) (s0 : Nat) (b1 : List Int) (s1 : Nat) (cat keep : Int) (armed : Bool) (ops : Int) (w : World) (h : IsX w ok g ⟨room, b0, s0, b1, s1, cat, keep, armed, false, ops⟩) (side : Int) (hs : sideB side = false) : Calls Try.prog 27 #[.pointer (some ⟨g, 0, none⟩), .int .i64 side] w fun e w' => e = .returned (.int .i64 1) ∧ IsX w' ok g ⟨room, b0, s0, b1, s1, cat, keep, armed, false, ops⟩ ∧ Fr ok w w' := by
  have HB := Aside0.mk (Below.refl w.heap.size w)
  have HD := Aside0.mk h
  obtain ⟨hg, A0, c0, A1, c1, hG, h0, h1⟩ := h.op
  obtain ⟨z0, z1, z2, z3, z4, z5, z6, z7, z8, z9, zf⟩ := cells10 hG
  clear h hG h0 h1 hg
  by_cases c2 : side < 0
  · have k1 : decide (side < 0) = true := decide_eq_true c2
    clear c2 hs
    go_enter Try.func27, Try.ntmps27
    go_wp2
    go_ret
    exact ⟨rfl, HD.out, Fr.of_below HB.out⟩
  · have k1 : decide (side < 0) = false := decide_eq_false c2
    have k2 : decide (1 < side) = true := by
      unfold sideB at hs
      rw [Bool.and_eq_false_iff, decide_eq_false_iff_not, decide_eq_false_iff_not] at hs
      exact decide_eq_true (by omega)
    clear c2 hs
    go_enter Try.func27, Try.ntmps27
    go_wp2
    go_ret
    exact ⟨rfl, HD.out, Fr.of_below HB.out⟩

theorem xwipe_hit0 (g : Nat) (ok : Nat → Prop) (room : Int) (b0 : List Int) (s0 : Nat) (b1 : List Int) (s1 : Nat) (cat keep : Int) (armed : Bool) (ops : Int) (w : World) (h : IsX w ok g ⟨room, b0, s0, b1, s1, cat, keep, armed, false, ops⟩) (hw : Dk.Wf ⟨room, b0, s0, b1, s1, cat, keep, armed, false, ops⟩) (hh : Dk.hit ⟨room, b0, s0, b1, s1, cat, keep, armed, false, ops⟩ = true) : Calls Try.prog 27 #[.pointer (some ⟨g, 0, none⟩), .int .i64 0] w fun e w' => e = .returned (.int .i64 11) ∧ IsX w' ok g (Dk.crash ⟨room, b0, s0, b1, s1, cat, keep, armed, false, ops⟩) ∧ Fr ok w w' := by
  have HB := Aside0.mk (Below.refl w.heap.size w)
  have HD := Aside0.mk h
  have HW := Aside0.mk hw
  have HH := Aside0.mk hh
  have hgo := h.1
  clear hw hh
  obtain ⟨hg, A0, c0, A1, c1, hG, h0, h1⟩ := h.op
  obtain ⟨z0, z1, z2, z3, z4, z5, z6, z7, z8, z9, zf⟩ := cells10 hG
  clear h hG h0 h1 hg
  go_enter Try.func27, Try.ntmps27
  go_wp2_with (first | ((with_reducible refine gate_dst (N := 19) rfl ?_); (try (refine gate_guard (by rfl) ?_; dsimp only)); refine goesL_ (some 19) rfl rfl Try.func48 (by kernel_rfl) rfl #[.pointer (some ⟨g, 0, none⟩)] rfl (by (try simp only [List.map_toArray, List.map_cons, List.map_nil]); first | done | rfl | (simp only [List.length_drop, List.length_take]; rfl)) ?_; refine (xcrash_yes g ok room b0 s0 b1 s1 cat keep armed false ops _ HD.out HW.out HH.out).mono ?_; rintro e w3 ⟨rfl, hD3, ho3⟩; refine ⟨_, rfl, ?_⟩; have HD3 := Aside0.mk hD3; have HF3 := Aside0.mk (Fr.trans (Fr.of_below HB.out) (ho3.fr hgo)); clear hD3 ho3))
  go_ret
  exact ⟨rfl, HD3.out, HF3.out⟩
set_option maxHeartbeats 1000000 in
theorem xwipe_ok0 (g : Nat) (ok : Nat → Prop) (room : Int) (b0 : List Int) (s0 : Nat) (b1 : List Int) (s1 : Nat) (cat keep : Int) (armed : Bool) (ops : Int) (w : World) (h : IsX w ok g ⟨room, b0, s0, b1, s1, cat, keep, armed, false, ops⟩) (hw : Dk.Wf ⟨room, b0, s0, b1, s1, cat, keep, armed, false, ops⟩) (hh : Dk.hit ⟨room, b0, s0, b1, s1, cat, keep, armed, false, ops⟩ = false) : Calls Try.prog 27 #[.pointer (some ⟨g, 0, none⟩), .int .i64 0] w fun e w' => e = .returned (.int .i64 0) ∧ IsX w' ok g ⟨room, [], 0, b1, s1, cat, keep, armed, false, ops + 1⟩ ∧ Fr ok w w' := by
  have HB := Aside0.mk (Below.refl w.heap.size w)
  have HD := Aside0.mk h
  have HW := Aside0.mk hw
  have HH := Aside0.mk hh
  have hgo := h.1
  clear hw hh
  obtain ⟨hg, A0, c0, A1, c1, hG, h0, h1⟩ := h.op
  obtain ⟨z0, z1, z2, z3, z4, z5, z6, z7, z8, z9, zf⟩ := cells10 hG
  clear h hG h0 h1 hg
  go_enter Try.func27, Try.ntmps27
  go_wp2_with (first | ((with_reducible refine gate_dst (N := 19) rfl ?_); (try (refine gate_guard (by rfl) ?_; dsimp only)); refine goesL_ (some 19) rfl rfl Try.func48 (by kernel_rfl) rfl #[.pointer (some ⟨g, 0, none⟩)] rfl (by (try simp only [List.map_toArray, List.map_cons, List.map_nil]); first | done | rfl | (simp only [List.length_drop, List.length_take]; rfl)) ?_; refine (xcrash_no g ok room b0 s0 b1 s1 cat keep armed false ops _ HD.out HW.out HH.out).mono ?_; rintro e w3 ⟨rfl, hD3, ho3⟩; refine ⟨_, rfl, ?_⟩; have HF3 := Aside0.mk (Fr.trans (Fr.of_below HB.out) (ho3.fr hgo)); clear ho3 HB HD z0 z1 z2 z3 z4 z5 z6 z7 z8 z9 zf; obtain ⟨hg, A0, c0, A1, c1, hG, h0, h1⟩ := hD3.op; have HG := Aside0.mk hG; have H0 := Aside0.mk h0; have H1 := Aside0.mk h1; clear hD3 h0 h1; obtain ⟨z0, z1, z2, z3, z4, z5, z6, z7, z8, z9, zf⟩ := cells10 hG; clear hG hg))
  go_region
  all_goals (refine name_world (g := g) (w := w3) (X := .cells #[.slice none 0 0, .slice A1 b1.length c1, .int .i64 0, .int .i64 (s1 : Int), .int .i64 room, .int .i64 (ops + 1), .int .i64 cat, .int .i64 keep, .bool armed, .bool false] 50 (0, 0)) (by first | exact blk_drew (set10_2 (set10_0 HG.out _) _) | exact blk_drew (set10_0 (set10_2 HG.out _) _)) (by first | exact Only.trans (Only.trans (Only.set g 0 _ _) (Only.set g 2 _ _)) (Only.drew g _) | exact Only.trans (Only.trans (Only.set g 2 _ _) (Only.set g 0 _ _)) (Only.drew g _)) ?_)
  all_goals (intro w4 hG4 ho4; have HG4 := Aside0.mk hG4; have HO4 := Aside0.mk ho4; clear hG4 ho4 z0 z1 z2 z3 z4 z5 z6 z7 z8 z9 zf)
  all_goals go_wp2
  all_goals go_ret
  all_goals exact ⟨rfl, ⟨hgo, none, 0, A1, c1, HG4.out, Kd.R_nil _ _ _ _ _, Kd.R_mono (P0_set H1.out HO4.out) (fun k hk => ⟨hk.1, hk.2.1, fun e => by cases e⟩)⟩, Fr.trans HF3.out (HO4.out.fr hgo)⟩

theorem xwipe_hit1 (g : Nat) (ok : Nat → Prop) (room : Int) (b0 : List Int) (s0 : Nat) (b1 : List Int) (s1 : Nat) (cat keep : Int) (armed : Bool) (ops : Int) (w : World) (h : IsX w ok g ⟨room, b0, s0, b1, s1, cat, keep, armed, false, ops⟩) (hw : Dk.Wf ⟨room, b0, s0, b1, s1, cat, keep, armed, false, ops⟩) (hh : Dk.hit ⟨room, b0, s0, b1, s1, cat, keep, armed, false, ops⟩ = true) : Calls Try.prog 27 #[.pointer (some ⟨g, 0, none⟩), .int .i64 1] w fun e w' => e = .returned (.int .i64 11) ∧ IsX w' ok g (Dk.crash ⟨room, b0, s0, b1, s1, cat, keep, armed, false, ops⟩) ∧ Fr ok w w' := by
  have HB := Aside0.mk (Below.refl w.heap.size w)
  have HD := Aside0.mk h
  have HW := Aside0.mk hw
  have HH := Aside0.mk hh
  have hgo := h.1
  clear hw hh
  obtain ⟨hg, A0, c0, A1, c1, hG, h0, h1⟩ := h.op
  obtain ⟨z0, z1, z2, z3, z4, z5, z6, z7, z8, z9, zf⟩ := cells10 hG
  clear h hG h0 h1 hg
  go_enter Try.func27, Try.ntmps27
  go_wp2_with (first | ((with_reducible refine gate_dst (N := 19) rfl ?_); (try (refine gate_guard (by rfl) ?_; dsimp only)); refine goesL_ (some 19) rfl rfl Try.func48 (by kernel_rfl) rfl #[.pointer (some ⟨g, 0, none⟩)] rfl (by (try simp only [List.map_toArray, List.map_cons, List.map_nil]); first | done | rfl | (simp only [List.length_drop, List.length_take]; rfl)) ?_; refine (xcrash_yes g ok room b0 s0 b1 s1 cat keep armed false ops _ HD.out HW.out HH.out).mono ?_; rintro e w3 ⟨rfl, hD3, ho3⟩; refine ⟨_, rfl, ?_⟩; have HD3 := Aside0.mk hD3; have HF3 := Aside0.mk (Fr.trans (Fr.of_below HB.out) (ho3.fr hgo)); clear hD3 ho3))
  go_ret
  exact ⟨rfl, HD3.out, HF3.out⟩
set_option maxHeartbeats 1000000 in
theorem xwipe_ok1 (g : Nat) (ok : Nat → Prop) (room : Int) (b0 : List Int) (s0 : Nat) (b1 : List Int) (s1 : Nat) (cat keep : Int) (armed : Bool) (ops : Int) (w : World) (h : IsX w ok g ⟨room, b0, s0, b1, s1, cat, keep, armed, false, ops⟩) (hw : Dk.Wf ⟨room, b0, s0, b1, s1, cat, keep, armed, false, ops⟩) (hh : Dk.hit ⟨room, b0, s0, b1, s1, cat, keep, armed, false, ops⟩ = false) : Calls Try.prog 27 #[.pointer (some ⟨g, 0, none⟩), .int .i64 1] w fun e w' => e = .returned (.int .i64 0) ∧ IsX w' ok g ⟨room, b0, s0, [], 0, cat, keep, armed, false, ops + 1⟩ ∧ Fr ok w w' := by
  have HB := Aside0.mk (Below.refl w.heap.size w)
  have HD := Aside0.mk h
  have HW := Aside0.mk hw
  have HH := Aside0.mk hh
  have hgo := h.1
  clear hw hh
  obtain ⟨hg, A0, c0, A1, c1, hG, h0, h1⟩ := h.op
  obtain ⟨z0, z1, z2, z3, z4, z5, z6, z7, z8, z9, zf⟩ := cells10 hG
  clear h hG h0 h1 hg
  go_enter Try.func27, Try.ntmps27
  go_wp2_with (first | ((with_reducible refine gate_dst (N := 19) rfl ?_); (try (refine gate_guard (by rfl) ?_; dsimp only)); refine goesL_ (some 19) rfl rfl Try.func48 (by kernel_rfl) rfl #[.pointer (some ⟨g, 0, none⟩)] rfl (by (try simp only [List.map_toArray, List.map_cons, List.map_nil]); first | done | rfl | (simp only [List.length_drop, List.length_take]; rfl)) ?_; refine (xcrash_no g ok room b0 s0 b1 s1 cat keep armed false ops _ HD.out HW.out HH.out).mono ?_; rintro e w3 ⟨rfl, hD3, ho3⟩; refine ⟨_, rfl, ?_⟩; have HF3 := Aside0.mk (Fr.trans (Fr.of_below HB.out) (ho3.fr hgo)); clear ho3 HB HD z0 z1 z2 z3 z4 z5 z6 z7 z8 z9 zf; obtain ⟨hg, A0, c0, A1, c1, hG, h0, h1⟩ := hD3.op; have HG := Aside0.mk hG; have H0 := Aside0.mk h0; have H1 := Aside0.mk h1; clear hD3 h0 h1; obtain ⟨z0, z1, z2, z3, z4, z5, z6, z7, z8, z9, zf⟩ := cells10 hG; clear hG hg))
  go_region
  all_goals (refine name_world (g := g) (w := w3) (X := .cells #[.slice A0 b0.length c0, .slice none 0 0, .int .i64 (s0 : Int), .int .i64 0, .int .i64 room, .int .i64 (ops + 1), .int .i64 cat, .int .i64 keep, .bool armed, .bool false] 50 (0, 0)) (by first | exact blk_drew (set10_3 (set10_1 HG.out _) _) | exact blk_drew (set10_1 (set10_3 HG.out _) _)) (by first | exact Only.trans (Only.trans (Only.set g 1 _ _) (Only.set g 3 _ _)) (Only.drew g _) | exact Only.trans (Only.trans (Only.set g 3 _ _) (Only.set g 1 _ _)) (Only.drew g _)) ?_)
  all_goals (intro w4 hG4 ho4; have HG4 := Aside0.mk hG4; have HO4 := Aside0.mk ho4; clear hG4 ho4 z0 z1 z2 z3 z4 z5 z6 z7 z8 z9 zf)
  all_goals go_wp2
  all_goals go_ret
  all_goals exact ⟨rfl, ⟨hgo, A0, c0, none, 0, HG4.out, Kd.R_mono (P0_set H0.out HO4.out) (fun k hk => ⟨hk.1, hk.2.1, fun e => by cases e⟩), Kd.R_nil _ _ _ _ _⟩, Fr.trans HF3.out (HO4.out.fr hgo)⟩

theorem xwipe (g : Nat) (ok : Nat → Prop) (D : Dk) (side : Int) (w : World) (h : IsX w ok g D) (hw : D.Wf) : Calls Try.prog 27 #[.pointer (some ⟨g, 0, none⟩), .int .i64 side] w fun e w' => e = .returned (.int .i64 (D.wipeE side)) ∧ IsX w' ok g (D.wipe side) ∧ Fr ok w w' := by
  obtain ⟨room, b0, s0, b1, s1, cat, keep, armed, down, ops⟩ := D
  cases down with
  | true =>
    have e := wipe_down (D := ⟨room, b0, s0, b1, s1, cat, keep, armed, true, ops⟩) (side := side) rfl
    rw [e.1, e.2]
    exact xwipe_down g ok room b0 s0 b1 s1 cat keep armed ops w h side
  | false =>
    cases hs : sideB side with
    | false =>
      have e := wipe_side (D := ⟨room, b0, s0, b1, s1, cat, keep, armed, false, ops⟩) (side := side) rfl hs
      rw [e.1, e.2]
      exact xwipe_side g ok room b0 s0 b1 s1 cat keep armed ops w h side hs
    | true =>
      have h01 : side = 0 ∨ side = 1 := by
        unfold sideB at hs
        rw [Bool.and_eq_true, decide_eq_true_iff, decide_eq_true_iff] at hs
        omega
      cases hh : Dk.hit ⟨room, b0, s0, b1, s1, cat, keep, armed, false, ops⟩ with
      | true =>
        have e := wipe_hit (D := ⟨room, b0, s0, b1, s1, cat, keep, armed, false, ops⟩) (side := side) rfl hs hh
        rw [e.1, e.2]
        rcases h01 with rfl | rfl
        · exact xwipe_hit0 g ok room b0 s0 b1 s1 cat keep armed ops w h hw hh
        · exact xwipe_hit1 g ok room b0 s0 b1 s1 cat keep armed ops w h hw hh
      | false =>
        rcases h01 with rfl | rfl
        · have e := wipe_ok0 (D := ⟨room, b0, s0, b1, s1, cat, keep, armed, false, ops⟩) rfl hh
          rw [e.1, e.2]
          exact xwipe_ok0 g ok room b0 s0 b1 s1 cat keep armed ops w h hw hh
        · have e := wipe_ok1 (D := ⟨room, b0, s0, b1, s1, cat, keep, armed, false, ops⟩) rfl hh
          rw [e.1, e.2]
          exact xwipe_ok1 g ok room b0 s0 b1 s1 cat keep armed ops w h hw hh

set_option maxHeartbeats 2000000 in
theorem xrestart' (g : Nat) (ok : Nat → Prop) (room : Int) (b0 : List Int) (s0 : Nat) (b1 : List Int) (s1 : Nat) (cat keep : Int) (armed down : Bool) (ops : Int) (w : World) (h : IsX w ok g ⟨room, b0, s0, b1, s1, cat, keep, armed, down, ops⟩) (hs : s0 ≤ b0.length ∧ s1 ≤ b1.length) : Calls Try.prog 29 #[.pointer (some ⟨g, 0, none⟩)] w fun e w' => e = .returned (.tuple #[]) ∧ IsX w' ok g ⟨room, b0.take s0, s0, b1.take s1, s1, cat, keep, false, false, 0⟩ ∧ Fr ok w w' := by
  obtain ⟨hg, A0, c0, A1, c1, hG, h0, h1⟩ := h.op
  have hgo := h.1
  have HG := Aside0.mk hG
  have H0 := Aside0.mk h0
  have H1 := Aside0.mk h1
  obtain ⟨x, hx, hxr, hxC, hxc⟩ := cutH (P := Try.prog) (Kd.int .u8) 22 5 Try.underlying22 info5 .i64 A0 c0 b0 (s0 : Int) s0 rfl hs.1 (Kd.R_reads' h0).2.1
  obtain ⟨y, hy, hyr, hyC, hyc⟩ := cutH (P := Try.prog) (Kd.int .u8) 22 5 Try.underlying22 info5 .i64 A1 c1 b1 (s1 : Int) s1 rfl hs.2 (Kd.R_reads' h1).2.1
  have HF := Aside0.mk (fun (w' : World) (hG' : w'.heap[g]? = some (.cells #[.slice A0 x.length c0, .slice A1 y.length c1, .int .i64 (s0 : Int), .int .i64 (s1 : Int), .int .i64 room, .int .i64 0, .int .i64 cat, .int .i64 keep, .bool false, .bool false] 50 (0, 0))) (ho : Only g w w') => show IsX w' ok g ⟨room, b0.take s0, s0, b1.take s1, s1, cat, keep, false, false, 0⟩ by
    have e0 := Kd.R_take h0 (m := s0) hs.1
    have e1 := Kd.R_take h1 (m := s1) hs.2
    have lx : x.length = s0 := by rw [hx.out, List.length_take]; omega
    have ly : y.length = s1 := by rw [hy.out, List.length_take]; omega
    rw [hx.out] at lx hG'
    rw [hy.out] at ly hG'
    refine ⟨hg, A0, c0, A1, c1, hG', ?_, ?_⟩
    · refine P0_eq (n := b1.length) (P0_set ?_ ho)
      simp only [lx]
      exact e0
    · refine P0_eq (n := b0.length) (P0_set ?_ ho)
      simp only [ly]
      exact e1)
  obtain ⟨z0, z1, z2, z3, z4, z5, z6, z7, z8, z9, zf⟩ := cells10 HG.out
  clear h0 h1 hG hg h hs
  go_enter Try.func29, Try.ntmps29
  go_wp2
  go_region
  all_goals (refine name_world (g := g) (w := w) (X := .cells #[.slice A0 x.length c0, .slice A1 y.length c1, .int .i64 (s0 : Int), .int .i64 (s1 : Int), .int .i64 room, .int .i64 ops, .int .i64 cat, .int .i64 keep, .bool armed, .bool down] 50 (0, 0)) (by first | exact blk_drew (set10_1 (set10_0 HG.out _) _) | exact blk_drew (set10_0 (set10_1 HG.out _) _)) (by first | exact Only.trans (Only.trans (Only.set g 0 _ _) (Only.set g 1 _ _)) (Only.drew g _) | exact Only.trans (Only.trans (Only.set g 1 _ _) (Only.set g 0 _ _)) (Only.drew g _)) ?_)
  all_goals (intro w4 hG4 ho4; have HG4 := Aside0.mk hG4; have HO4 := Aside0.mk ho4; clear hG4 ho4 z0 z1 z2 z3 z4 z5 z6 z7 z8 z9 zf; obtain ⟨z0, z1, z2, z3, z4, z5, z6, z7, z8, z9, zf⟩ := cells10 HG4.out)
  all_goals go_wp2
  all_goals go_end0
  all_goals exact ⟨rfl, HF.out _ (set10_5 (set10_9 (set10_8 HG4.out _) _) _) (Only.trans HO4.out (Only.trans (Only.trans (Only.set g 8 _ _) (Only.set g 9 _ _)) (Only.set g 5 _ _))), (Only.trans HO4.out (Only.trans (Only.trans (Only.set g 8 _ _) (Only.set g 9 _ _)) (Only.set g 5 _ _))).fr hgo⟩
theorem xrestart (g : Nat) (ok : Nat → Prop) (D : Dk) (w : World) (h : IsX w ok g D) (hs : D.s0 ≤ D.b0.length ∧ D.s1 ≤ D.b1.length) : Calls Try.prog 29 #[.pointer (some ⟨g, 0, none⟩)] w fun e w' => e = .returned (.tuple #[]) ∧ IsX w' ok g D.restart ∧ Fr ok w w' :=
  xrestart' g ok D.room D.b0 D.s0 D.b1 D.s1 D.cat D.keep D.armed D.down D.ops w h hs

theorem xread_no (g : Nat) (side : Int) (w : World) (hs : sideB side = false) : Calls Try.prog 31 #[.pointer (some ⟨g, 0, none⟩), .int .i64 side] w fun e w' => ∃ v : Value, e = .returned v ∧ Kd.R (Kd.int .u8) 5 w' w.heap.size (fun _ => True) v [] ∧ Below w.heap.size w w' := by
  have HB := Aside0.mk (Below.refl w.heap.size w)
  by_cases c2 : side < 0
  · have k1 : decide (side < 0) = true := decide_eq_true c2
    clear c2 hs
    go_enter Try.func31, Try.ntmps31
    go_wp2
    go_ret
    exact ⟨_, rfl, Kd.R_nil _ _ _ _ _, HB.out⟩
  · have k1 : decide (side < 0) = false := decide_eq_false c2
    have k2 : decide (1 < side) = true := by
      unfold sideB at hs
      rw [Bool.and_eq_false_iff, decide_eq_false_iff_not, decide_eq_false_iff_not] at hs
      exact decide_eq_true (by omega)
    clear c2 hs
    go_enter Try.func31, Try.ntmps31
    go_wp2
    go_ret
    exact ⟨_, rfl, Kd.R_nil _ _ _ _ _, HB.out⟩

set_option maxHeartbeats 1000000 in
theorem xread0 (g : Nat) (ok : Nat → Prop) (room : Int) (b0 : List Int) (s0 : Nat) (b1 : List Int) (s1 : Nat) (cat keep : Int) (armed down : Bool) (ops : Int) (w : World) (h : IsX w ok g ⟨room, b0, s0, b1, s1, cat, keep, armed, down, ops⟩) (hw : b0.length ≤ 140737488351232) : Calls Try.prog 31 #[.pointer (some ⟨g, 0, none⟩), .int .i64 0] w fun e w' => ∃ v : Value, e = .returned v ∧ Kd.R (Kd.int .u8) 5 w' w.heap.size (fun _ => True) v b0 ∧ Below w.heap.size w w' := by
  have HB := Aside0.mk (Below.refl w.heap.size w)
  obtain ⟨hg, A0, c0, A1, c1, hG, h0, h1⟩ := h.op
  have HC := Aside0.mk (Kd.R_reads' h0).2.2
  have HG := Aside0.mk hG
  clear h hG h0 h1 hg
  go_enter Try.func31, Try.ntmps31
  go_wp2_with (first | ((with_reducible refine gate_dst (N := 11) rfl ?_); refine Kd.R_lit (Kd.int .u8) (w0 := w) w.heap.size 5 rfl (N := 11) rfl (xs := ([] : List Int)) (inner := []) (ok := fun _ => True) (okp := fun _ => True) (by first | (go_simp; done) | (go_simp; rfl) | (go_simp; exact ⟨rfl, rfl⟩)) (Reps.none _ _) (fun _ hk => hk) trivial HB.out HB.out.size (by simp) ?_; intro v4 w4 ho hb hg_ hnew_; clear HB hg_ hnew_; have HB := Aside0.mk hb; have HO := Aside0.mk ho; obtain ⟨z0, z1, z2, z3, z4, z5, z6, z7, z8, z9, zf⟩ := cells10 (blk_below HG.out hb); clear ho hb) | ((with_reducible refine gate_dst (N := 18) rfl ?_); refine Kd.R_append_row (Value.int .u8) 0 (h1 := fun _ => rfl) (w0 := w) w.heap.size rfl _ _ 22 5 (.int .u8 0) 1 rfl Try.underlying22 info5 rfl (by decide) v4 ([] : List Int) b0 A0 b0.length c0 (fun _ => True) rfl rfl (fun _ _ => trivial) HO.out (Kd.C_below HC.out HB.out) HB.out HB.out.size (by simp; omega) ?_; intro v5 w5 ho hb hg_ hnew_; clear hg_ hnew_ HB HO; rw [List.nil_append] at ho; have HB := Aside0.mk hb; have HO := Aside0.mk ho; clear ho hb))
  go_ret
  exact ⟨_, rfl, HO.out, HB.out⟩

set_option maxHeartbeats 1000000 in
theorem xread1 (g : Nat) (ok : Nat → Prop) (room : Int) (b0 : List Int) (s0 : Nat) (b1 : List Int) (s1 : Nat) (cat keep : Int) (armed down : Bool) (ops : Int) (w : World) (h : IsX w ok g ⟨room, b0, s0, b1, s1, cat, keep, armed, down, ops⟩) (hw : b1.length ≤ 140737488351232) : Calls Try.prog 31 #[.pointer (some ⟨g, 0, none⟩), .int .i64 1] w fun e w' => ∃ v : Value, e = .returned v ∧ Kd.R (Kd.int .u8) 5 w' w.heap.size (fun _ => True) v b1 ∧ Below w.heap.size w w' := by
  have HB := Aside0.mk (Below.refl w.heap.size w)
  obtain ⟨hg, A0, c0, A1, c1, hG, h0, h1⟩ := h.op
  have HC := Aside0.mk (Kd.R_reads' h1).2.2
  have HG := Aside0.mk hG
  clear h hG h0 h1 hg
  go_enter Try.func31, Try.ntmps31
  go_wp2_with (first | ((with_reducible refine gate_dst (N := 11) rfl ?_); refine Kd.R_lit (Kd.int .u8) (w0 := w) w.heap.size 5 rfl (N := 11) rfl (xs := ([] : List Int)) (inner := []) (ok := fun _ => True) (okp := fun _ => True) (by first | (go_simp; done) | (go_simp; rfl) | (go_simp; exact ⟨rfl, rfl⟩)) (Reps.none _ _) (fun _ hk => hk) trivial HB.out HB.out.size (by simp) ?_; intro v4 w4 ho hb hg_ hnew_; clear HB hg_ hnew_; have HB := Aside0.mk hb; have HO := Aside0.mk ho; obtain ⟨z0, z1, z2, z3, z4, z5, z6, z7, z8, z9, zf⟩ := cells10 (blk_below HG.out hb); clear ho hb) | ((with_reducible refine gate_dst (N := 18) rfl ?_); refine Kd.R_append_row (Value.int .u8) 0 (h1 := fun _ => rfl) (w0 := w) w.heap.size rfl _ _ 22 5 (.int .u8 0) 1 rfl Try.underlying22 info5 rfl (by decide) v4 ([] : List Int) b1 A1 b1.length c1 (fun _ => True) rfl rfl (fun _ _ => trivial) HO.out (Kd.C_below HC.out HB.out) HB.out HB.out.size (by simp; omega) ?_; intro v5 w5 ho hb hg_ hnew_; clear hg_ hnew_ HB HO; rw [List.nil_append] at ho; have HB := Aside0.mk hb; have HO := Aside0.mk ho; clear ho hb))
  go_ret
  exact ⟨_, rfl, HO.out, HB.out⟩

theorem xread (g : Nat) (ok : Nat → Prop) (D : Dk) (side : Int) (w : World) (h : IsX w ok g D) (h0 : D.b0.length ≤ 140737488351232) (h1 : D.b1.length ≤ 140737488351232) : Calls Try.prog 31 #[.pointer (some ⟨g, 0, none⟩), .int .i64 side] w fun e w' => ∃ v : Value, e = .returned v ∧ Kd.R (Kd.int .u8) 5 w' w.heap.size (fun _ => True) v (D.read side) ∧ Below w.heap.size w w' := by
  unfold Dk.read
  by_cases e0 : side = 0
  · subst e0
    rw [if_pos rfl]
    exact xread0 g ok D.room D.b0 D.s0 D.b1 D.s1 D.cat D.keep D.armed D.down D.ops w h h0
  · rw [if_neg e0]
    by_cases e1 : side = 1
    · subst e1
      rw [if_pos rfl]
      exact xread1 g ok D.room D.b0 D.s0 D.b1 D.s1 D.cat D.keep D.armed D.down D.ops w h h1
    · rw [if_neg e1]
      refine xread_no g side w ?_
      rcases (show side < 0 ∨ 2 ≤ side by omega) with h' | h'
      · exact sideB_lo h'
      · exact sideB_hi h'
end Go.Proofs.Ythaeppjhmjpecaa.B
