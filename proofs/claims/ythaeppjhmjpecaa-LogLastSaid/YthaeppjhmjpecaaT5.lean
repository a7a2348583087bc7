/- tape: Wipe, Restart, Arm, Read. -/
import Derived.Test.YthaeppjhmjpecaaT4
namespace Go.Proofs.Ythaeppjhmjpecaa.B
open Go.RowKit Go.Proofs.YthaeppjhmjpecaaW.PrintWords Go.Proofs.YthaeppjhmjpecaaW.PrintLast Go.Proofs.YthaeppjhmjpecaaW.PrintMore
attribute [local go_sem] max2_int min2_int max_two min_two max_three min_three max_four min_four
set_option linter.unusedVariables false
set_option linter.unusedSimpArgs false

def Dk.wipeE (D : Dk) (side : Int) : Int := if D.down = true then 11 else if sideB side = false then 1 else if D.hit = true then 11 else 0
def Dk.wipe (D : Dk) (side : Int) : Dk := if D.down = true then D else if sideB side = false then D else if D.hit = true then D.crash else if side = 0 then { D.tick with b0 := [], s0 := 0 } else { D.tick with b1 := [], s1 := 0 }
theorem wipe_down {D : Dk} {side : Int} (h1 : D.down = true) : D.wipeE side = 11 ∧ D.wipe side = D := by unfold Dk.wipeE Dk.wipe; simp [h1]
theorem wipe_side {D : Dk} {side : Int} (h1 : D.down = false) (h2 : sideB side = false) : D.wipeE side = 1 ∧ D.wipe side = D := by unfold Dk.wipeE Dk.wipe; simp [h1, h2]
theorem wipe_hit {D : Dk} {side : Int} (h1 : D.down = false) (h2 : sideB side = true) (h4 : D.hit = true) : D.wipeE side = 11 ∧ D.wipe side = D.crash := by unfold Dk.wipeE Dk.wipe; simp [h1, h2, h4]
theorem wipe_ok0 {D : Dk} (h1 : D.down = false) (h4 : D.hit = false) : D.wipeE 0 = 0 ∧ D.wipe 0 = { D.tick with b0 := [], s0 := 0 } := by unfold Dk.wipeE Dk.wipe; simp [h1, h4, show sideB 0 = true by decide]
theorem wipe_ok1 {D : Dk} (h1 : D.down = false) (h4 : D.hit = false) : D.wipeE 1 = 0 ∧ D.wipe 1 = { D.tick with b1 := [], s1 := 0 } := by unfold Dk.wipeE Dk.wipe; simp [h1, h4, show sideB 1 = true by decide]
theorem twipe_nil (side : Int) (w : World) : Calls Try.prog 23 #[.pointer none, .int .i64 side] w fun e w' => e = .returned (.int .i64 11) ∧ Below w.heap.size w w' := by
  have HB := Aside0.mk (Below.refl w.heap.size w)
  go_enter Try.func23, Try.ntmps23
  go_wp2_with (first | ((with_reducible refine gate_dst (N := 7) rfl ?_); (try (refine gate_guard (by rfl) ?_; dsimp only)); go_loud (refine goesL_ (some 7) rfl rfl Try.func19 (by kernel_rfl) rfl #[.pointer none] rfl (by (try simp only [List.map_toArray, List.map_cons, List.map_nil]); first | done | rfl | (simp only [List.length_drop, List.length_take]; rfl)) ?_; refine (tdown0 _).mono ?_; rintro e w1 ⟨rfl, hbl⟩; refine ⟨_, rfl, ?_⟩; have HB_ := Aside0.mk (below_step HB.out hbl); clear HB; have HB := HB_; clear HB_; clear hbl)))
  go_ret
  exact ⟨rfl, HB.out⟩
theorem twipe_down (g : Nat) (ok : Nat → Prop) (room : Int) (b0 : List Int) (s0 : Nat) (b1 : List Int) (s1 : Nat) (cat keep : Int) (armed : Bool) (ops : Int) (w : World) (h : IsD w ok g ⟨room, b0, s0, b1, s1, cat, keep, armed, true, ops⟩) (side : Int) : Calls Try.prog 23 #[.pointer (some ⟨g, 0, none⟩), .int .i64 side] w fun e w' => e = .returned (.int .i64 11) ∧ IsD w' ok g ⟨room, b0, s0, b1, s1, cat, keep, armed, true, ops⟩ ∧ Fr ok w w' := by
  have HB := Aside0.mk (Below.refl w.heap.size w)
  have HD := Aside0.mk h
  clear h
  go_enter Try.func23, Try.ntmps23
  go_wp2_with (first | ((with_reducible refine gate_dst (N := 7) rfl ?_); (try (refine gate_guard (by rfl) ?_; dsimp only)); go_loud (refine goesL_ (some 7) rfl rfl Try.func19 (by kernel_rfl) rfl #[.pointer (some ⟨g, 0, none⟩)] rfl (by (try simp only [List.map_toArray, List.map_cons, List.map_nil]); first | done | rfl | (simp only [List.length_drop, List.length_take]; rfl)) ?_; refine (tdown g ok room b0 s0 b1 s1 cat keep armed true ops _ HD.out).mono ?_; rintro e w1 ⟨rfl, hbl⟩; refine ⟨_, rfl, ?_⟩; have HD' := Aside0.mk (HD.out.below hbl); have HB' := Aside0.mk (below_step HB.out hbl); clear HD HB hbl; have HD := HD'; have HB := HB'; clear HD' HB')))
  go_ret
  exact ⟨rfl, HD.out, Fr.of_below HB.out⟩
theorem twipe_side (g : Nat) (ok : Nat → Prop) (room : Int) (b0 : List Int) (s0 : Nat) (b1 : List Int) (s1 : Nat) (cat keep : Int) (armed : Bool) (ops : Int) (w : World) (h : IsD w ok g ⟨room, b0, s0, b1, s1, cat, keep, armed, false, ops⟩) (side : Int) (hs : sideB side = false) : Calls Try.prog 23 #[.pointer (some ⟨g, 0, none⟩), .int .i64 side] w fun e w' => e = .returned (.int .i64 1) ∧ IsD w' ok g ⟨room, b0, s0, b1, s1, cat, keep, armed, false, ops⟩ ∧ Fr ok w w' := by
  have HB := Aside0.mk (Below.refl w.heap.size w)
  have HD := Aside0.mk h
  have HS := Aside0.mk hs
  clear h hs
  go_enter Try.func23, Try.ntmps23
  go_wp2_with (first | ((with_reducible refine gate_dst (N := 7) rfl ?_); (try (refine gate_guard (by rfl) ?_; dsimp only)); go_loud (refine goesL_ (some 7) rfl rfl Try.func19 (by kernel_rfl) rfl #[.pointer (some ⟨g, 0, none⟩)] rfl (by (try simp only [List.map_toArray, List.map_cons, List.map_nil]); first | done | rfl | (simp only [List.length_drop, List.length_take]; rfl)) ?_; refine (tdown g ok room b0 s0 b1 s1 cat keep armed false ops _ HD.out).mono ?_; rintro e w1 ⟨rfl, hbl⟩; refine ⟨_, rfl, ?_⟩; have HD' := Aside0.mk (HD.out.below hbl); have HB' := Aside0.mk (below_step HB.out hbl); clear HD HB hbl; have HD := HD'; have HB := HB'; clear HD' HB')) | ((with_reducible refine gate_dst (N := 10) rfl ?_); (try (refine gate_guard (by rfl) ?_; dsimp only)); go_loud (refine goesL_ (some 10) rfl rfl Try.func45 (by kernel_rfl) rfl #[.int .i64 side] rfl (by (try simp only [List.map_toArray, List.map_cons, List.map_nil]); first | done | rfl | (simp only [List.length_drop, List.length_take]; rfl)) ?_; refine (tside side _).mono ?_; rintro e w2 ⟨rfl, hbl⟩; refine ⟨_, rfl, ?_⟩; rw [HS.out]; have HD' := Aside0.mk (HD.out.below hbl); have HB' := Aside0.mk (below_step HB.out hbl); clear HD HB hbl; have HD := HD'; have HB := HB'; clear HD' HB')))
  go_ret
  exact ⟨rfl, HD.out, Fr.of_below HB.out⟩
theorem twipe_hit (g : Nat) (ok : Nat → Prop) (room : Int) (b0 : List Int) (s0 : Nat) (b1 : List Int) (s1 : Nat) (cat keep : Int) (armed : Bool) (ops : Int) (w : World) (h : IsD w ok g ⟨room, b0, s0, b1, s1, cat, keep, armed, false, ops⟩) (side : Int) (hs : sideB side = true) (hw : Dk.Wf ⟨room, b0, s0, b1, s1, cat, keep, armed, false, ops⟩) (hh : Dk.hit ⟨room, b0, s0, b1, s1, cat, keep, armed, false, ops⟩ = true) : Calls Try.prog 23 #[.pointer (some ⟨g, 0, none⟩), .int .i64 side] w fun e w' => e = .returned (.int .i64 11) ∧ IsD w' ok g (Dk.crash ⟨room, b0, s0, b1, s1, cat, keep, armed, false, ops⟩) ∧ Fr ok w w' := by
  have HB := Aside0.mk (Below.refl w.heap.size w)
  have HD := Aside0.mk h
  have HS := Aside0.mk hs
  have HW := Aside0.mk hw
  have HH := Aside0.mk hh
  have hgo := h.1
  clear h hw hh hs
  go_enter Try.func23, Try.ntmps23
  go_wp2_with (first | ((with_reducible refine gate_dst (N := 7) rfl ?_); (try (refine gate_guard (by rfl) ?_; dsimp only)); go_loud (refine goesL_ (some 7) rfl rfl Try.func19 (by kernel_rfl) rfl #[.pointer (some ⟨g, 0, none⟩)] rfl (by (try simp only [List.map_toArray, List.map_cons, List.map_nil]); first | done | rfl | (simp only [List.length_drop, List.length_take]; rfl)) ?_; refine (tdown g ok room b0 s0 b1 s1 cat keep armed false ops _ HD.out).mono ?_; rintro e w1 ⟨rfl, hbl⟩; refine ⟨_, rfl, ?_⟩; have HD' := Aside0.mk (HD.out.below hbl); have HB' := Aside0.mk (below_step HB.out hbl); clear HD HB hbl; have HD := HD'; have HB := HB'; clear HD' HB')) | ((with_reducible refine gate_dst (N := 10) rfl ?_); (try (refine gate_guard (by rfl) ?_; dsimp only)); go_loud (refine goesL_ (some 10) rfl rfl Try.func45 (by kernel_rfl) rfl #[.int .i64 side] rfl (by (try simp only [List.map_toArray, List.map_cons, List.map_nil]); first | done | rfl | (simp only [List.length_drop, List.length_take]; rfl)) ?_; refine (tside side _).mono ?_; rintro e w2 ⟨rfl, hbl⟩; refine ⟨_, rfl, ?_⟩; rw [HS.out]; have HD' := Aside0.mk (HD.out.below hbl); have HB' := Aside0.mk (below_step HB.out hbl); clear HD HB hbl; have HD := HD'; have HB := HB'; clear HD' HB')) | ((with_reducible refine gate_dst (N := 14) rfl ?_); (try (refine gate_guard (by rfl) ?_; dsimp only)); go_loud (refine goesL_ (some 14) rfl rfl Try.func46 (by kernel_rfl) rfl #[.pointer (some ⟨g, 0, none⟩)] rfl (by (try simp only [List.map_toArray, List.map_cons, List.map_nil]); first | done | rfl | (simp only [List.length_drop, List.length_take]; rfl)) ?_; refine (tfalls_yes g ok room b0 s0 b1 s1 cat keep armed false ops _ HD.out HW.out HH.out).mono ?_; rintro e w3 ⟨rfl, hD3, ho3⟩; refine ⟨_, rfl, ?_⟩; have HD3 := Aside0.mk hD3; have HF3 := Aside0.mk (Fr.trans (Fr.of_below HB.out) (ho3.fr hgo)); clear hD3 ho3)))
  go_ret
  exact ⟨rfl, HD3.out, HF3.out⟩

set_option maxHeartbeats 1000000 in
theorem twipe_ok0 (g : Nat) (ok : Nat → Prop) (room : Int) (b0 : List Int) (s0 : Nat) (b1 : List Int) (s1 : Nat) (cat keep : Int) (armed : Bool) (ops : Int) (w : World) (h : IsD w ok g ⟨room, b0, s0, b1, s1, cat, keep, armed, false, ops⟩) (hw : Dk.Wf ⟨room, b0, s0, b1, s1, cat, keep, armed, false, ops⟩) (hh : Dk.hit ⟨room, b0, s0, b1, s1, cat, keep, armed, false, ops⟩ = false) : Calls Try.prog 23 #[.pointer (some ⟨g, 0, none⟩), .int .i64 0] w fun e w' => e = .returned (.int .i64 0) ∧ IsD w' ok g ⟨room, [], 0, b1, s1, cat, keep, armed, false, ops + 1⟩ ∧ Fr ok w w' := by
  have HB := Aside0.mk (Below.refl w.heap.size w)
  have HD := Aside0.mk h
  have HS := Aside0.mk (show sideB 0 = true by decide)
  have HW := Aside0.mk hw
  have HH := Aside0.mk hh
  have hgo := h.1
  clear h hw hh
  go_enter Try.func23, Try.ntmps23
  go_wp2_with (first | ((with_reducible refine gate_dst (N := 7) rfl ?_); (try (refine gate_guard (by rfl) ?_; dsimp only)); go_loud (refine goesL_ (some 7) rfl rfl Try.func19 (by kernel_rfl) rfl #[.pointer (some ⟨g, 0, none⟩)] rfl (by (try simp only [List.map_toArray, List.map_cons, List.map_nil]); first | done | rfl | (simp only [List.length_drop, List.length_take]; rfl)) ?_; refine (tdown g ok room b0 s0 b1 s1 cat keep armed false ops _ HD.out).mono ?_; rintro e w1 ⟨rfl, hbl⟩; refine ⟨_, rfl, ?_⟩; have HD' := Aside0.mk (HD.out.below hbl); have HB' := Aside0.mk (below_step HB.out hbl); clear HD HB hbl; have HD := HD'; have HB := HB'; clear HD' HB')) | ((with_reducible refine gate_dst (N := 10) rfl ?_); (try (refine gate_guard (by rfl) ?_; dsimp only)); go_loud (refine goesL_ (some 10) rfl rfl Try.func45 (by kernel_rfl) rfl #[.int .i64 0] rfl (by (try simp only [List.map_toArray, List.map_cons, List.map_nil]); first | done | rfl | (simp only [List.length_drop, List.length_take]; rfl)) ?_; refine (tside 0 _).mono ?_; rintro e w2 ⟨rfl, hbl⟩; refine ⟨_, rfl, ?_⟩; rw [HS.out]; have HD' := Aside0.mk (HD.out.below hbl); have HB' := Aside0.mk (below_step HB.out hbl); clear HD HB hbl; have HD := HD'; have HB := HB'; clear HD' HB')) | ((with_reducible refine gate_dst (N := 14) rfl ?_); (try (refine gate_guard (by rfl) ?_; dsimp only)); go_loud (refine goesL_ (some 14) rfl rfl Try.func46 (by kernel_rfl) rfl #[.pointer (some ⟨g, 0, none⟩)] rfl (by (try simp only [List.map_toArray, List.map_cons, List.map_nil]); first | done | rfl | (simp only [List.length_drop, List.length_take]; rfl)) ?_; refine (tfalls_no g ok room b0 s0 b1 s1 cat keep armed false ops _ HD.out HW.out HH.out).mono ?_; rintro e w3 ⟨rfl, hD3, ho3⟩; refine ⟨_, rfl, ?_⟩; have HF3 := Aside0.mk (Fr.trans (Fr.of_below HB.out) (ho3.fr hgo)); clear ho3 HB HD; obtain ⟨hg, A0, c0, A1, c1, hG, h0, h1⟩ := hD3.op; have HG := Aside0.mk hG; have H0 := Aside0.mk h0; have H1 := Aside0.mk h1; clear hD3 h0 h1; obtain ⟨z0, z1, z2, z3, z4, z5, z6, z7, z8, z9, zf⟩ := cells10 hG; clear hG hg)))
  go_region
  all_goals (refine name_world (g := g) (w := w3) (X := .cells #[.int .i64 room, .slice none 0 0, .int .i64 0, .slice A1 b1.length c1, .int .i64 (s1 : Int), .int .i64 cat, .int .i64 keep, .bool armed, .bool false, .int .i64 (ops + 1)] 80 (0, 0)) (by first | exact blk_drew (set10_2 (set10_1 HG.out _) _) | exact blk_drew (set10_1 (set10_2 HG.out _) _)) (by first | exact Only.trans (Only.trans (Only.set g 1 _ _) (Only.set g 2 _ _)) (Only.drew g _) | exact Only.trans (Only.trans (Only.set g 2 _ _) (Only.set g 1 _ _)) (Only.drew g _)) ?_)
  all_goals (intro w4 hG4 ho4; have HG4 := Aside0.mk hG4; have HO4 := Aside0.mk ho4; clear hG4 ho4 z0 z1 z2 z3 z4 z5 z6 z7 z8 z9 zf)
  all_goals go_wp2
  all_goals go_ret
  all_goals exact ⟨rfl, ⟨hgo, none, 0, A1, c1, HG4.out, Kd.R_nil _ _ _ _ _, Kd.R_mono (P0_set H1.out HO4.out) (fun k hk => ⟨hk.1, hk.2.1, fun e => by cases e⟩)⟩, Fr.trans HF3.out (HO4.out.fr hgo)⟩

set_option maxHeartbeats 1000000 in
theorem twipe_ok1 (g : Nat) (ok : Nat → Prop) (room : Int) (b0 : List Int) (s0 : Nat) (b1 : List Int) (s1 : Nat) (cat keep : Int) (armed : Bool) (ops : Int) (w : World) (h : IsD w ok g ⟨room, b0, s0, b1, s1, cat, keep, armed, false, ops⟩) (hw : Dk.Wf ⟨room, b0, s0, b1, s1, cat, keep, armed, false, ops⟩) (hh : Dk.hit ⟨room, b0, s0, b1, s1, cat, keep, armed, false, ops⟩ = false) : Calls Try.prog 23 #[.pointer (some ⟨g, 0, none⟩), .int .i64 1] w fun e w' => e = .returned (.int .i64 0) ∧ IsD w' ok g ⟨room, b0, s0, [], 0, cat, keep, armed, false, ops + 1⟩ ∧ Fr ok w w' := by
  have HB := Aside0.mk (Below.refl w.heap.size w)
  have HD := Aside0.mk h
  have HS := Aside0.mk (show sideB 1 = true by decide)
  have HW := Aside0.mk hw
  have HH := Aside0.mk hh
  have hgo := h.1
  clear h hw hh
  go_enter Try.func23, Try.ntmps23
  go_wp2_with (first | ((with_reducible refine gate_dst (N := 7) rfl ?_); (try (refine gate_guard (by rfl) ?_; dsimp only)); go_loud (refine goesL_ (some 7) rfl rfl Try.func19 (by kernel_rfl) rfl #[.pointer (some ⟨g, 0, none⟩)] rfl (by (try simp only [List.map_toArray, List.map_cons, List.map_nil]); first | done | rfl | (simp only [List.length_drop, List.length_take]; rfl)) ?_; refine (tdown g ok room b0 s0 b1 s1 cat keep armed false ops _ HD.out).mono ?_; rintro e w1 ⟨rfl, hbl⟩; refine ⟨_, rfl, ?_⟩; have HD' := Aside0.mk (HD.out.below hbl); have HB' := Aside0.mk (below_step HB.out hbl); clear HD HB hbl; have HD := HD'; have HB := HB'; clear HD' HB')) | ((with_reducible refine gate_dst (N := 10) rfl ?_); (try (refine gate_guard (by rfl) ?_; dsimp only)); go_loud (refine goesL_ (some 10) rfl rfl Try.func45 (by kernel_rfl) rfl #[.int .i64 1] rfl (by (try simp only [List.map_toArray, List.map_cons, List.map_nil]); first | done | rfl | (simp only [List.length_drop, List.length_take]; rfl)) ?_; refine (tside 1 _).mono ?_; rintro e w2 ⟨rfl, hbl⟩; refine ⟨_, rfl, ?_⟩; rw [HS.out]; have HD' := Aside0.mk (HD.out.below hbl); have HB' := Aside0.mk (below_step HB.out hbl); clear HD HB hbl; have HD := HD'; have HB := HB'; clear HD' HB')) | ((with_reducible refine gate_dst (N := 14) rfl ?_); (try (refine gate_guard (by rfl) ?_; dsimp only)); go_loud (refine goesL_ (some 14) rfl rfl Try.func46 (by kernel_rfl) rfl #[.pointer (some ⟨g, 0, none⟩)] rfl (by (try simp only [List.map_toArray, List.map_cons, List.map_nil]); first | done | rfl | (simp only [List.length_drop, List.length_take]; rfl)) ?_; refine (tfalls_no g ok room b0 s0 b1 s1 cat keep armed false ops _ HD.out HW.out HH.out).mono ?_; rintro e w3 ⟨rfl, hD3, ho3⟩; refine ⟨_, rfl, ?_⟩; have HF3 := Aside0.mk (Fr.trans (Fr.of_below HB.out) (ho3.fr hgo)); clear ho3 HB HD; obtain ⟨hg, A0, c0, A1, c1, hG, h0, h1⟩ := hD3.op; have HG := Aside0.mk hG; have H0 := Aside0.mk h0; have H1 := Aside0.mk h1; clear hD3 h0 h1; obtain ⟨z0, z1, z2, z3, z4, z5, z6, z7, z8, z9, zf⟩ := cells10 hG; clear hG hg)))
  go_region
  all_goals (refine name_world (g := g) (w := w3) (X := .cells #[.int .i64 room, .slice A0 b0.length c0, .int .i64 (s0 : Int), .slice none 0 0, .int .i64 0, .int .i64 cat, .int .i64 keep, .bool armed, .bool false, .int .i64 (ops + 1)] 80 (0, 0)) (by first | exact blk_drew (set10_4 (set10_3 HG.out _) _) | exact blk_drew (set10_3 (set10_4 HG.out _) _)) (by first | exact Only.trans (Only.trans (Only.set g 3 _ _) (Only.set g 4 _ _)) (Only.drew g _) | exact Only.trans (Only.trans (Only.set g 4 _ _) (Only.set g 3 _ _)) (Only.drew g _)) ?_)
  all_goals (intro w4 hG4 ho4; have HG4 := Aside0.mk hG4; have HO4 := Aside0.mk ho4; clear hG4 ho4 z0 z1 z2 z3 z4 z5 z6 z7 z8 z9 zf)
  all_goals go_wp2
  all_goals go_ret
  all_goals exact ⟨rfl, ⟨hgo, A0, c0, none, 0, HG4.out, Kd.R_mono (P0_set H0.out HO4.out) (fun k hk => ⟨hk.1, hk.2.1, fun e => by cases e⟩), Kd.R_nil _ _ _ _ _⟩, Fr.trans HF3.out (HO4.out.fr hgo)⟩

theorem twipe (g : Nat) (ok : Nat → Prop) (D : Dk) (side : Int) (w : World) (h : IsD w ok g D) (hw : D.Wf) : Calls Try.prog 23 #[.pointer (some ⟨g, 0, none⟩), .int .i64 side] w fun e w' => e = .returned (.int .i64 (D.wipeE side)) ∧ IsD w' ok g (D.wipe side) ∧ Fr ok w w' := by
  obtain ⟨room, b0, s0, b1, s1, cat, keep, armed, down, ops⟩ := D
  cases down with
  | true =>
    have e := wipe_down (D := ⟨room, b0, s0, b1, s1, cat, keep, armed, true, ops⟩) (side := side) rfl
    rw [e.1, e.2]
    exact twipe_down g ok room b0 s0 b1 s1 cat keep armed ops w h side
  | false =>
    cases hs : sideB side with
    | false =>
      have e := wipe_side (D := ⟨room, b0, s0, b1, s1, cat, keep, armed, false, ops⟩) (side := side) rfl hs
      rw [e.1, e.2]
      exact twipe_side g ok room b0 s0 b1 s1 cat keep armed ops w h side hs
    | true =>
      cases hh : Dk.hit ⟨room, b0, s0, b1, s1, cat, keep, armed, false, ops⟩ with
      | true =>
        have e := wipe_hit (D := ⟨room, b0, s0, b1, s1, cat, keep, armed, false, ops⟩) (side := side) rfl hs hh
        rw [e.1, e.2]
        exact twipe_hit g ok room b0 s0 b1 s1 cat keep armed ops w h side hs hw hh
      | false =>
        have h01 : side = 0 ∨ side = 1 := by
          unfold sideB at hs
          rw [Bool.and_eq_true, decide_eq_true_iff, decide_eq_true_iff] at hs
          omega
        rcases h01 with rfl | rfl
        · have e := wipe_ok0 (D := ⟨room, b0, s0, b1, s1, cat, keep, armed, false, ops⟩) rfl hh
          rw [e.1, e.2]
          exact twipe_ok0 g ok room b0 s0 b1 s1 cat keep armed ops w h hw hh
        · have e := wipe_ok1 (D := ⟨room, b0, s0, b1, s1, cat, keep, armed, false, ops⟩) rfl hh
          rw [e.1, e.2]
          exact twipe_ok1 g ok room b0 s0 b1 s1 cat keep armed ops w h hw hh

def Dk.restart (D : Dk) : Dk := { D with b0 := D.b0.take D.s0, b1 := D.b1.take D.s1, armed := false, down := false, ops := 0 }
theorem trestart_nil (w : World) : Calls Try.prog 22 #[.pointer none] w fun e w' => e = .returned (.tuple #[]) ∧ Below w.heap.size w w' := by
  have HB := Aside0.mk (Below.refl w.heap.size w)
  go_enter Try.func22, Try.ntmps22
  go_wp2
  refine bodyPost_ret (results_none rfl _ _ _) rfl ?_
  exact ⟨rfl, HB.out⟩
set_option maxHeartbeats 1000000 in
theorem trestart' (g : Nat) (ok : Nat → Prop) (room : Int) (b0 : List Int) (s0 : Nat) (b1 : List Int) (s1 : Nat) (cat keep : Int) (armed down : Bool) (ops : Int) (w : World) (h : IsD w ok g ⟨room, b0, s0, b1, s1, cat, keep, armed, down, ops⟩) (hs : s0 ≤ b0.length ∧ s1 ≤ b1.length) : Calls Try.prog 22 #[.pointer (some ⟨g, 0, none⟩)] w fun e w' => e = .returned (.tuple #[]) ∧ IsD w' ok g ⟨room, b0.take s0, s0, b1.take s1, s1, cat, keep, false, false, 0⟩ ∧ Fr ok w w' := by
  obtain ⟨hg, A0, c0, A1, c1, hG, h0, h1⟩ := h.op
  have hgo := h.1
  have HG := Aside0.mk hG
  have H0 := Aside0.mk h0
  have H1 := Aside0.mk h1
  obtain ⟨x, hx, hxr, hxC, hxc⟩ := cutH (P := Try.prog) (Kd.int .u8) 22 5 Try.underlying22 info5 .i64 A0 c0 b0 (s0 : Int) s0 rfl hs.1 (Kd.R_reads' h0).2.1
  obtain ⟨y, hy, hyr, hyC, hyc⟩ := cutH (P := Try.prog) (Kd.int .u8) 22 5 Try.underlying22 info5 .i64 A1 c1 b1 (s1 : Int) s1 rfl hs.2 (Kd.R_reads' h1).2.1
  have HF := Aside0.mk (fun (w' : World) (hG' : w'.heap[g]? = some (.cells #[.int .i64 room, .slice A0 x.length c0, .int .i64 (s0 : Int), .slice A1 y.length c1, .int .i64 (s1 : Int), .int .i64 cat, .int .i64 keep, .bool false, .bool false, .int .i64 0] 80 (0, 0))) (ho : Only g w w') => show IsD w' ok g ⟨room, b0.take s0, s0, b1.take s1, s1, cat, keep, false, false, 0⟩ by
    have e0 := Kd.R_take h0 (m := s0) hs.1
    have e1 := Kd.R_take h1 (m := s1) hs.2
    have lx : x.length = s0 := by rw [hx.out, List.length_take]; omega
    have ly : y.length = s1 := by rw [hy.out, List.length_take]; omega
    rw [hx.out] at lx hG'
    rw [hy.out] at ly hG'
    refine ⟨hg, A0, c0, A1, c1, hG', ?_, ?_⟩
    · refine P0_eq (n := b1.length) (P0_set ?_ ho)
      simp only [lx]
      exact e0
    · refine P0_eq (n := b0.length) (P0_set ?_ ho)
      simp only [ly]
      exact e1)
  obtain ⟨z0, z1, z2, z3, z4, z5, z6, z7, z8, z9, zf⟩ := cells10 HG.out
  clear h0 h1 hG hg h hs
  go_enter Try.func22, Try.ntmps22
  go_wp2
  refine wp_loop_rounds 3 ?_
  rw [rounds_succ]
  go_wp2
  go_region
  refine name_world (g := g) (w := w) (X := .cells #[.int .i64 room, .slice A0 x.length c0, .int .i64 (s0 : Int), .slice A1 b1.length c1, .int .i64 (s1 : Int), .int .i64 cat, .int .i64 keep, .bool armed, .bool down, .int .i64 ops] 80 (0, 0)) (blk_drew (set10_1 HG.out _)) (Only.trans (Only.set g 1 _ _) (Only.drew g _)) ?_
  intro w4 hG4 ho4
  have HG4 := Aside0.mk hG4
  have HO4 := Aside0.mk ho4
  clear hG4 ho4 z0 z1 z2 z3 z4 z5 z6 z7 z8 z9 zf HG
  obtain ⟨z0, z1, z2, z3, z4, z5, z6, z7, z8, z9, zf⟩ := cells10 HG4.out
  go_wp2
  rw [rounds_succ]
  go_wp2
  go_region
  refine name_world (g := g) (w := w) (X := .cells #[.int .i64 room, .slice A0 x.length c0, .int .i64 (s0 : Int), .slice A1 y.length c1, .int .i64 (s1 : Int), .int .i64 cat, .int .i64 keep, .bool armed, .bool down, .int .i64 ops] 80 (0, 0)) (blk_drew (set10_3 HG4.out _)) (Only.trans HO4.out (Only.trans (Only.set g 3 _ _) (Only.drew g _))) ?_
  intro w5 hG5 ho5
  have HG5 := Aside0.mk hG5
  have HO5 := Aside0.mk ho5
  clear hG5 ho5 z0 z1 z2 z3 z4 z5 z6 z7 z8 z9 zf HG4 HO4
  obtain ⟨z0, z1, z2, z3, z4, z5, z6, z7, z8, z9, zf⟩ := cells10 HG5.out
  go_wp2
  rw [rounds_succ]
  go_wp2
  go_end0
  exact ⟨rfl, HF.out _ (set10_9 (set10_8 (set10_7 HG5.out _) _) _) (Only.trans HO5.out (Only.trans (Only.trans (Only.set g 7 _ _) (Only.set g 8 _ _)) (Only.set g 9 _ _))), (Only.trans HO5.out (Only.trans (Only.trans (Only.set g 7 _ _) (Only.set g 8 _ _)) (Only.set g 9 _ _))).fr hgo⟩
theorem trestart (g : Nat) (ok : Nat → Prop) (D : Dk) (w : World) (h : IsD w ok g D) (hs : D.s0 ≤ D.b0.length ∧ D.s1 ≤ D.b1.length) : Calls Try.prog 22 #[.pointer (some ⟨g, 0, none⟩)] w fun e w' => e = .returned (.tuple #[]) ∧ IsD w' ok g D.restart ∧ Fr ok w w' :=
  trestart' g ok D.room D.b0 D.s0 D.b1 D.s1 D.cat D.keep D.armed D.down D.ops w h hs

def Dk.arm (D : Dk) (at' kp : Int) : Dk := { D with cat := at', keep := kp, armed := true }
theorem tarm_nil (x y : Int) (w : World) : Calls Try.prog 18 #[.pointer none, .agg #[.int .i64 x, .int .i64 y]] w fun e w' => e = .returned (.tuple #[]) ∧ Below w.heap.size w w' := by
  have HB := Aside0.mk (Below.refl w.heap.size w)
  go_enter Try.func18, Try.ntmps18
  go_wp2
  go_end0
  exact ⟨rfl, below_alloc HB.out _⟩
theorem tarm' (g : Nat) (ok : Nat → Prop) (room : Int) (b0 : List Int) (s0 : Nat) (b1 : List Int) (s1 : Nat) (cat keep : Int) (armed down : Bool) (ops : Int) (w : World) (h : IsD w ok g ⟨room, b0, s0, b1, s1, cat, keep, armed, down, ops⟩) (x y : Int) : Calls Try.prog 18 #[.pointer (some ⟨g, 0, none⟩), .agg #[.int .i64 x, .int .i64 y]] w fun e w' => e = .returned (.tuple #[]) ∧ IsD w' ok g ⟨room, b0, s0, b1, s1, x, y, true, down, ops⟩ ∧ Fr ok w w' := by
  have HB := Aside0.mk (Below.refl w.heap.size w)
  obtain ⟨hg, A0, c0, A1, c1, hG, h0, h1⟩ := h.op
  have HG := Aside0.mk hG
  have HF := Aside0.mk (fun (w' : World) (hG' : w'.heap[g]? = some (.cells #[.int .i64 room, .slice A0 b0.length c0, .int .i64 (s0 : Int), .slice A1 b1.length c1, .int .i64 (s1 : Int), .int .i64 x, .int .i64 y, .bool true, .bool down, .int .i64 ops] 80 (0, 0))) (ho : Only g w w') => show IsD w' ok g ⟨room, b0, s0, b1, s1, x, y, true, down, ops⟩ ∧ Fr ok w w' from ⟨⟨hg, A0, c0, A1, c1, hG', P0_set h0 ho, P0_set h1 ho⟩, ho.fr hg⟩)
  have HE := Aside0.mk (HF.out _ (set10_7 (set10_6 (set10_5 HG.out (.int .i64 x)) (.int .i64 y)) (.bool true)) (Only.trans (Only.trans (Only.set g 5 _ _) (Only.set g 6 _ _)) (Only.set g 7 _ _)))
  obtain ⟨z0, z1, z2, z3, z4, z5, z6, z7, z8, z9, zf⟩ := cells10 hG
  have hlt := blk_lt hG
  have hne : g ≠ w.heap.size := by omega
  clear h0 h1 hG hg h
  go_enter Try.func18, Try.ntmps18
  go_wp2
  go_end0
  exact ⟨rfl, HE.out.1.below (below_alloc (Below.refl _ _) _), Fr.trans HE.out.2 (Fr.of_below (below_alloc (Below.refl _ _) _))⟩
theorem tarm (g : Nat) (ok : Nat → Prop) (D : Dk) (x y : Int) (w : World) (h : IsD w ok g D) : Calls Try.prog 18 #[.pointer (some ⟨g, 0, none⟩), .agg #[.int .i64 x, .int .i64 y]] w fun e w' => e = .returned (.tuple #[]) ∧ IsD w' ok g (D.arm x y) ∧ Fr ok w w' :=
  tarm' g ok D.room D.b0 D.s0 D.b1 D.s1 D.cat D.keep D.armed D.down D.ops w h x y
end Go.Proofs.Ythaeppjhmjpecaa.B
