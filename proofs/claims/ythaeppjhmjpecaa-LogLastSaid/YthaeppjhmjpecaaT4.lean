/- tape: Sync, Wipe, Restart, Arm, Read. -/
import Derived.Test.YthaeppjhmjpecaaT3
namespace Go.Proofs.Ythaeppjhmjpecaa.B
open Go.RowKit Go.Proofs.YthaeppjhmjpecaaW.PrintWords Go.Proofs.YthaeppjhmjpecaaW.PrintLast Go.Proofs.YthaeppjhmjpecaaW.PrintMore
attribute [local go_sem] max2_int min2_int max_two min_two max_three min_three max_four min_four
set_option linter.unusedVariables false
set_option linter.unusedSimpArgs false

theorem app_full {D : Dk} {side : Int} {l : List Int} (h1 : D.down = false) (h2 : sideB side = true) (h3 : D.room - D.len side < l.length) : D.appE side l = 3 ∧ D.app side l = D := by unfold Dk.appE Dk.app; simp [h1, h2, h3]
theorem app_hit {D : Dk} {side : Int} {l : List Int} (h1 : D.down = false) (h2 : sideB side = true) (h3 : ¬ D.room - D.len side < l.length) (h4 : D.hit = true) : D.appE side l = 11 ∧ D.app side l = D.crash := by unfold Dk.appE Dk.app; simp [h1, h2, h3, h4]
theorem app_ok0 {D : Dk} {l : List Int} (h1 : D.down = false) (h3 : ¬ D.room - D.len 0 < l.length) (h4 : D.hit = false) : D.appE 0 l = 0 ∧ D.app 0 l = { D.tick with b0 := D.b0 ++ l } := by unfold Dk.appE Dk.app; simp [h1, h3, h4, show sideB 0 = true by decide]
theorem app_ok1 {D : Dk} {l : List Int} (h1 : D.down = false) (h3 : ¬ D.room - D.len 1 < l.length) (h4 : D.hit = false) : D.appE 1 l = 0 ∧ D.app 1 l = { D.tick with b1 := D.b1 ++ l } := by unfold Dk.appE Dk.app; simp [h1, h3, h4, show sideB 1 = true by decide]
theorem app_down {D : Dk} {side : Int} {l : List Int} (h1 : D.down = true) : D.appE side l = 11 ∧ D.app side l = D := by unfold Dk.appE Dk.app; simp [h1]
theorem app_side {D : Dk} {side : Int} {l : List Int} (h1 : D.down = false) (h2 : sideB side = false) : D.appE side l = 1 ∧ D.app side l = D := by unfold Dk.appE Dk.app; simp [h1, h2]

theorem tapp (g : Nat) (ok : Nat → Prop) (D : Dk) (side : Int) (A : Option Addr) (c : Nat) (l : List Int) (w : World) (h : IsD w ok g D) (hw : D.Wf) (hC : Kd.C (Kd.int .u8) w A l.length l) (hl : l.length ≤ 140737488351232) (hA : ∀ ad, A = some ad → 0 < l.length → ad.block ≠ g) (hok : ∀ k, w.heap.size ≤ k → ok k) :
    Calls Try.prog 15 #[.pointer (some ⟨g, 0, none⟩), .int .i64 side, .slice A l.length c] w fun e w' => e = .returned (.int .i64 (D.appE side l)) ∧ IsD w' ok g (D.app side l) ∧ Fr ok w w' := by
  obtain ⟨room, b0, s0, b1, s1, cat, keep, armed, down, ops⟩ := D
  cases down with
  | true => exact tapp_down g ok room b0 s0 b1 s1 cat keep armed ops A c l w h side
  | false =>
    cases hs : sideB side with
    | false =>
      have e := app_side (D := ⟨room, b0, s0, b1, s1, cat, keep, armed, false, ops⟩) (side := side) (l := l) rfl hs
      rw [e.1, e.2]
      exact tapp_side g ok room b0 s0 b1 s1 cat keep armed ops A c l w h side hs
    | true =>
      have h01 : side = 0 ∨ side = 1 := by
        unfold sideB at hs
        rw [Bool.and_eq_true, decide_eq_true_iff, decide_eq_true_iff] at hs
        omega
      rcases h01 with rfl | rfl
      · by_cases hf : room - (b0.length : Int) < l.length
        · have e := app_full (D := ⟨room, b0, s0, b1, s1, cat, keep, armed, false, ops⟩) (side := 0) (l := l) rfl hs hf
          rw [e.1, e.2]
          exact tapp_full0 g ok room b0 s0 b1 s1 cat keep armed ops A c l w h hw hC hl hf
        · cases hh : Dk.hit ⟨room, b0, s0, b1, s1, cat, keep, armed, false, ops⟩ with
          | true =>
            have e := app_hit (D := ⟨room, b0, s0, b1, s1, cat, keep, armed, false, ops⟩) (side := 0) (l := l) rfl hs hf hh
            rw [e.1, e.2]
            exact tapp_hit0 g ok room b0 s0 b1 s1 cat keep armed ops A c l w h hw hC hl hf hh
          | false =>
            have e := app_ok0 (D := ⟨room, b0, s0, b1, s1, cat, keep, armed, false, ops⟩) (l := l) rfl hf hh
            rw [e.1, e.2]
            exact tapp_ok0 g ok room b0 s0 b1 s1 cat keep armed ops A c l w h hw hC hl hf hh hA hok
      · by_cases hf : room - (b1.length : Int) < l.length
        · have e := app_full (D := ⟨room, b0, s0, b1, s1, cat, keep, armed, false, ops⟩) (side := 1) (l := l) rfl hs hf
          rw [e.1, e.2]
          exact tapp_full1 g ok room b0 s0 b1 s1 cat keep armed ops A c l w h hw hC hl hf
        · cases hh : Dk.hit ⟨room, b0, s0, b1, s1, cat, keep, armed, false, ops⟩ with
          | true =>
            have e := app_hit (D := ⟨room, b0, s0, b1, s1, cat, keep, armed, false, ops⟩) (side := 1) (l := l) rfl hs hf hh
            rw [e.1, e.2]
            exact tapp_hit1 g ok room b0 s0 b1 s1 cat keep armed ops A c l w h hw hC hl hf hh
          | false =>
            have e := app_ok1 (D := ⟨room, b0, s0, b1, s1, cat, keep, armed, false, ops⟩) (l := l) rfl hf hh
            rw [e.1, e.2]
            exact tapp_ok1 g ok room b0 s0 b1 s1 cat keep armed ops A c l w h hw hC hl hf hh hA hok

def Dk.syncE (D : Dk) : Int := if D.down = true then 11 else if D.hit = true then 11 else 0
def Dk.sync (D : Dk) : Dk := if D.down = true then D else if D.hit = true then D.crash else { D.tick with s0 := D.b0.length, s1 := D.b1.length }
theorem sync_hit {D : Dk} (h1 : D.down = false) (h4 : D.hit = true) : D.syncE = 11 ∧ D.sync = D.crash := by unfold Dk.syncE Dk.sync; simp [h1, h4]
theorem sync_ok {D : Dk} (h1 : D.down = false) (h4 : D.hit = false) : D.syncE = 0 ∧ D.sync = { D.tick with s0 := D.b0.length, s1 := D.b1.length } := by unfold Dk.syncE Dk.sync; simp [h1, h4]
theorem sync_down {D : Dk} (h1 : D.down = true) : D.syncE = 11 ∧ D.sync = D := by unfold Dk.syncE Dk.sync; simp [h1]
theorem tsync_nil (w : World) : Calls Try.prog 21 #[.pointer none] w fun e w' => e = .returned (.int .i64 11) ∧ Below w.heap.size w w' := by
  have HB := Aside0.mk (Below.refl w.heap.size w)
  go_enter Try.func21, Try.ntmps21
  go_wp2_with (first | ((with_reducible refine gate_dst (N := 5) rfl ?_); (try (refine gate_guard (by rfl) ?_; dsimp only)); go_loud (refine goesL_ (some 5) rfl rfl Try.func19 (by kernel_rfl) rfl #[.pointer none] rfl (by (try simp only [List.map_toArray, List.map_cons, List.map_nil]); first | done | rfl | (simp only [List.length_drop, List.length_take]; rfl)) ?_; refine (tdown0 _).mono ?_; rintro e w1 ⟨rfl, hbl⟩; refine ⟨_, rfl, ?_⟩; have HB_ := Aside0.mk (below_step HB.out hbl); clear HB; have HB := HB_; clear HB_; clear hbl)))
  go_ret
  exact ⟨rfl, HB.out⟩
theorem tsync_down (g : Nat) (ok : Nat → Prop) (room : Int) (b0 : List Int) (s0 : Nat) (b1 : List Int) (s1 : Nat) (cat keep : Int) (armed : Bool) (ops : Int) (w : World) (h : IsD w ok g ⟨room, b0, s0, b1, s1, cat, keep, armed, true, ops⟩) : Calls Try.prog 21 #[.pointer (some ⟨g, 0, none⟩)] w fun e w' => e = .returned (.int .i64 11) ∧ IsD w' ok g ⟨room, b0, s0, b1, s1, cat, keep, armed, true, ops⟩ ∧ Fr ok w w' := by
  have HB := Aside0.mk (Below.refl w.heap.size w)
  have HD := Aside0.mk h
  clear h
  go_enter Try.func21, Try.ntmps21
  go_wp2_with (first | ((with_reducible refine gate_dst (N := 5) rfl ?_); (try (refine gate_guard (by rfl) ?_; dsimp only)); go_loud (refine goesL_ (some 5) rfl rfl Try.func19 (by kernel_rfl) rfl #[.pointer (some ⟨g, 0, none⟩)] rfl (by (try simp only [List.map_toArray, List.map_cons, List.map_nil]); first | done | rfl | (simp only [List.length_drop, List.length_take]; rfl)) ?_; refine (tdown g ok room b0 s0 b1 s1 cat keep armed true ops _ HD.out).mono ?_; rintro e w1 ⟨rfl, hbl⟩; refine ⟨_, rfl, ?_⟩; have HD' := Aside0.mk (HD.out.below hbl); have HB' := Aside0.mk (below_step HB.out hbl); clear HD HB hbl; have HD := HD'; have HB := HB'; clear HD' HB')))
  go_ret
  exact ⟨rfl, HD.out, Fr.of_below HB.out⟩
theorem tsync_hit (g : Nat) (ok : Nat → Prop) (room : Int) (b0 : List Int) (s0 : Nat) (b1 : List Int) (s1 : Nat) (cat keep : Int) (armed : Bool) (ops : Int) (w : World) (h : IsD w ok g ⟨room, b0, s0, b1, s1, cat, keep, armed, false, ops⟩) (hw : Dk.Wf ⟨room, b0, s0, b1, s1, cat, keep, armed, false, ops⟩) (hh : Dk.hit ⟨room, b0, s0, b1, s1, cat, keep, armed, false, ops⟩ = true) : Calls Try.prog 21 #[.pointer (some ⟨g, 0, none⟩)] w fun e w' => e = .returned (.int .i64 11) ∧ IsD w' ok g (Dk.crash ⟨room, b0, s0, b1, s1, cat, keep, armed, false, ops⟩) ∧ Fr ok w w' := by
  have HB := Aside0.mk (Below.refl w.heap.size w)
  have HD := Aside0.mk h
  have HW := Aside0.mk hw
  have HH := Aside0.mk hh
  have hgo := h.1
  clear h hw hh
  go_enter Try.func21, Try.ntmps21
  go_wp2_with (first | ((with_reducible refine gate_dst (N := 5) rfl ?_); (try (refine gate_guard (by rfl) ?_; dsimp only)); go_loud (refine goesL_ (some 5) rfl rfl Try.func19 (by kernel_rfl) rfl #[.pointer (some ⟨g, 0, none⟩)] rfl (by (try simp only [List.map_toArray, List.map_cons, List.map_nil]); first | done | rfl | (simp only [List.length_drop, List.length_take]; rfl)) ?_; refine (tdown g ok room b0 s0 b1 s1 cat keep armed false ops _ HD.out).mono ?_; rintro e w1 ⟨rfl, hbl⟩; refine ⟨_, rfl, ?_⟩; have HD' := Aside0.mk (HD.out.below hbl); have HB' := Aside0.mk (below_step HB.out hbl); clear HD HB hbl; have HD := HD'; have HB := HB'; clear HD' HB')) | ((with_reducible refine gate_dst (N := 8) rfl ?_); (try (refine gate_guard (by rfl) ?_; dsimp only)); go_loud (refine goesL_ (some 8) rfl rfl Try.func46 (by kernel_rfl) rfl #[.pointer (some ⟨g, 0, none⟩)] rfl (by (try simp only [List.map_toArray, List.map_cons, List.map_nil]); first | done | rfl | (simp only [List.length_drop, List.length_take]; rfl)) ?_; refine (tfalls_yes g ok room b0 s0 b1 s1 cat keep armed false ops _ HD.out HW.out HH.out).mono ?_; rintro e w3 ⟨rfl, hD3, ho3⟩; refine ⟨_, rfl, ?_⟩; have HD3 := Aside0.mk hD3; have HF3 := Aside0.mk (Fr.trans (Fr.of_below HB.out) (ho3.fr hgo)); clear hD3 ho3)))
  go_ret
  exact ⟨rfl, HD3.out, HF3.out⟩
set_option maxHeartbeats 1000000 in
theorem tsync_ok (g : Nat) (ok : Nat → Prop) (room : Int) (b0 : List Int) (s0 : Nat) (b1 : List Int) (s1 : Nat) (cat keep : Int) (armed : Bool) (ops : Int) (w : World) (h : IsD w ok g ⟨room, b0, s0, b1, s1, cat, keep, armed, false, ops⟩) (hw : Dk.Wf ⟨room, b0, s0, b1, s1, cat, keep, armed, false, ops⟩) (hh : Dk.hit ⟨room, b0, s0, b1, s1, cat, keep, armed, false, ops⟩ = false) : Calls Try.prog 21 #[.pointer (some ⟨g, 0, none⟩)] w fun e w' => e = .returned (.int .i64 0) ∧ IsD w' ok g ⟨room, b0, b0.length, b1, b1.length, cat, keep, armed, false, ops + 1⟩ ∧ Fr ok w w' := by
  have HB := Aside0.mk (Below.refl w.heap.size w)
  have HD := Aside0.mk h
  have HW := Aside0.mk hw
  have HH := Aside0.mk hh
  have hgo := h.1
  clear h hw hh
  go_enter Try.func21, Try.ntmps21
  go_wp2_with (first | ((with_reducible refine gate_dst (N := 5) rfl ?_); (try (refine gate_guard (by rfl) ?_; dsimp only)); go_loud (refine goesL_ (some 5) rfl rfl Try.func19 (by kernel_rfl) rfl #[.pointer (some ⟨g, 0, none⟩)] rfl (by (try simp only [List.map_toArray, List.map_cons, List.map_nil]); first | done | rfl | (simp only [List.length_drop, List.length_take]; rfl)) ?_; refine (tdown g ok room b0 s0 b1 s1 cat keep armed false ops _ HD.out).mono ?_; rintro e w1 ⟨rfl, hbl⟩; refine ⟨_, rfl, ?_⟩; have HD' := Aside0.mk (HD.out.below hbl); have HB' := Aside0.mk (below_step HB.out hbl); clear HD HB hbl; have HD := HD'; have HB := HB'; clear HD' HB')) | ((with_reducible refine gate_dst (N := 8) rfl ?_); (try (refine gate_guard (by rfl) ?_; dsimp only)); go_loud (refine goesL_ (some 8) rfl rfl Try.func46 (by kernel_rfl) rfl #[.pointer (some ⟨g, 0, none⟩)] rfl (by (try simp only [List.map_toArray, List.map_cons, List.map_nil]); first | done | rfl | (simp only [List.length_drop, List.length_take]; rfl)) ?_; refine (tfalls_no g ok room b0 s0 b1 s1 cat keep armed false ops _ HD.out HW.out HH.out).mono ?_; rintro e w3 ⟨rfl, hD3, ho3⟩; refine ⟨_, rfl, ?_⟩; have HF3 := Aside0.mk (Fr.trans (Fr.of_below HB.out) (ho3.fr hgo)); clear ho3 HB HD; obtain ⟨hg, A0, c0, A1, c1, hG, h0, h1⟩ := hD3.op; have HG := Aside0.mk hG; have H0 := Aside0.mk h0; have H1 := Aside0.mk h1; clear hD3 h0 h1; obtain ⟨z0, z1, z2, z3, z4, z5, z6, z7, z8, z9, zf⟩ := cells10 hG; clear hG hg)))
  refine wp_loop_rounds 3 ?_
  rw [rounds_succ]
  go_wp2
  go_region
  refine name_world (g := g) (w := w3) (X := .cells #[.int .i64 room, .slice A0 b0.length c0, .int .i64 (b0.length : Int), .slice A1 b1.length c1, .int .i64 (s1 : Int), .int .i64 cat, .int .i64 keep, .bool armed, .bool false, .int .i64 (ops + 1)] 80 (0, 0)) (blk_drew (set10_2 HG.out _)) (Only.trans (Only.set g 2 _ _) (Only.drew g _)) ?_
  intro w4 hG4 ho4
  have HG4 := Aside0.mk hG4
  have HO4 := Aside0.mk ho4
  clear hG4 ho4 z0 z1 z2 z3 z4 z5 z6 z7 z8 z9 zf HG
  obtain ⟨z0, z1, z2, z3, z4, z5, z6, z7, z8, z9, zf⟩ := cells10 HG4.out
  go_wp2
  rw [rounds_succ]
  go_wp2
  go_region
  refine name_world (g := g) (w := w3) (X := .cells #[.int .i64 room, .slice A0 b0.length c0, .int .i64 (b0.length : Int), .slice A1 b1.length c1, .int .i64 (b1.length : Int), .int .i64 cat, .int .i64 keep, .bool armed, .bool false, .int .i64 (ops + 1)] 80 (0, 0)) (blk_drew (set10_4 HG4.out _)) (Only.trans HO4.out (Only.trans (Only.set g 4 _ _) (Only.drew g _))) ?_
  intro w5 hG5 ho5
  have HG5 := Aside0.mk hG5
  have HO5 := Aside0.mk ho5
  clear hG5 ho5 z0 z1 z2 z3 z4 z5 z6 z7 z8 z9 zf HG4 HO4
  obtain ⟨z0, z1, z2, z3, z4, z5, z6, z7, z8, z9, zf⟩ := cells10 HG5.out
  go_wp2
  rw [rounds_succ]
  go_wp2
  go_ret
  exact ⟨rfl, ⟨hgo, A0, c0, A1, c1, HG5.out, P0_set H0.out HO5.out, P0_set H1.out HO5.out⟩, Fr.trans HF3.out (HO5.out.fr hgo)⟩
theorem tsync (g : Nat) (ok : Nat → Prop) (D : Dk) (w : World) (h : IsD w ok g D) (hw : D.Wf) : Calls Try.prog 21 #[.pointer (some ⟨g, 0, none⟩)] w fun e w' => e = .returned (.int .i64 D.syncE) ∧ IsD w' ok g D.sync ∧ Fr ok w w' := by
  obtain ⟨room, b0, s0, b1, s1, cat, keep, armed, down, ops⟩ := D
  cases down with
  | true => exact tsync_down g ok room b0 s0 b1 s1 cat keep armed ops w h
  | false =>
    cases hh : Dk.hit ⟨room, b0, s0, b1, s1, cat, keep, armed, false, ops⟩ with
    | true =>
      have e := sync_hit (D := ⟨room, b0, s0, b1, s1, cat, keep, armed, false, ops⟩) rfl hh
      rw [e.1, e.2]
      exact tsync_hit g ok room b0 s0 b1 s1 cat keep armed ops w h hw hh
    | false =>
      have e := sync_ok (D := ⟨room, b0, s0, b1, s1, cat, keep, armed, false, ops⟩) rfl hh
      rw [e.1, e.2]
      exact tsync_ok g ok room b0 s0 b1 s1 cat keep armed ops w h hw hh
end Go.Proofs.Ythaeppjhmjpecaa.B
