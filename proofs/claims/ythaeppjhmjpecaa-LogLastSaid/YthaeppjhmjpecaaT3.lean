/- tape: Append. -/
import Derived.Test.YthaeppjhmjpecaaT2
namespace Go.Proofs.Ythaeppjhmjpecaa.B
open Go.RowKit Go.Proofs.YthaeppjhmjpecaaW.PrintWords Go.Proofs.YthaeppjhmjpecaaW.PrintLast Go.Proofs.YthaeppjhmjpecaaW.PrintMore
attribute [local go_sem] max2_int min2_int max_two min_two max_three min_three max_four min_four
set_option linter.unusedVariables false
set_option linter.unusedSimpArgs false

theorem C_ne {w : World} {A : Option Addr} {n : Nat} {xs : List Int} (h : Kd.C (Kd.int .u8) w A n xs) {w' : World} {g : Nat} (ho : Only g w w') (hA : ∀ ad, A = some ad → 0 < n → ad.block ≠ g) : Kd.C (Kd.int .u8) w' A n xs := C_only h ho hA
/-- The row of the one side behind an append to the other. -/
theorem P0_after {ok : Nat → Prop} {g : Nat} {W w1 : World} {u v v1 : Value} {xs : List Int} (h : Kd.R (Kd.int .u8) 5 W 0 (P0 ok g v) u xs) (hg : W.grownBy w1 v.ownBlock) (hat : v1.ownBlock = v.ownBlock ∨ ∃ b, v1.ownBlock = some b ∧ W.heap.size ≤ b) : Kd.R (Kd.int .u8) 5 w1 0 (P0 ok g v1) u xs := by
  have h1 : Kd.R (Kd.int .u8) 5 W 0 (fun k => (ok k ∧ k ≠ g) ∧ some k ≠ v.ownBlock) u xs := Kd.R_mono h (fun k hk => ⟨⟨hk.1, hk.2.1⟩, hk.2.2⟩)
  exact Kd.R_mono (Kd.R_after h1 hg hat) (fun k hk => ⟨hk.1.1, hk.1.2, hk.2⟩)
theorem P0_fresh {ok : Nat → Prop} {g : Nat} {w W : World} {u : Value} {ok' : Nat → Prop} {xs : List Int} (hok : ∀ k, w.heap.size ≤ k → ok k) (hs : w.heap.size ≤ W.heap.size) (hg : g < W.heap.size) (h : Kd.R (Kd.int .u8) 5 W 0 ok' u xs) : ∀ k, W.heap.size ≤ k → P0 ok g u k :=
  fun k hk => ⟨hok k (by omega), by omega, fun e => by have := Kd.R_lt h k e.symm; omega⟩
theorem Fr.grown {ok : Nat → Prop} {W w1 : World} {row : Option Nat} (h : W.grownBy w1 row) (hr : ∀ k, row = some k → ok k) : Fr ok W w1 := ⟨h.os, h.tape, h.output, h.size, fun k hk ho => h.block k hk (fun e => ho (hr k e.symm))⟩
def Dk.len (D : Dk) (side : Int) : Int := if side = 0 then D.b0.length else D.b1.length
/-- Append's answer, and the deck behind it. -/
def Dk.appE (D : Dk) (side : Int) (l : List Int) : Int := if D.down = true then 11 else if sideB side = false then 1 else if D.room - D.len side < l.length then 3 else if D.hit = true then 11 else 0
def Dk.app (D : Dk) (side : Int) (l : List Int) : Dk := if D.down = true then D else if sideB side = false then D else if D.room - D.len side < l.length then D else if D.hit = true then D.crash else if side = 0 then { D.tick with b0 := D.b0 ++ l } else { D.tick with b1 := D.b1 ++ l }
theorem tapp_nil (side : Int) (A : Option Addr) (c : Nat) (l : List Int) (w : World) : Calls Try.prog 15 #[.pointer none, .int .i64 side, .slice A l.length c] w fun e w' => e = .returned (.int .i64 11) ∧ Below w.heap.size w w' := by
  have HB := Aside0.mk (Below.refl w.heap.size w)
  go_enter Try.func15, Try.ntmps15
  go_wp2_with (first | ((with_reducible refine gate_dst (N := 10) rfl ?_); (try (refine gate_guard (by rfl) ?_; dsimp only)); go_loud (refine goesL_ (some 10) rfl rfl Try.func19 (by kernel_rfl) rfl #[.pointer none] rfl (by (try simp only [List.map_toArray, List.map_cons, List.map_nil]); first | done | rfl | (simp only [List.length_drop, List.length_take]; rfl)) ?_; refine (tdown0 _).mono ?_; rintro e w1 ⟨rfl, hbl⟩; refine ⟨_, rfl, ?_⟩; have HB_ := Aside0.mk (below_step HB.out hbl); clear HB; have HB := HB_; clear HB_; clear hbl)))
  go_ret
  exact ⟨rfl, HB.out⟩

theorem tapp_down (g : Nat) (ok : Nat → Prop) (room : Int) (b0 : List Int) (s0 : Nat) (b1 : List Int) (s1 : Nat) (cat keep : Int) (armed : Bool) (ops : Int) (A : Option Addr) (c : Nat) (l : List Int) (w : World) (h : IsD w ok g ⟨room, b0, s0, b1, s1, cat, keep, armed, true, ops⟩) (side : Int) : Calls Try.prog 15 #[.pointer (some ⟨g, 0, none⟩), .int .i64 side, .slice A l.length c] w fun e w' => e = .returned (.int .i64 11) ∧ IsD w' ok g ⟨room, b0, s0, b1, s1, cat, keep, armed, true, ops⟩ ∧ Fr ok w w' := by
  have HB := Aside0.mk (Below.refl w.heap.size w)
  have HD := Aside0.mk h
  clear h
  go_enter Try.func15, Try.ntmps15
  go_wp2_with (first | ((with_reducible refine gate_dst (N := 10) rfl ?_); (try (refine gate_guard (by rfl) ?_; dsimp only)); go_loud (refine goesL_ (some 10) rfl rfl Try.func19 (by kernel_rfl) rfl #[.pointer (some ⟨g, 0, none⟩)] rfl (by (try simp only [List.map_toArray, List.map_cons, List.map_nil]); first | done | rfl | (simp only [List.length_drop, List.length_take]; rfl)) ?_; refine (tdown g ok room b0 s0 b1 s1 cat keep armed true ops _ HD.out).mono ?_; rintro e w1 ⟨rfl, hbl⟩; refine ⟨_, rfl, ?_⟩; have HB_ := Aside0.mk (below_step HB.out hbl); clear HB; have HB := HB_; clear HB_; clear hbl)))
  go_ret
  exact ⟨rfl, HD.out.below HB.out, Fr.of_below HB.out⟩
theorem tapp_side (g : Nat) (ok : Nat → Prop) (room : Int) (b0 : List Int) (s0 : Nat) (b1 : List Int) (s1 : Nat) (cat keep : Int) (armed : Bool) (ops : Int) (A : Option Addr) (c : Nat) (l : List Int) (w : World) (h : IsD w ok g ⟨room, b0, s0, b1, s1, cat, keep, armed, false, ops⟩) (side : Int) (hs : sideB side = false) : Calls Try.prog 15 #[.pointer (some ⟨g, 0, none⟩), .int .i64 side, .slice A l.length c] w fun e w' => e = .returned (.int .i64 1) ∧ IsD w' ok g ⟨room, b0, s0, b1, s1, cat, keep, armed, false, ops⟩ ∧ Fr ok w w' := by
  have HB := Aside0.mk (Below.refl w.heap.size w)
  have HD := Aside0.mk h
  have HS := Aside0.mk hs
  clear h hs
  go_enter Try.func15, Try.ntmps15
  go_wp2_with (first | ((with_reducible refine gate_dst (N := 10) rfl ?_); (try (refine gate_guard (by rfl) ?_; dsimp only)); go_loud (refine goesL_ (some 10) rfl rfl Try.func19 (by kernel_rfl) rfl #[.pointer (some ⟨g, 0, none⟩)] rfl (by (try simp only [List.map_toArray, List.map_cons, List.map_nil]); first | done | rfl | (simp only [List.length_drop, List.length_take]; rfl)) ?_; refine (tdown g ok room b0 s0 b1 s1 cat keep armed false ops _ HD.out).mono ?_; rintro e w1 ⟨rfl, hbl⟩; refine ⟨_, rfl, ?_⟩; have HB_ := Aside0.mk (below_step HB.out hbl); clear HB; have HB := HB_; clear HB_; clear hbl)) | ((with_reducible refine gate_dst (N := 13) rfl ?_); (try (refine gate_guard (by rfl) ?_; dsimp only)); go_loud (refine goesL_ (some 13) rfl rfl Try.func45 (by kernel_rfl) rfl #[.int .i64 side] rfl (by (try simp only [List.map_toArray, List.map_cons, List.map_nil]); first | done | rfl | (simp only [List.length_drop, List.length_take]; rfl)) ?_; refine (tside side _).mono ?_; rintro e w2 ⟨rfl, hbl⟩; refine ⟨_, rfl, ?_⟩; rw [HS.out]; have HB_ := Aside0.mk (below_step HB.out hbl); clear HB; have HB := HB_; clear HB_; clear hbl)))
  go_ret
  exact ⟨rfl, HD.out.below HB.out, Fr.of_below HB.out⟩

set_option maxHeartbeats 1000000 in
theorem tapp_full0 (g : Nat) (ok : Nat → Prop) (room : Int) (b0 : List Int) (s0 : Nat) (b1 : List Int) (s1 : Nat) (cat keep : Int) (armed : Bool) (ops : Int) (A : Option Addr) (c : Nat) (l : List Int) (w : World) (h : IsD w ok g ⟨room, b0, s0, b1, s1, cat, keep, armed, false, ops⟩) (hw : Dk.Wf ⟨room, b0, s0, b1, s1, cat, keep, armed, false, ops⟩) (hC : Kd.C (Kd.int .u8) w A l.length l) (hl : l.length ≤ 140737488351232) (hf : room - b0.length < l.length) : Calls Try.prog 15 #[.pointer (some ⟨g, 0, none⟩), .int .i64 0, .slice A l.length c] w fun e w' => e = .returned (.int .i64 3) ∧ IsD w' ok g ⟨room, b0, s0, b1, s1, cat, keep, armed, false, ops⟩ ∧ Fr ok w w' := by
  have HB := Aside0.mk (Below.refl w.heap.size w)
  have HD := Aside0.mk h
  have HC := Aside0.mk hC
  have HW := Aside0.mk hw
  have HS := Aside0.mk (show sideB 0 = true by decide)
  obtain ⟨q0, q1, q2, q3, q4, q5, q6, q7, q8⟩ := hw
  simp only at q0 q1 q2 q3 q4 q5 q6 q7 q8
  have hfb : decide (room - (b0.length : Int) < (l.length : Int)) = true := decide_eq_true hf
  clear h hC hf
  go_enter Try.func15, Try.ntmps15
  go_wp2_with (first | ((with_reducible refine gate_dst (N := 10) rfl ?_); (try (refine gate_guard (by rfl) ?_; dsimp only)); go_loud (refine goesL_ (some 10) rfl rfl Try.func19 (by kernel_rfl) rfl #[.pointer (some ⟨g, 0, none⟩)] rfl (by (try simp only [List.map_toArray, List.map_cons, List.map_nil]); first | done | rfl | (simp only [List.length_drop, List.length_take]; rfl)) ?_; refine (tdown g ok room b0 s0 b1 s1 cat keep armed false ops _ HD.out).mono ?_; rintro e w1 ⟨rfl, hbl⟩; refine ⟨_, rfl, ?_⟩; have HD' := Aside0.mk (HD.out.below hbl); have HB' := Aside0.mk (below_step HB.out hbl); have HC' := Aside0.mk (Kd.C_below HC.out hbl); clear HD HB HC hbl; have HD := HD'; have HB := HB'; have HC := HC'; clear HD' HB' HC')) | ((with_reducible refine gate_dst (N := 13) rfl ?_); (try (refine gate_guard (by rfl) ?_; dsimp only)); go_loud (refine goesL_ (some 13) rfl rfl Try.func45 (by kernel_rfl) rfl #[.int .i64 0] rfl (by (try simp only [List.map_toArray, List.map_cons, List.map_nil]); first | done | rfl | (simp only [List.length_drop, List.length_take]; rfl)) ?_; refine (tside 0 _).mono ?_; rintro e w2 ⟨rfl, hbl⟩; refine ⟨_, rfl, ?_⟩; rw [HS.out]; have HD' := Aside0.mk (HD.out.below hbl); have HB' := Aside0.mk (below_step HB.out hbl); have HC' := Aside0.mk (Kd.C_below HC.out hbl); clear HD HB HC hbl; have HD := HD'; have HB := HB'; have HC := HC'; clear HD' HB' HC'; obtain ⟨hg, A0, c0, A1, c1, hG, h0, h1⟩ := HD.out.op; obtain ⟨z0, z1, z2, z3, z4, z5, z6, z7, z8, z9, zf⟩ := cells10 hG; clear hG h0 h1 hg)))
  go_quiet (fail)
  go_wp2
  go_ret
  exact ⟨rfl, (HD.out.below (pw_below_drewN (Below.refl _ _) _)), Fr.of_below (pw_below_drewN HB.out _)⟩
set_option maxHeartbeats 1000000 in
theorem tapp_hit0 (g : Nat) (ok : Nat → Prop) (room : Int) (b0 : List Int) (s0 : Nat) (b1 : List Int) (s1 : Nat) (cat keep : Int) (armed : Bool) (ops : Int) (A : Option Addr) (c : Nat) (l : List Int) (w : World) (h : IsD w ok g ⟨room, b0, s0, b1, s1, cat, keep, armed, false, ops⟩) (hw : Dk.Wf ⟨room, b0, s0, b1, s1, cat, keep, armed, false, ops⟩) (hC : Kd.C (Kd.int .u8) w A l.length l) (hl : l.length ≤ 140737488351232) (hf : ¬ room - b0.length < l.length) (hh : Dk.hit ⟨room, b0, s0, b1, s1, cat, keep, armed, false, ops⟩ = true) : Calls Try.prog 15 #[.pointer (some ⟨g, 0, none⟩), .int .i64 0, .slice A l.length c] w fun e w' => e = .returned (.int .i64 11) ∧ IsD w' ok g (Dk.crash ⟨room, b0, s0, b1, s1, cat, keep, armed, false, ops⟩) ∧ Fr ok w w' := by
  have HB := Aside0.mk (Below.refl w.heap.size w)
  have HD := Aside0.mk h
  have HC := Aside0.mk hC
  have HW := Aside0.mk hw
  have HS := Aside0.mk (show sideB 0 = true by decide)
  obtain ⟨q0, q1, q2, q3, q4, q5, q6, q7, q8⟩ := hw
  simp only at q0 q1 q2 q3 q4 q5 q6 q7 q8
  have hfb : decide (room - (b0.length : Int) < (l.length : Int)) = false := decide_eq_false hf
  have HH := Aside0.mk hh
  have hgo := h.1
  clear h hC hf hh
  go_enter Try.func15, Try.ntmps15
  go_wp2_with (first | ((with_reducible refine gate_dst (N := 10) rfl ?_); (try (refine gate_guard (by rfl) ?_; dsimp only)); go_loud (refine goesL_ (some 10) rfl rfl Try.func19 (by kernel_rfl) rfl #[.pointer (some ⟨g, 0, none⟩)] rfl (by (try simp only [List.map_toArray, List.map_cons, List.map_nil]); first | done | rfl | (simp only [List.length_drop, List.length_take]; rfl)) ?_; refine (tdown g ok room b0 s0 b1 s1 cat keep armed false ops _ HD.out).mono ?_; rintro e w1 ⟨rfl, hbl⟩; refine ⟨_, rfl, ?_⟩; have HD' := Aside0.mk (HD.out.below hbl); have HB' := Aside0.mk (below_step HB.out hbl); have HC' := Aside0.mk (Kd.C_below HC.out hbl); clear HD HB HC hbl; have HD := HD'; have HB := HB'; have HC := HC'; clear HD' HB' HC')) | ((with_reducible refine gate_dst (N := 13) rfl ?_); (try (refine gate_guard (by rfl) ?_; dsimp only)); go_loud (refine goesL_ (some 13) rfl rfl Try.func45 (by kernel_rfl) rfl #[.int .i64 0] rfl (by (try simp only [List.map_toArray, List.map_cons, List.map_nil]); first | done | rfl | (simp only [List.length_drop, List.length_take]; rfl)) ?_; refine (tside 0 _).mono ?_; rintro e w2 ⟨rfl, hbl⟩; refine ⟨_, rfl, ?_⟩; rw [HS.out]; have HD' := Aside0.mk (HD.out.below hbl); have HB' := Aside0.mk (below_step HB.out hbl); have HC' := Aside0.mk (Kd.C_below HC.out hbl); clear HD HB HC hbl; have HD := HD'; have HB := HB'; have HC := HC'; clear HD' HB' HC'; obtain ⟨hg, A0, c0, A1, c1, hG, h0, h1⟩ := HD.out.op; obtain ⟨z0, z1, z2, z3, z4, z5, z6, z7, z8, z9, zf⟩ := cells10 hG; clear hG h0 h1 hg)))
  go_quiet (fail)
  go_wp2_with (first | ((with_reducible refine gate_dst (N := 34) rfl ?_); (try (refine gate_guard (by rfl) ?_; dsimp only)); go_loud (refine goesL_ (some 34) rfl rfl Try.func46 (by kernel_rfl) rfl #[.pointer (some ⟨g, 0, none⟩)] rfl (by (try simp only [List.map_toArray, List.map_cons, List.map_nil]); first | done | rfl | (simp only [List.length_drop, List.length_take]; rfl)) ?_; refine (tfalls_yes g ok room b0 s0 b1 s1 cat keep armed false ops _ (HD.out.below (pw_below_drewN (Below.refl _ _) _)) HW.out HH.out).mono ?_; rintro e w3 ⟨rfl, hD3, ho3⟩; refine ⟨_, rfl, ?_⟩; have HD3 := Aside0.mk hD3; have HF3 := Aside0.mk (Fr.trans (Fr.of_below (pw_below_drewN HB.out _)) (ho3.fr hgo)); clear hD3 ho3)))
  go_ret
  exact ⟨rfl, HD3.out, HF3.out⟩
set_option maxHeartbeats 2000000 in
theorem tapp_ok0 (g : Nat) (ok : Nat → Prop) (room : Int) (b0 : List Int) (s0 : Nat) (b1 : List Int) (s1 : Nat) (cat keep : Int) (armed : Bool) (ops : Int) (A : Option Addr) (c : Nat) (l : List Int) (w : World) (h : IsD w ok g ⟨room, b0, s0, b1, s1, cat, keep, armed, false, ops⟩) (hw : Dk.Wf ⟨room, b0, s0, b1, s1, cat, keep, armed, false, ops⟩) (hC : Kd.C (Kd.int .u8) w A l.length l) (hl : l.length ≤ 140737488351232) (hf : ¬ room - b0.length < l.length) (hh : Dk.hit ⟨room, b0, s0, b1, s1, cat, keep, armed, false, ops⟩ = false) (hA : ∀ ad, A = some ad → 0 < l.length → ad.block ≠ g) (hok : ∀ k, w.heap.size ≤ k → ok k) : Calls Try.prog 15 #[.pointer (some ⟨g, 0, none⟩), .int .i64 0, .slice A l.length c] w fun e w' => e = .returned (.int .i64 0) ∧ IsD w' ok g ⟨room, (b0 ++ l), s0, b1, s1, cat, keep, armed, false, ops + 1⟩ ∧ Fr ok w w' := by
  have HB := Aside0.mk (Below.refl w.heap.size w)
  have HD := Aside0.mk h
  have HC := Aside0.mk hC
  have HW := Aside0.mk hw
  have HS := Aside0.mk (show sideB 0 = true by decide)
  obtain ⟨q0, q1, q2, q3, q4, q5, q6, q7, q8⟩ := hw
  simp only at q0 q1 q2 q3 q4 q5 q6 q7 q8
  have hfb : decide (room - (b0.length : Int) < (l.length : Int)) = false := decide_eq_false hf
  have HH := Aside0.mk hh
  have hgo := h.1
  have HA := Aside0.mk hA
  have HOK := Aside0.mk hok
  have hll : l.length ≤ 200000 := by omega
  obtain ⟨Y, hY⟩ : ∃ Y, b0 ++ l = Y := ⟨_, rfl⟩
  have HY := Aside0.mk hY
  clear h hC hf hh hA hok hY
  go_enter Try.func15, Try.ntmps15
  go_wp2_with (first | ((with_reducible refine gate_dst (N := 10) rfl ?_); (try (refine gate_guard (by rfl) ?_; dsimp only)); go_loud (refine goesL_ (some 10) rfl rfl Try.func19 (by kernel_rfl) rfl #[.pointer (some ⟨g, 0, none⟩)] rfl (by (try simp only [List.map_toArray, List.map_cons, List.map_nil]); first | done | rfl | (simp only [List.length_drop, List.length_take]; rfl)) ?_; refine (tdown g ok room b0 s0 b1 s1 cat keep armed false ops _ HD.out).mono ?_; rintro e w1 ⟨rfl, hbl⟩; refine ⟨_, rfl, ?_⟩; have HD' := Aside0.mk (HD.out.below hbl); have HB' := Aside0.mk (below_step HB.out hbl); have HC' := Aside0.mk (Kd.C_below HC.out hbl); clear HD HB HC hbl; have HD := HD'; have HB := HB'; have HC := HC'; clear HD' HB' HC')) | ((with_reducible refine gate_dst (N := 13) rfl ?_); (try (refine gate_guard (by rfl) ?_; dsimp only)); go_loud (refine goesL_ (some 13) rfl rfl Try.func45 (by kernel_rfl) rfl #[.int .i64 0] rfl (by (try simp only [List.map_toArray, List.map_cons, List.map_nil]); first | done | rfl | (simp only [List.length_drop, List.length_take]; rfl)) ?_; refine (tside 0 _).mono ?_; rintro e w2 ⟨rfl, hbl⟩; refine ⟨_, rfl, ?_⟩; rw [HS.out]; have HD' := Aside0.mk (HD.out.below hbl); have HB' := Aside0.mk (below_step HB.out hbl); have HC' := Aside0.mk (Kd.C_below HC.out hbl); clear HD HB HC hbl; have HD := HD'; have HB := HB'; have HC := HC'; clear HD' HB' HC'; obtain ⟨hg, A0, c0, A1, c1, hG, h0, h1⟩ := HD.out.op; obtain ⟨z0, z1, z2, z3, z4, z5, z6, z7, z8, z9, zf⟩ := cells10 hG; clear hG h0 h1 hg)))
  go_quiet (fail)
  clear z0 z1 z2 z3 z4 z5 z6 z7 z8 z9 zf
  go_wp2_with (first | ((with_reducible refine gate_dst (N := 34) rfl ?_); (try (refine gate_guard (by rfl) ?_; dsimp only)); go_loud (refine goesL_ (some 34) rfl rfl Try.func46 (by kernel_rfl) rfl #[.pointer (some ⟨g, 0, none⟩)] rfl (by (try simp only [List.map_toArray, List.map_cons, List.map_nil]); first | done | rfl | (simp only [List.length_drop, List.length_take]; rfl)) ?_; refine (tfalls_no g ok room b0 s0 b1 s1 cat keep armed false ops _ (HD.out.below (pw_below_drewN (Below.refl _ _) _)) HW.out HH.out).mono ?_; rintro e w3 ⟨rfl, hD3, ho3⟩; refine ⟨_, rfl, ?_⟩; have HF3 := Aside0.mk (Fr.trans (Fr.of_below (pw_below_drewN HB.out _)) (ho3.fr hgo)); have HC3 := Aside0.mk (C_ne (Kd.C_drewN HC.out _) ho3 HA.out); clear ho3 HC HB HD; obtain ⟨hg, A0, c0, A1, c1, hG, h0, h1⟩ := hD3.op; have HG := Aside0.mk hG; have H0 := Aside0.mk h0; have H1 := Aside0.mk h1; clear hD3 h0 h1; obtain ⟨z0, z1, z2, z3, z4, z5, z6, z7, z8, z9, zf⟩ := cells10 hG; clear hG hg)) | ((with_reducible refine gate_dst (N := 46) rfl ?_); go_loud (refine Kd.R_append_row (Value.int .u8) 0 (h1 := fun _ => rfl) (w0 := w3) 0 rfl _ _ 22 5 (.int .u8 0) 1 rfl Try.underlying22 info5 rfl (by decide) (.slice A0 b0.length c0) b0 l A l.length c (P0 ok g (.slice A1 b1.length c1)) rfl rfl (P0_fresh HOK.out HF3.out.2.2.2.1 (blk_lt HG.out) H1.out) H0.out HC3.out (Below.refl 0 w3) (Nat.zero_le _) (by omega) ?_; intro v5 w5 ho hb hgr hnew; clear hb; rw [HY.out] at ho; obtain ⟨A5, c5, e5⟩ := Kd.R_slice ho; subst e5; have H5 := Aside0.mk ho; have HU := Aside0.mk (P0_after H1.out hgr hnew); have HG5 := Aside0.mk (blk_grown HG.out hgr (Kd.R_away H0.out (fun k hk => hk.2.1))); have HF5 := Aside0.mk (Fr.trans HF3.out (Fr.grown hgr (fun k hk => (H0.out.1 k hk).1))); clear ho hgr hnew HC3 HF3 HG H0 H1 z0 z1 z2 z3 z4 z5 z6 z7 z8 z9 zf)) | (refine gate_store (t := 22) (p := 48) rfl ?_; (refine store_only rfl _ _ _ rfl g 1 (.slice A5 Y.length c5) rfl rfl 80 _ (#[.int .i64 room, .slice A5 Y.length c5, .int .i64 (s0 : Int), .slice A1 b1.length c1, .int .i64 (s1 : Int), .int .i64 cat, .int .i64 keep, .bool armed, .bool false, .int .i64 (ops + 1)]) HG5.out (by kernel_rfl) (by simp) rfl rfl rfl ?_; intro w6 hG6 ho6; have HG6 := Aside0.mk hG6; have HO6 := Aside0.mk ho6; clear hG6 ho6)))
  go_ret
  refine ⟨rfl, ?_, Fr.trans HF5.out (HO6.out.fr hgo)⟩
  rw [HY.out]
  exact ⟨hgo, A5, c5, A1, c1, HG6.out, P0_set H5.out HO6.out, P0_set HU.out HO6.out⟩

set_option maxHeartbeats 1000000 in
theorem tapp_full1 (g : Nat) (ok : Nat → Prop) (room : Int) (b0 : List Int) (s0 : Nat) (b1 : List Int) (s1 : Nat) (cat keep : Int) (armed : Bool) (ops : Int) (A : Option Addr) (c : Nat) (l : List Int) (w : World) (h : IsD w ok g ⟨room, b0, s0, b1, s1, cat, keep, armed, false, ops⟩) (hw : Dk.Wf ⟨room, b0, s0, b1, s1, cat, keep, armed, false, ops⟩) (hC : Kd.C (Kd.int .u8) w A l.length l) (hl : l.length ≤ 140737488351232) (hf : room - b1.length < l.length) : Calls Try.prog 15 #[.pointer (some ⟨g, 0, none⟩), .int .i64 1, .slice A l.length c] w fun e w' => e = .returned (.int .i64 3) ∧ IsD w' ok g ⟨room, b0, s0, b1, s1, cat, keep, armed, false, ops⟩ ∧ Fr ok w w' := by
  have HB := Aside0.mk (Below.refl w.heap.size w)
  have HD := Aside0.mk h
  have HC := Aside0.mk hC
  have HW := Aside0.mk hw
  have HS := Aside0.mk (show sideB 1 = true by decide)
  obtain ⟨q0, q1, q2, q3, q4, q5, q6, q7, q8⟩ := hw
  simp only at q0 q1 q2 q3 q4 q5 q6 q7 q8
  have hfb : decide (room - (b1.length : Int) < (l.length : Int)) = true := decide_eq_true hf
  clear h hC hf
  go_enter Try.func15, Try.ntmps15
  go_wp2_with (first | ((with_reducible refine gate_dst (N := 10) rfl ?_); (try (refine gate_guard (by rfl) ?_; dsimp only)); go_loud (refine goesL_ (some 10) rfl rfl Try.func19 (by kernel_rfl) rfl #[.pointer (some ⟨g, 0, none⟩)] rfl (by (try simp only [List.map_toArray, List.map_cons, List.map_nil]); first | done | rfl | (simp only [List.length_drop, List.length_take]; rfl)) ?_; refine (tdown g ok room b0 s0 b1 s1 cat keep armed false ops _ HD.out).mono ?_; rintro e w1 ⟨rfl, hbl⟩; refine ⟨_, rfl, ?_⟩; have HD' := Aside0.mk (HD.out.below hbl); have HB' := Aside0.mk (below_step HB.out hbl); have HC' := Aside0.mk (Kd.C_below HC.out hbl); clear HD HB HC hbl; have HD := HD'; have HB := HB'; have HC := HC'; clear HD' HB' HC')) | ((with_reducible refine gate_dst (N := 13) rfl ?_); (try (refine gate_guard (by rfl) ?_; dsimp only)); go_loud (refine goesL_ (some 13) rfl rfl Try.func45 (by kernel_rfl) rfl #[.int .i64 1] rfl (by (try simp only [List.map_toArray, List.map_cons, List.map_nil]); first | done | rfl | (simp only [List.length_drop, List.length_take]; rfl)) ?_; refine (tside 1 _).mono ?_; rintro e w2 ⟨rfl, hbl⟩; refine ⟨_, rfl, ?_⟩; rw [HS.out]; have HD' := Aside0.mk (HD.out.below hbl); have HB' := Aside0.mk (below_step HB.out hbl); have HC' := Aside0.mk (Kd.C_below HC.out hbl); clear HD HB HC hbl; have HD := HD'; have HB := HB'; have HC := HC'; clear HD' HB' HC'; obtain ⟨hg, A0, c0, A1, c1, hG, h0, h1⟩ := HD.out.op; obtain ⟨z0, z1, z2, z3, z4, z5, z6, z7, z8, z9, zf⟩ := cells10 hG; clear hG h0 h1 hg)))
  go_quiet (fail)
  go_wp2
  go_ret
  exact ⟨rfl, (HD.out.below (pw_below_drewN (Below.refl _ _) _)), Fr.of_below (pw_below_drewN HB.out _)⟩
set_option maxHeartbeats 1000000 in
theorem tapp_hit1 (g : Nat) (ok : Nat → Prop) (room : Int) (b0 : List Int) (s0 : Nat) (b1 : List Int) (s1 : Nat) (cat keep : Int) (armed : Bool) (ops : Int) (A : Option Addr) (c : Nat) (l : List Int) (w : World) (h : IsD w ok g ⟨room, b0, s0, b1, s1, cat, keep, armed, false, ops⟩) (hw : Dk.Wf ⟨room, b0, s0, b1, s1, cat, keep, armed, false, ops⟩) (hC : Kd.C (Kd.int .u8) w A l.length l) (hl : l.length ≤ 140737488351232) (hf : ¬ room - b1.length < l.length) (hh : Dk.hit ⟨room, b0, s0, b1, s1, cat, keep, armed, false, ops⟩ = true) : Calls Try.prog 15 #[.pointer (some ⟨g, 0, none⟩), .int .i64 1, .slice A l.length c] w fun e w' => e = .returned (.int .i64 11) ∧ IsD w' ok g (Dk.crash ⟨room, b0, s0, b1, s1, cat, keep, armed, false, ops⟩) ∧ Fr ok w w' := by
  have HB := Aside0.mk (Below.refl w.heap.size w)
  have HD := Aside0.mk h
  have HC := Aside0.mk hC
  have HW := Aside0.mk hw
  have HS := Aside0.mk (show sideB 1 = true by decide)
  obtain ⟨q0, q1, q2, q3, q4, q5, q6, q7, q8⟩ := hw
  simp only at q0 q1 q2 q3 q4 q5 q6 q7 q8
  have hfb : decide (room - (b1.length : Int) < (l.length : Int)) = false := decide_eq_false hf
  have HH := Aside0.mk hh
  have hgo := h.1
  clear h hC hf hh
  go_enter Try.func15, Try.ntmps15
  go_wp2_with (first | ((with_reducible refine gate_dst (N := 10) rfl ?_); (try (refine gate_guard (by rfl) ?_; dsimp only)); go_loud (refine goesL_ (some 10) rfl rfl Try.func19 (by kernel_rfl) rfl #[.pointer (some ⟨g, 0, none⟩)] rfl (by (try simp only [List.map_toArray, List.map_cons, List.map_nil]); first | done | rfl | (simp only [List.length_drop, List.length_take]; rfl)) ?_; refine (tdown g ok room b0 s0 b1 s1 cat keep armed false ops _ HD.out).mono ?_; rintro e w1 ⟨rfl, hbl⟩; refine ⟨_, rfl, ?_⟩; have HD' := Aside0.mk (HD.out.below hbl); have HB' := Aside0.mk (below_step HB.out hbl); have HC' := Aside0.mk (Kd.C_below HC.out hbl); clear HD HB HC hbl; have HD := HD'; have HB := HB'; have HC := HC'; clear HD' HB' HC')) | ((with_reducible refine gate_dst (N := 13) rfl ?_); (try (refine gate_guard (by rfl) ?_; dsimp only)); go_loud (refine goesL_ (some 13) rfl rfl Try.func45 (by kernel_rfl) rfl #[.int .i64 1] rfl (by (try simp only [List.map_toArray, List.map_cons, List.map_nil]); first | done | rfl | (simp only [List.length_drop, List.length_take]; rfl)) ?_; refine (tside 1 _).mono ?_; rintro e w2 ⟨rfl, hbl⟩; refine ⟨_, rfl, ?_⟩; rw [HS.out]; have HD' := Aside0.mk (HD.out.below hbl); have HB' := Aside0.mk (below_step HB.out hbl); have HC' := Aside0.mk (Kd.C_below HC.out hbl); clear HD HB HC hbl; have HD := HD'; have HB := HB'; have HC := HC'; clear HD' HB' HC'; obtain ⟨hg, A0, c0, A1, c1, hG, h0, h1⟩ := HD.out.op; obtain ⟨z0, z1, z2, z3, z4, z5, z6, z7, z8, z9, zf⟩ := cells10 hG; clear hG h0 h1 hg)))
  go_quiet (fail)
  go_wp2_with (first | ((with_reducible refine gate_dst (N := 34) rfl ?_); (try (refine gate_guard (by rfl) ?_; dsimp only)); go_loud (refine goesL_ (some 34) rfl rfl Try.func46 (by kernel_rfl) rfl #[.pointer (some ⟨g, 0, none⟩)] rfl (by (try simp only [List.map_toArray, List.map_cons, List.map_nil]); first | done | rfl | (simp only [List.length_drop, List.length_take]; rfl)) ?_; refine (tfalls_yes g ok room b0 s0 b1 s1 cat keep armed false ops _ (HD.out.below (pw_below_drewN (Below.refl _ _) _)) HW.out HH.out).mono ?_; rintro e w3 ⟨rfl, hD3, ho3⟩; refine ⟨_, rfl, ?_⟩; have HD3 := Aside0.mk hD3; have HF3 := Aside0.mk (Fr.trans (Fr.of_below (pw_below_drewN HB.out _)) (ho3.fr hgo)); clear hD3 ho3)))
  go_ret
  exact ⟨rfl, HD3.out, HF3.out⟩
set_option maxHeartbeats 2000000 in
theorem tapp_ok1 (g : Nat) (ok : Nat → Prop) (room : Int) (b0 : List Int) (s0 : Nat) (b1 : List Int) (s1 : Nat) (cat keep : Int) (armed : Bool) (ops : Int) (A : Option Addr) (c : Nat) (l : List Int) (w : World) (h : IsD w ok g ⟨room, b0, s0, b1, s1, cat, keep, armed, false, ops⟩) (hw : Dk.Wf ⟨room, b0, s0, b1, s1, cat, keep, armed, false, ops⟩) (hC : Kd.C (Kd.int .u8) w A l.length l) (hl : l.length ≤ 140737488351232) (hf : ¬ room - b1.length < l.length) (hh : Dk.hit ⟨room, b0, s0, b1, s1, cat, keep, armed, false, ops⟩ = false) (hA : ∀ ad, A = some ad → 0 < l.length → ad.block ≠ g) (hok : ∀ k, w.heap.size ≤ k → ok k) : Calls Try.prog 15 #[.pointer (some ⟨g, 0, none⟩), .int .i64 1, .slice A l.length c] w fun e w' => e = .returned (.int .i64 0) ∧ IsD w' ok g ⟨room, b0, s0, (b1 ++ l), s1, cat, keep, armed, false, ops + 1⟩ ∧ Fr ok w w' := by
  have HB := Aside0.mk (Below.refl w.heap.size w)
  have HD := Aside0.mk h
  have HC := Aside0.mk hC
  have HW := Aside0.mk hw
  have HS := Aside0.mk (show sideB 1 = true by decide)
  obtain ⟨q0, q1, q2, q3, q4, q5, q6, q7, q8⟩ := hw
  simp only at q0 q1 q2 q3 q4 q5 q6 q7 q8
  have hfb : decide (room - (b1.length : Int) < (l.length : Int)) = false := decide_eq_false hf
  have HH := Aside0.mk hh
  have hgo := h.1
  have HA := Aside0.mk hA
  have HOK := Aside0.mk hok
  have hll : l.length ≤ 200000 := by omega
  obtain ⟨Y, hY⟩ : ∃ Y, b1 ++ l = Y := ⟨_, rfl⟩
  have HY := Aside0.mk hY
  clear h hC hf hh hA hok hY
  go_enter Try.func15, Try.ntmps15
  go_wp2_with (first | ((with_reducible refine gate_dst (N := 10) rfl ?_); (try (refine gate_guard (by rfl) ?_; dsimp only)); go_loud (refine goesL_ (some 10) rfl rfl Try.func19 (by kernel_rfl) rfl #[.pointer (some ⟨g, 0, none⟩)] rfl (by (try simp only [List.map_toArray, List.map_cons, List.map_nil]); first | done | rfl | (simp only [List.length_drop, List.length_take]; rfl)) ?_; refine (tdown g ok room b0 s0 b1 s1 cat keep armed false ops _ HD.out).mono ?_; rintro e w1 ⟨rfl, hbl⟩; refine ⟨_, rfl, ?_⟩; have HD' := Aside0.mk (HD.out.below hbl); have HB' := Aside0.mk (below_step HB.out hbl); have HC' := Aside0.mk (Kd.C_below HC.out hbl); clear HD HB HC hbl; have HD := HD'; have HB := HB'; have HC := HC'; clear HD' HB' HC')) | ((with_reducible refine gate_dst (N := 13) rfl ?_); (try (refine gate_guard (by rfl) ?_; dsimp only)); go_loud (refine goesL_ (some 13) rfl rfl Try.func45 (by kernel_rfl) rfl #[.int .i64 1] rfl (by (try simp only [List.map_toArray, List.map_cons, List.map_nil]); first | done | rfl | (simp only [List.length_drop, List.length_take]; rfl)) ?_; refine (tside 1 _).mono ?_; rintro e w2 ⟨rfl, hbl⟩; refine ⟨_, rfl, ?_⟩; rw [HS.out]; have HD' := Aside0.mk (HD.out.below hbl); have HB' := Aside0.mk (below_step HB.out hbl); have HC' := Aside0.mk (Kd.C_below HC.out hbl); clear HD HB HC hbl; have HD := HD'; have HB := HB'; have HC := HC'; clear HD' HB' HC'; obtain ⟨hg, A0, c0, A1, c1, hG, h0, h1⟩ := HD.out.op; obtain ⟨z0, z1, z2, z3, z4, z5, z6, z7, z8, z9, zf⟩ := cells10 hG; clear hG h0 h1 hg)))
  go_quiet (fail)
  clear z0 z1 z2 z3 z4 z5 z6 z7 z8 z9 zf
  go_wp2_with (first | ((with_reducible refine gate_dst (N := 34) rfl ?_); (try (refine gate_guard (by rfl) ?_; dsimp only)); go_loud (refine goesL_ (some 34) rfl rfl Try.func46 (by kernel_rfl) rfl #[.pointer (some ⟨g, 0, none⟩)] rfl (by (try simp only [List.map_toArray, List.map_cons, List.map_nil]); first | done | rfl | (simp only [List.length_drop, List.length_take]; rfl)) ?_; refine (tfalls_no g ok room b0 s0 b1 s1 cat keep armed false ops _ (HD.out.below (pw_below_drewN (Below.refl _ _) _)) HW.out HH.out).mono ?_; rintro e w3 ⟨rfl, hD3, ho3⟩; refine ⟨_, rfl, ?_⟩; have HF3 := Aside0.mk (Fr.trans (Fr.of_below (pw_below_drewN HB.out _)) (ho3.fr hgo)); have HC3 := Aside0.mk (C_ne (Kd.C_drewN HC.out _) ho3 HA.out); clear ho3 HC HB HD; obtain ⟨hg, A0, c0, A1, c1, hG, h0, h1⟩ := hD3.op; have HG := Aside0.mk hG; have H0 := Aside0.mk h0; have H1 := Aside0.mk h1; clear hD3 h0 h1; obtain ⟨z0, z1, z2, z3, z4, z5, z6, z7, z8, z9, zf⟩ := cells10 hG; clear hG hg)) | ((with_reducible refine gate_dst (N := 46) rfl ?_); go_loud (refine Kd.R_append_row (Value.int .u8) 0 (h1 := fun _ => rfl) (w0 := w3) 0 rfl _ _ 22 5 (.int .u8 0) 1 rfl Try.underlying22 info5 rfl (by decide) (.slice A1 b1.length c1) b1 l A l.length c (P0 ok g (.slice A0 b0.length c0)) rfl rfl (P0_fresh HOK.out HF3.out.2.2.2.1 (blk_lt HG.out) H0.out) H1.out HC3.out (Below.refl 0 w3) (Nat.zero_le _) (by omega) ?_; intro v5 w5 ho hb hgr hnew; clear hb; rw [HY.out] at ho; obtain ⟨A5, c5, e5⟩ := Kd.R_slice ho; subst e5; have H5 := Aside0.mk ho; have HU := Aside0.mk (P0_after H0.out hgr hnew); have HG5 := Aside0.mk (blk_grown HG.out hgr (Kd.R_away H1.out (fun k hk => hk.2.1))); have HF5 := Aside0.mk (Fr.trans HF3.out (Fr.grown hgr (fun k hk => (H1.out.1 k hk).1))); clear ho hgr hnew HC3 HF3 HG H0 H1 z0 z1 z2 z3 z4 z5 z6 z7 z8 z9 zf)) | (refine gate_store (t := 22) (p := 48) rfl ?_; (refine store_only rfl _ _ _ rfl g 3 (.slice A5 Y.length c5) rfl rfl 80 _ (#[.int .i64 room, .slice A0 b0.length c0, .int .i64 (s0 : Int), .slice A5 Y.length c5, .int .i64 (s1 : Int), .int .i64 cat, .int .i64 keep, .bool armed, .bool false, .int .i64 (ops + 1)]) HG5.out (by kernel_rfl) (by simp) rfl rfl rfl ?_; intro w6 hG6 ho6; have HG6 := Aside0.mk hG6; have HO6 := Aside0.mk ho6; clear hG6 ho6)))
  go_ret
  refine ⟨rfl, ?_, Fr.trans HF5.out (HO6.out.fr hgo)⟩
  rw [HY.out]
  exact ⟨hgo, A0, c0, A5, c5, HG6.out, P0_set HU.out HO6.out, P0_set H5.out HO6.out⟩
end Go.Proofs.Ythaeppjhmjpecaa.B
