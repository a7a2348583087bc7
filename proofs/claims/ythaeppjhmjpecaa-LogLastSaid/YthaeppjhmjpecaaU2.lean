/- giroref4: Append. -/
import Derived.Deep.RegionLaw
import Derived.Test.YthaeppjhmjpecaaU1
namespace Go.Proofs.Ythaeppjhmjpecaa.B
open Go.RowKit Go.Proofs.YthaeppjhmjpecaaW.PrintWords Go.Proofs.YthaeppjhmjpecaaW.PrintLast Go.Proofs.YthaeppjhmjpecaaW.PrintMore
attribute [local go_sem] max2_int min2_int max_two min_two max_three min_three max_four min_four
set_option linter.unusedVariables false
set_option linter.unusedSimpArgs false

section
variable {P : Program} {ops : Array Oper} {o : Oper} {a : Act} {Q : Exit → Act → World → Prop} {Kc : Act → World → Prop}
/-- append(v, ys...) of bytes, as a step of a region that draws. -/
theorem app_step {w0 W : World} (base : Nat) (hw : Region.wanted o (yielded ops a.tmps) = true) (s x : Operand) (t e : TypeId)
    (ho : o.op = .call { callee := .builtin .append, args := #[s, x], argTypes := #[t, t] })
    (ht : P.underlying t = some (.slice e)) (hinfo : (P.info? e).map (fun i => (i.zero, i.size, i.bytes)) = some (some (.int .u8 0), 1, 1))
    (v : Value) (xs ys : List Int) (A : Option Addr) (m c : Nat) (hs : a.eval s = v) (hx : a.eval x = .slice A m c)
    (HO : (Kd.int .u8).R e W base (fun _ => True) v xs) (HR : (Kd.int .u8).C W A m ys)
    (HB : Below base w0 W) (hbase : base ≤ W.heap.size) (hl : xs.length + m ≤ 140737488355328)
    (h : ∀ v1 w1, (Kd.int .u8).R e w1 base (fun _ => True) v1 (xs ++ ys) → Below base w0 w1 → W.grownBy w1 v.ownBlock → Kc (a.put o.dst v1) w1) :
    if Region.wanted o (yielded ops a.tmps) = true then Oper.wp P o a W Kc Q else Kc (a.put o.dst undef) W :=
  Kd.R_append_rows_step (Kd.int .u8) base hw s x t e (.int .u8 0) 1 ho ht hinfo rfl (by decide) (by decide) v xs ys A m c (fun _ => True) (fun _ => False) hs hx HO HR (fun _ _ hh => hh) (fun _ hh => hh.elim) (fun _ _ => trivial) HB hbase (by omega) (fun v1 w1 h1 h2 h3 _ => h v1 w1 h1 h2 h3)
end
theorem R_blk0 (W : World) (e base : Nat) (hb : base ≤ W.heap.size) : (Kd.int .u8).R e (W.alloc (.cells #[] e)) base (fun _ => True) (.slice (some ⟨W.heap.size, 0, none⟩) 0 0) [] := by
  have h2 := World.ownsRow_lit (base := base) (e := e) (size := 1) W #[] 0 hb (by decide) rfl
  exact ⟨fun _ _ => trivial, [], h2, Reps.none _ _⟩
theorem row_new {ok okv oku : Nat → Prop} {g : Nat} {w w3 w5 : World} {u v : Value} {xs Y : List Int} (hok : ∀ k, w.heap.size ≤ k → ok k) (hs : w.heap.size ≤ w3.heap.size) (hg : g < w3.heap.size) (hu : Kd.R (Kd.int .u8) 5 w3 0 oku u xs) (hv : Kd.R (Kd.int .u8) 5 w5 w3.heap.size okv v Y) : Kd.R (Kd.int .u8) 5 w5 0 (P0 ok g u) v Y :=
  Kd.R_lower (Kd.R_mono (Kd.R_bound hv) (fun k hk => ⟨hok k (by have := hk.2.1; omega), by have := hk.2.1; omega, fun e => by have := Kd.R_lt hu k e.symm; have := hk.2.1; omega⟩)) (Nat.zero_le _)
theorem row_old {ok okv : Nat → Prop} {g : Nat} {w3 w5 : World} {u v v0 : Value} {xs Y : List Int} (hu : Kd.R (Kd.int .u8) 5 w3 0 (P0 ok g v0) u xs) (hb : Below w3.heap.size w3 w5) (hv : Kd.R (Kd.int .u8) 5 w5 w3.heap.size okv v Y) : Kd.R (Kd.int .u8) 5 w5 0 (P0 ok g v) u xs :=
  Kd.R_mono (Kd.R_below (Kd.R_bound hu) hb) (fun k hk => ⟨hk.1.1, hk.1.2.1, fun e => by have := Kd.R_base hv k e.symm; have := hk.2.2.1; omega⟩)
theorem xapp_down (g : Nat) (ok : Nat → Prop) (room : Int) (b0 : List Int) (s0 : Nat) (b1 : List Int) (s1 : Nat) (cat keep : Int) (armed : Bool) (ops : Int) (A : Option Addr) (c : Nat) (l : List Int) (w : World) (h : IsX w ok g ⟨room, b0, s0, b1, s1, cat, keep, armed, true, ops⟩) (side : Int) : Calls Try.prog 25 #[.pointer (some ⟨g, 0, none⟩), .int .i64 side, .slice A l.length c] w fun e w' => e = .returned (.int .i64 11) ∧ IsX w' ok g ⟨room, b0, s0, b1, s1, cat, keep, armed, true, ops⟩ ∧ Fr ok w w' := by
  have HB := Aside0.mk (Below.refl w.heap.size w)
  have HD := Aside0.mk h
  obtain ⟨hg, A0, c0, A1, c1, hG, h0, h1⟩ := h.op
  obtain ⟨z0, z1, z2, z3, z4, z5, z6, z7, z8, z9, zf⟩ := cells10 hG
  clear h hG h0 h1 hg
  go_enter Try.func25, Try.ntmps25
  go_wp2
  go_ret
  exact ⟨rfl, HD.out, Fr.of_below HB.out⟩
theorem xapp_side (g : Nat) (ok : Nat → Prop) (room : Int) (b0 : List Int) (s0 : Nat) (b1 : List Int) (s1 : Nat) (cat keep : Int) (armed : Bool) (ops : Int) (A : Option Addr) (c : Nat) (l : List Int) (w : World) (h : IsX w ok g ⟨room, b0, s0, b1, s1, cat, keep, armed, false, ops⟩) (side : Int) (hs : sideB side = false) : Calls Try.prog 25 #[.pointer (some ⟨g, 0, none⟩), .int .i64 side, .slice A l.length c] w fun e w' => e = .returned (.int .i64 1) ∧ IsX w' ok g ⟨room, b0, s0, b1, s1, cat, keep, armed, false, ops⟩ ∧ Fr ok w w' := by
  have HB := Aside0.mk (Below.refl w.heap.size w)
  have HD := Aside0.mk h
  obtain ⟨hg, A0, c0, A1, c1, hG, h0, h1⟩ := h.op
  obtain ⟨z0, z1, z2, z3, z4, z5, z6, z7, z8, z9, zf⟩ := cells10 hG
  clear h hG h0 h1 hg
  by_cases c2 : side < 0
  · have k1 : decide (side < 0) = true := decide_eq_true c2
    clear c2 hs
    go_enter Try.func25, Try.ntmps25
    go_wp2
    go_ret
    exact ⟨rfl, HD.out, Fr.of_below HB.out⟩
  · have k1 : decide (side < 0) = false := decide_eq_false c2
    have k2 : decide (1 < side) = true := by
      unfold sideB at hs
      rw [Bool.and_eq_false_iff, decide_eq_false_iff_not, decide_eq_false_iff_not] at hs
      exact decide_eq_true (by omega)
    clear c2 hs
    go_enter Try.func25, Try.ntmps25
    go_wp2
    go_ret
    exact ⟨rfl, HD.out, Fr.of_below HB.out⟩

set_option maxHeartbeats 1000000 in
theorem xapp_full0 (g : Nat) (ok : Nat → Prop) (room : Int) (b0 : List Int) (s0 : Nat) (b1 : List Int) (s1 : Nat) (cat keep : Int) (armed : Bool) (ops : Int) (A : Option Addr) (c : Nat) (l : List Int) (w : World) (h : IsX w ok g ⟨room, b0, s0, b1, s1, cat, keep, armed, false, ops⟩) (hw : Dk.Wf ⟨room, b0, s0, b1, s1, cat, keep, armed, false, ops⟩) (hC : Kd.C (Kd.int .u8) w A l.length l) (hl : l.length ≤ 140737488351232) (hf : room - b0.length < l.length) : Calls Try.prog 25 #[.pointer (some ⟨g, 0, none⟩), .int .i64 0, .slice A l.length c] w fun e w' => e = .returned (.int .i64 3) ∧ IsX w' ok g ⟨room, b0, s0, b1, s1, cat, keep, armed, false, ops⟩ ∧ Fr ok w w' := by
  have HB := Aside0.mk (Below.refl w.heap.size w)
  have HD := Aside0.mk h
  have HC := Aside0.mk hC
  have HW := Aside0.mk hw
  obtain ⟨q0, q1, q2, q3, q4, q5, q6, q7, q8⟩ := hw
  simp only at q0 q1 q2 q3 q4 q5 q6 q7 q8
  obtain ⟨hg, A0, c0, A1, c1, hG, h0, h1⟩ := h.op
  obtain ⟨z0, z1, z2, z3, z4, z5, z6, z7, z8, z9, zf⟩ := cells10 hG
  have hgo := h.1
  clear hG h0 h1 hg q7 q8
  have hfb : decide (room - (b0.length : Int) < (l.length : Int)) = true := decide_eq_true hf
  clear h hC hf
  go_enter Try.func25, Try.ntmps25
  go_wp2
  go_quiet (fail)
  go_wp2
  go_ret
  exact ⟨rfl, (HD.out.below (pw_below_drewN (Below.refl _ _) _)), Fr.of_below (pw_below_drewN HB.out _)⟩
set_option maxHeartbeats 1000000 in
theorem xapp_hit0 (g : Nat) (ok : Nat → Prop) (room : Int) (b0 : List Int) (s0 : Nat) (b1 : List Int) (s1 : Nat) (cat keep : Int) (armed : Bool) (ops : Int) (A : Option Addr) (c : Nat) (l : List Int) (w : World) (h : IsX w ok g ⟨room, b0, s0, b1, s1, cat, keep, armed, false, ops⟩) (hw : Dk.Wf ⟨room, b0, s0, b1, s1, cat, keep, armed, false, ops⟩) (hC : Kd.C (Kd.int .u8) w A l.length l) (hl : l.length ≤ 140737488351232) (hf : ¬ room - b0.length < l.length) (hh : Dk.hit ⟨room, b0, s0, b1, s1, cat, keep, armed, false, ops⟩ = true) : Calls Try.prog 25 #[.pointer (some ⟨g, 0, none⟩), .int .i64 0, .slice A l.length c] w fun e w' => e = .returned (.int .i64 11) ∧ IsX w' ok g (Dk.crash ⟨room, b0, s0, b1, s1, cat, keep, armed, false, ops⟩) ∧ Fr ok w w' := by
  have HB := Aside0.mk (Below.refl w.heap.size w)
  have HD := Aside0.mk h
  have HC := Aside0.mk hC
  have HW := Aside0.mk hw
  obtain ⟨q0, q1, q2, q3, q4, q5, q6, q7, q8⟩ := hw
  simp only at q0 q1 q2 q3 q4 q5 q6 q7 q8
  obtain ⟨hg, A0, c0, A1, c1, hG, h0, h1⟩ := h.op
  obtain ⟨z0, z1, z2, z3, z4, z5, z6, z7, z8, z9, zf⟩ := cells10 hG
  have hgo := h.1
  clear hG h0 h1 hg q7 q8
  have hfb : decide (room - (b0.length : Int) < (l.length : Int)) = false := decide_eq_false hf
  have HH := Aside0.mk hh
  clear h hC hf hh
  go_enter Try.func25, Try.ntmps25
  go_wp2
  go_quiet (fail)
  go_wp2_with (first | ((with_reducible refine gate_dst (N := 37) rfl ?_); (try (refine gate_guard (by rfl) ?_; dsimp only)); refine goesL_ (some 37) rfl rfl Try.func48 (by kernel_rfl) rfl #[.pointer (some ⟨g, 0, none⟩)] rfl (by (try simp only [List.map_toArray, List.map_cons, List.map_nil]); first | done | rfl | (simp only [List.length_drop, List.length_take]; rfl)) ?_; refine (xcrash_yes g ok room b0 s0 b1 s1 cat keep armed false ops _ (HD.out.below (pw_below_drewN (Below.refl _ _) _)) HW.out HH.out).mono ?_; rintro e w3 ⟨rfl, hD3, ho3⟩; refine ⟨_, rfl, ?_⟩; have HD3 := Aside0.mk hD3; have HF3 := Aside0.mk (Fr.trans (Fr.of_below (pw_below_drewN HB.out _)) (ho3.fr hgo)); clear hD3 ho3))
  go_ret
  exact ⟨rfl, HD3.out, HF3.out⟩
set_option maxHeartbeats 2000000 in
theorem xapp_ok0 (g : Nat) (ok : Nat → Prop) (room : Int) (b0 : List Int) (s0 : Nat) (b1 : List Int) (s1 : Nat) (cat keep : Int) (armed : Bool) (ops : Int) (A : Option Addr) (c : Nat) (l : List Int) (w : World) (h : IsX w ok g ⟨room, b0, s0, b1, s1, cat, keep, armed, false, ops⟩) (hw : Dk.Wf ⟨room, b0, s0, b1, s1, cat, keep, armed, false, ops⟩) (hC : Kd.C (Kd.int .u8) w A l.length l) (hl : l.length ≤ 140737488351232) (hf : ¬ room - b0.length < l.length) (hh : Dk.hit ⟨room, b0, s0, b1, s1, cat, keep, armed, false, ops⟩ = false) (hA : ∀ ad, A = some ad → 0 < l.length → ad.block ≠ g) (hok : ∀ k, w.heap.size ≤ k → ok k) : Calls Try.prog 25 #[.pointer (some ⟨g, 0, none⟩), .int .i64 0, .slice A l.length c] w fun e w' => e = .returned (.int .i64 0) ∧ IsX w' ok g ⟨room, (b0 ++ l), s0, b1, s1, cat, keep, armed, false, ops + 1⟩ ∧ Fr ok w w' := by
  have HB := Aside0.mk (Below.refl w.heap.size w)
  have HD := Aside0.mk h
  have HC := Aside0.mk hC
  have HW := Aside0.mk hw
  obtain ⟨q0, q1, q2, q3, q4, q5, q6, q7, q8⟩ := hw
  simp only at q0 q1 q2 q3 q4 q5 q6 q7 q8
  obtain ⟨hg, A0, c0, A1, c1, hG, h0, h1⟩ := h.op
  obtain ⟨z0, z1, z2, z3, z4, z5, z6, z7, z8, z9, zf⟩ := cells10 hG
  have hgo := h.1
  clear hG h0 h1 hg q7 q8
  have hfb : decide (room - (b0.length : Int) < (l.length : Int)) = false := decide_eq_false hf
  have HH := Aside0.mk hh
  have HA := Aside0.mk hA
  have HOK := Aside0.mk hok
  have hll : l.length ≤ 200000 := by omega
  have hbl : b0.length ≤ 200000 := by omega
  obtain ⟨Y, hY⟩ : ∃ Y, b0 ++ l = Y := ⟨_, rfl⟩
  have HY := Aside0.mk hY
  clear h hC hf hh hA hok hY
  go_enter Try.func25, Try.ntmps25
  go_wp2
  go_quiet (fail)
  clear z0 z1 z2 z3 z4 z5 z6 z7 z8 z9 zf
  go_wp2_with (first | ((with_reducible refine gate_dst (N := 37) rfl ?_); (try (refine gate_guard (by rfl) ?_; dsimp only)); refine goesL_ (some 37) rfl rfl Try.func48 (by kernel_rfl) rfl #[.pointer (some ⟨g, 0, none⟩)] rfl (by (try simp only [List.map_toArray, List.map_cons, List.map_nil]); first | done | rfl | (simp only [List.length_drop, List.length_take]; rfl)) ?_; refine (xcrash_no g ok room b0 s0 b1 s1 cat keep armed false ops _ (HD.out.below (pw_below_drewN (Below.refl _ _) _)) HW.out HH.out).mono ?_; rintro e w3 ⟨rfl, hD3, ho3⟩; refine ⟨_, rfl, ?_⟩; have HF3 := Aside0.mk (Fr.trans (Fr.of_below (pw_below_drewN HB.out _)) (ho3.fr hgo)); have HC3 := Aside0.mk (C_ne (Kd.C_drewN HC.out _) ho3 HA.out); clear ho3 HC HB HD; obtain ⟨hg, A0, c0, A1, c1, hG, h0, h1⟩ := hD3.op; have HG := Aside0.mk hG; have H0 := Aside0.mk h0; have H1 := Aside0.mk h1; clear hD3 h0 h1; obtain ⟨z0, z1, z2, z3, z4, z5, z6, z7, z8, z9, zf⟩ := cells10 hG; have hlt := blk_lt hG; clear hG hg))
  have hne : g ≠ w3.heap.size := by omega
  go_region_law (first | (refine app_step (w0 := w3) w3.heap.size (by rfl) (.tmp 40) (.tmp 46) 22 5 rfl Try.underlying22 info5 _ [] b0 A0 b0.length c0 rfl rfl (by first | exact R_blk0 w3.drew 5 w3.heap.size (Nat.le_refl _) | exact R_blk0 w3 5 w3.heap.size (Nat.le_refl _)) (by first | exact Kd.C_alloc (Kd.C_drew (Kd.R_reads' H0.out).2.2) _ | exact Kd.C_alloc (Kd.R_reads' H0.out).2.2 _) (by first | exact below_alloc (below_drew (Below.refl _ _)) _ | exact below_alloc (Below.refl _ _) _) (by simp) (by simp; omega) ?_; intro v4 w4 ho4 hb4 hg4; clear hg4; rw [List.nil_append] at ho4) | (refine app_step (w0 := w3) w3.heap.size (by rfl) (.tmp 47) (.tmp 48) 22 5 rfl Try.underlying22 info5 v4 b0 l A l.length c rfl rfl ho4 (Kd.C_below HC3.out hb4) hb4 hb4.size (by omega) ?_; intro v5 w5 ho5 hb5 hg5; clear hg5; rw [HY.out] at ho5; obtain ⟨A5, c5, e5⟩ := Kd.R_slice ho5; subst e5; have HG5 := Aside0.mk (blk_below HG.out hb5); have H5 := Aside0.mk ho5; have HB5 := Aside0.mk hb5; obtain ⟨y0, y1, y2, y3, y4, y5, y6, y7, y8, y9, yf⟩ := cells10 HG5.out; clear ho4 hb4 ho5 hb5))
  all_goals (refine name_world (g := g) (w := w5) (X := .cells #[.slice A5 Y.length c5, .slice A1 b1.length c1, .int .i64 (s0 : Int), .int .i64 (s1 : Int), .int .i64 room, .int .i64 (ops + 1), .int .i64 cat, .int .i64 keep, .bool armed, .bool false] 50 (0, 0)) (set10_0 HG5.out _) (Only.set g 0 _ _) ?_; intro w6 hG6 ho6; have HG6 := Aside0.mk hG6; have HO6 := Aside0.mk ho6; clear hG6 ho6 y0 y1 y2 y3 y4 y5 y6 y7 y8 y9 yf z0 z1 z2 z3 z4 z5 z6 z7 z8 z9 zf)
  all_goals go_wp2
  all_goals go_ret
  all_goals (refine ⟨rfl, ?_, Fr.trans HF3.out (Fr.trans (Fr.of_below HB5.out) (HO6.out.fr hgo))⟩; rw [HY.out])
  all_goals have hN := P0_set (row_new HOK.out HF3.out.2.2.2.1 hlt H1.out H5.out) HO6.out
  all_goals have hU := P0_set (row_old H1.out HB5.out H5.out) HO6.out
  all_goals exact ⟨hgo, A5, c5, A1, c1, HG6.out, hN, hU⟩

set_option maxHeartbeats 1000000 in
theorem xapp_full1 (g : Nat) (ok : Nat → Prop) (room : Int) (b0 : List Int) (s0 : Nat) (b1 : List Int) (s1 : Nat) (cat keep : Int) (armed : Bool) (ops : Int) (A : Option Addr) (c : Nat) (l : List Int) (w : World) (h : IsX w ok g ⟨room, b0, s0, b1, s1, cat, keep, armed, false, ops⟩) (hw : Dk.Wf ⟨room, b0, s0, b1, s1, cat, keep, armed, false, ops⟩) (hC : Kd.C (Kd.int .u8) w A l.length l) (hl : l.length ≤ 140737488351232) (hf : room - b1.length < l.length) : Calls Try.prog 25 #[.pointer (some ⟨g, 0, none⟩), .int .i64 1, .slice A l.length c] w fun e w' => e = .returned (.int .i64 3) ∧ IsX w' ok g ⟨room, b0, s0, b1, s1, cat, keep, armed, false, ops⟩ ∧ Fr ok w w' := by
  have HB := Aside0.mk (Below.refl w.heap.size w)
  have HD := Aside0.mk h
  have HC := Aside0.mk hC
  have HW := Aside0.mk hw
  obtain ⟨q0, q1, q2, q3, q4, q5, q6, q7, q8⟩ := hw
  simp only at q0 q1 q2 q3 q4 q5 q6 q7 q8
  obtain ⟨hg, A0, c0, A1, c1, hG, h0, h1⟩ := h.op
  obtain ⟨z0, z1, z2, z3, z4, z5, z6, z7, z8, z9, zf⟩ := cells10 hG
  have hgo := h.1
  clear hG h0 h1 hg q7 q8
  have hfb : decide (room - (b1.length : Int) < (l.length : Int)) = true := decide_eq_true hf
  clear h hC hf
  go_enter Try.func25, Try.ntmps25
  go_wp2
  go_quiet (fail)
  go_wp2
  go_ret
  exact ⟨rfl, (HD.out.below (pw_below_drewN (Below.refl _ _) _)), Fr.of_below (pw_below_drewN HB.out _)⟩
set_option maxHeartbeats 1000000 in
theorem xapp_hit1 (g : Nat) (ok : Nat → Prop) (room : Int) (b0 : List Int) (s0 : Nat) (b1 : List Int) (s1 : Nat) (cat keep : Int) (armed : Bool) (ops : Int) (A : Option Addr) (c : Nat) (l : List Int) (w : World) (h : IsX w ok g ⟨room, b0, s0, b1, s1, cat, keep, armed, false, ops⟩) (hw : Dk.Wf ⟨room, b0, s0, b1, s1, cat, keep, armed, false, ops⟩) (hC : Kd.C (Kd.int .u8) w A l.length l) (hl : l.length ≤ 140737488351232) (hf : ¬ room - b1.length < l.length) (hh : Dk.hit ⟨room, b0, s0, b1, s1, cat, keep, armed, false, ops⟩ = true) : Calls Try.prog 25 #[.pointer (some ⟨g, 0, none⟩), .int .i64 1, .slice A l.length c] w fun e w' => e = .returned (.int .i64 11) ∧ IsX w' ok g (Dk.crash ⟨room, b0, s0, b1, s1, cat, keep, armed, false, ops⟩) ∧ Fr ok w w' := by
  have HB := Aside0.mk (Below.refl w.heap.size w)
  have HD := Aside0.mk h
  have HC := Aside0.mk hC
  have HW := Aside0.mk hw
  obtain ⟨q0, q1, q2, q3, q4, q5, q6, q7, q8⟩ := hw
  simp only at q0 q1 q2 q3 q4 q5 q6 q7 q8
  obtain ⟨hg, A0, c0, A1, c1, hG, h0, h1⟩ := h.op
  obtain ⟨z0, z1, z2, z3, z4, z5, z6, z7, z8, z9, zf⟩ := cells10 hG
  have hgo := h.1
  clear hG h0 h1 hg q7 q8
  have hfb : decide (room - (b1.length : Int) < (l.length : Int)) = false := decide_eq_false hf
  have HH := Aside0.mk hh
  clear h hC hf hh
  go_enter Try.func25, Try.ntmps25
  go_wp2
  go_quiet (fail)
  go_wp2_with (first | ((with_reducible refine gate_dst (N := 37) rfl ?_); (try (refine gate_guard (by rfl) ?_; dsimp only)); refine goesL_ (some 37) rfl rfl Try.func48 (by kernel_rfl) rfl #[.pointer (some ⟨g, 0, none⟩)] rfl (by (try simp only [List.map_toArray, List.map_cons, List.map_nil]); first | done | rfl | (simp only [List.length_drop, List.length_take]; rfl)) ?_; refine (xcrash_yes g ok room b0 s0 b1 s1 cat keep armed false ops _ (HD.out.below (pw_below_drewN (Below.refl _ _) _)) HW.out HH.out).mono ?_; rintro e w3 ⟨rfl, hD3, ho3⟩; refine ⟨_, rfl, ?_⟩; have HD3 := Aside0.mk hD3; have HF3 := Aside0.mk (Fr.trans (Fr.of_below (pw_below_drewN HB.out _)) (ho3.fr hgo)); clear hD3 ho3))
  go_ret
  exact ⟨rfl, HD3.out, HF3.out⟩
set_option maxHeartbeats 2000000 in
theorem xapp_ok1 (g : Nat) (ok : Nat → Prop) (room : Int) (b0 : List Int) (s0 : Nat) (b1 : List Int) (s1 : Nat) (cat keep : Int) (armed : Bool) (ops : Int) (A : Option Addr) (c : Nat) (l : List Int) (w : World) (h : IsX w ok g ⟨room, b0, s0, b1, s1, cat, keep, armed, false, ops⟩) (hw : Dk.Wf ⟨room, b0, s0, b1, s1, cat, keep, armed, false, ops⟩) (hC : Kd.C (Kd.int .u8) w A l.length l) (hl : l.length ≤ 140737488351232) (hf : ¬ room - b1.length < l.length) (hh : Dk.hit ⟨room, b0, s0, b1, s1, cat, keep, armed, false, ops⟩ = false) (hA : ∀ ad, A = some ad → 0 < l.length → ad.block ≠ g) (hok : ∀ k, w.heap.size ≤ k → ok k) : Calls Try.prog 25 #[.pointer (some ⟨g, 0, none⟩), .int .i64 1, .slice A l.length c] w fun e w' => e = .returned (.int .i64 0) ∧ IsX w' ok g ⟨room, b0, s0, (b1 ++ l), s1, cat, keep, armed, false, ops + 1⟩ ∧ Fr ok w w' := by
  have HB := Aside0.mk (Below.refl w.heap.size w)
  have HD := Aside0.mk h
  have HC := Aside0.mk hC
  have HW := Aside0.mk hw
  obtain ⟨q0, q1, q2, q3, q4, q5, q6, q7, q8⟩ := hw
  simp only at q0 q1 q2 q3 q4 q5 q6 q7 q8
  obtain ⟨hg, A0, c0, A1, c1, hG, h0, h1⟩ := h.op
  obtain ⟨z0, z1, z2, z3, z4, z5, z6, z7, z8, z9, zf⟩ := cells10 hG
  have hgo := h.1
  clear hG h0 h1 hg q7 q8
  have hfb : decide (room - (b1.length : Int) < (l.length : Int)) = false := decide_eq_false hf
  have HH := Aside0.mk hh
  have HA := Aside0.mk hA
  have HOK := Aside0.mk hok
  have hll : l.length ≤ 200000 := by omega
  have hbl : b1.length ≤ 200000 := by omega
  obtain ⟨Y, hY⟩ : ∃ Y, b1 ++ l = Y := ⟨_, rfl⟩
  have HY := Aside0.mk hY
  clear h hC hf hh hA hok hY
  go_enter Try.func25, Try.ntmps25
  go_wp2
  go_quiet (fail)
  clear z0 z1 z2 z3 z4 z5 z6 z7 z8 z9 zf
  go_wp2_with (first | ((with_reducible refine gate_dst (N := 37) rfl ?_); (try (refine gate_guard (by rfl) ?_; dsimp only)); refine goesL_ (some 37) rfl rfl Try.func48 (by kernel_rfl) rfl #[.pointer (some ⟨g, 0, none⟩)] rfl (by (try simp only [List.map_toArray, List.map_cons, List.map_nil]); first | done | rfl | (simp only [List.length_drop, List.length_take]; rfl)) ?_; refine (xcrash_no g ok room b0 s0 b1 s1 cat keep armed false ops _ (HD.out.below (pw_below_drewN (Below.refl _ _) _)) HW.out HH.out).mono ?_; rintro e w3 ⟨rfl, hD3, ho3⟩; refine ⟨_, rfl, ?_⟩; have HF3 := Aside0.mk (Fr.trans (Fr.of_below (pw_below_drewN HB.out _)) (ho3.fr hgo)); have HC3 := Aside0.mk (C_ne (Kd.C_drewN HC.out _) ho3 HA.out); clear ho3 HC HB HD; obtain ⟨hg, A0, c0, A1, c1, hG, h0, h1⟩ := hD3.op; have HG := Aside0.mk hG; have H0 := Aside0.mk h0; have H1 := Aside0.mk h1; clear hD3 h0 h1; obtain ⟨z0, z1, z2, z3, z4, z5, z6, z7, z8, z9, zf⟩ := cells10 hG; have hlt := blk_lt hG; clear hG hg))
  have hne : g ≠ w3.heap.size := by omega
  go_region_law (first | (refine app_step (w0 := w3) w3.heap.size (by rfl) (.tmp 40) (.tmp 46) 22 5 rfl Try.underlying22 info5 _ [] b1 A1 b1.length c1 rfl rfl (by first | exact R_blk0 w3.drew 5 w3.heap.size (Nat.le_refl _) | exact R_blk0 w3 5 w3.heap.size (Nat.le_refl _)) (by first | exact Kd.C_alloc (Kd.C_drew (Kd.R_reads' H1.out).2.2) _ | exact Kd.C_alloc (Kd.R_reads' H1.out).2.2 _) (by first | exact below_alloc (below_drew (Below.refl _ _)) _ | exact below_alloc (Below.refl _ _) _) (by simp) (by simp; omega) ?_; intro v4 w4 ho4 hb4 hg4; clear hg4; rw [List.nil_append] at ho4) | (refine app_step (w0 := w3) w3.heap.size (by rfl) (.tmp 47) (.tmp 48) 22 5 rfl Try.underlying22 info5 v4 b1 l A l.length c rfl rfl ho4 (Kd.C_below HC3.out hb4) hb4 hb4.size (by omega) ?_; intro v5 w5 ho5 hb5 hg5; clear hg5; rw [HY.out] at ho5; obtain ⟨A5, c5, e5⟩ := Kd.R_slice ho5; subst e5; have HG5 := Aside0.mk (blk_below HG.out hb5); have H5 := Aside0.mk ho5; have HB5 := Aside0.mk hb5; obtain ⟨y0, y1, y2, y3, y4, y5, y6, y7, y8, y9, yf⟩ := cells10 HG5.out; clear ho4 hb4 ho5 hb5))
  all_goals (refine name_world (g := g) (w := w5) (X := .cells #[.slice A0 b0.length c0, .slice A5 Y.length c5, .int .i64 (s0 : Int), .int .i64 (s1 : Int), .int .i64 room, .int .i64 (ops + 1), .int .i64 cat, .int .i64 keep, .bool armed, .bool false] 50 (0, 0)) (set10_1 HG5.out _) (Only.set g 1 _ _) ?_; intro w6 hG6 ho6; have HG6 := Aside0.mk hG6; have HO6 := Aside0.mk ho6; clear hG6 ho6 y0 y1 y2 y3 y4 y5 y6 y7 y8 y9 yf z0 z1 z2 z3 z4 z5 z6 z7 z8 z9 zf)
  all_goals go_wp2
  all_goals go_ret
  all_goals (refine ⟨rfl, ?_, Fr.trans HF3.out (Fr.trans (Fr.of_below HB5.out) (HO6.out.fr hgo))⟩; rw [HY.out])
  all_goals have hN := P0_set (row_new HOK.out HF3.out.2.2.2.1 hlt H0.out H5.out) HO6.out
  all_goals have hU := P0_set (row_old H0.out HB5.out H5.out) HO6.out
  all_goals exact ⟨hgo, A0, c0, A5, c5, HG6.out, hU, hN⟩

theorem xapp (g : Nat) (ok : Nat → Prop) (D : Dk) (side : Int) (A : Option Addr) (c : Nat) (l : List Int) (w : World) (h : IsX w ok g D) (hw : D.Wf) (hC : Kd.C (Kd.int .u8) w A l.length l) (hl : l.length ≤ 140737488351232) (hA : ∀ ad, A = some ad → 0 < l.length → ad.block ≠ g) (hok : ∀ k, w.heap.size ≤ k → ok k) :
    Calls Try.prog 25 #[.pointer (some ⟨g, 0, none⟩), .int .i64 side, .slice A l.length c] w fun e w' => e = .returned (.int .i64 (D.appE side l)) ∧ IsX w' ok g (D.app side l) ∧ Fr ok w w' := by
  obtain ⟨room, b0, s0, b1, s1, cat, keep, armed, down, ops⟩ := D
  cases down with
  | true => exact xapp_down g ok room b0 s0 b1 s1 cat keep armed ops A c l w h side
  | false =>
    cases hs : sideB side with
    | false =>
      have e := app_side (D := ⟨room, b0, s0, b1, s1, cat, keep, armed, false, ops⟩) (side := side) (l := l) rfl hs
      rw [e.1, e.2]
      exact xapp_side g ok room b0 s0 b1 s1 cat keep armed ops A c l w h side hs
    | true =>
      have h01 : side = 0 ∨ side = 1 := by
        unfold sideB at hs
        rw [Bool.and_eq_true, decide_eq_true_iff, decide_eq_true_iff] at hs
        omega
      rcases h01 with rfl | rfl
      · by_cases hf : room - (b0.length : Int) < l.length
        · have e := app_full (D := ⟨room, b0, s0, b1, s1, cat, keep, armed, false, ops⟩) (side := 0) (l := l) rfl hs hf
          rw [e.1, e.2]
          exact xapp_full0 g ok room b0 s0 b1 s1 cat keep armed ops A c l w h hw hC hl hf
        · cases hh : Dk.hit ⟨room, b0, s0, b1, s1, cat, keep, armed, false, ops⟩ with
          | true =>
            have e := app_hit (D := ⟨room, b0, s0, b1, s1, cat, keep, armed, false, ops⟩) (side := 0) (l := l) rfl hs hf hh
            rw [e.1, e.2]
            exact xapp_hit0 g ok room b0 s0 b1 s1 cat keep armed ops A c l w h hw hC hl hf hh
          | false =>
            have e := app_ok0 (D := ⟨room, b0, s0, b1, s1, cat, keep, armed, false, ops⟩) (l := l) rfl hf hh
            rw [e.1, e.2]
            exact xapp_ok0 g ok room b0 s0 b1 s1 cat keep armed ops A c l w h hw hC hl hf hh hA hok
      · by_cases hf : room - (b1.length : Int) < l.length
        · have e := app_full (D := ⟨room, b0, s0, b1, s1, cat, keep, armed, false, ops⟩) (side := 1) (l := l) rfl hs hf
          rw [e.1, e.2]
          exact xapp_full1 g ok room b0 s0 b1 s1 cat keep armed ops A c l w h hw hC hl hf
        · cases hh : Dk.hit ⟨room, b0, s0, b1, s1, cat, keep, armed, false, ops⟩ with
          | true =>
            have e := app_hit (D := ⟨room, b0, s0, b1, s1, cat, keep, armed, false, ops⟩) (side := 1) (l := l) rfl hs hf hh
            rw [e.1, e.2]
            exact xapp_hit1 g ok room b0 s0 b1 s1 cat keep armed ops A c l w h hw hC hl hf hh
          | false =>
            have e := app_ok1 (D := ⟨room, b0, s0, b1, s1, cat, keep, armed, false, ops⟩) (l := l) rfl hf hh
            rw [e.1, e.2]
            exact xapp_ok1 g ok room b0 s0 b1 s1 cat keep armed ops A c l w h hw hC hl hf hh hA hok
end Go.Proofs.Ythaeppjhmjpecaa.B
