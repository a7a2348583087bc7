/- giroref4: a deck in memory; New, Room, Arm, crash. -/
import Derived.Test.YthaeppjhmjpecaaT10
namespace Go.Proofs.Ythaeppjhmjpecaa.B
open Go.RowKit Go.Proofs.YthaeppjhmjpecaaW.PrintWords Go.Proofs.YthaeppjhmjpecaaW.PrintLast Go.Proofs.YthaeppjhmjpecaaW.PrintMore
attribute [local go_sem] max2_int min2_int max_two min_two max_three min_three max_four min_four
set_option linter.unusedVariables false
set_option linter.unusedSimpArgs false

/-- The document's deck in memory: ten cells at block g, two rows; all in blocks that are 'ok'. -/
def IsX (w : World) (ok : Nat → Prop) (g : Nat) (D : Dk) : Prop :=
  ok g ∧ ∃ A0 c0 A1 c1, w.heap[g]? = some (.cells #[.slice A0 D.b0.length c0, .slice A1 D.b1.length c1, .int .i64 (D.s0 : Int), .int .i64 (D.s1 : Int), .int .i64 D.room, .int .i64 D.ops, .int .i64 D.cat, .int .i64 D.keep, .bool D.armed, .bool D.down] 50 (0, 0)) ∧
    Kd.R (Kd.int .u8) 5 w 0 (P0 ok g (.slice A1 D.b1.length c1)) (.slice A0 D.b0.length c0) D.b0 ∧ Kd.R (Kd.int .u8) 5 w 0 (P0 ok g (.slice A0 D.b0.length c0)) (.slice A1 D.b1.length c1) D.b1
theorem IsX.op {w : World} {ok : Nat → Prop} {g : Nat} {room : Int} {b0 : List Int} {s0 : Nat} {b1 : List Int} {s1 : Nat} {cat keep : Int} {armed down : Bool} {ops : Int} (h : IsX w ok g ⟨room, b0, s0, b1, s1, cat, keep, armed, down, ops⟩) :
  ok g ∧ ∃ A0 c0 A1 c1, w.heap[g]? = some (.cells #[.slice A0 b0.length c0, .slice A1 b1.length c1, .int .i64 (s0 : Int), .int .i64 (s1 : Int), .int .i64 room, .int .i64 ops, .int .i64 cat, .int .i64 keep, .bool armed, .bool down] 50 (0, 0)) ∧
    Kd.R (Kd.int .u8) 5 w 0 (P0 ok g (.slice A1 b1.length c1)) (.slice A0 b0.length c0) b0 ∧ Kd.R (Kd.int .u8) 5 w 0 (P0 ok g (.slice A0 b0.length c0)) (.slice A1 b1.length c1) b1 := h
theorem IsX.mono {w : World} {ok ok' : Nat → Prop} {g : Nat} {D : Dk} (h : IsX w ok g D) (hm : ∀ k, ok k → ok' k) : IsX w ok' g D := by
  obtain ⟨hg, A0, c0, A1, c1, hG, h0, h1⟩ := h
  exact ⟨hm g hg, A0, c0, A1, c1, hG, Kd.R_mono h0 (fun k hk => ⟨hm k hk.1, hk.2⟩), Kd.R_mono h1 (fun k hk => ⟨hm k hk.1, hk.2⟩)⟩
theorem IsX.bound {w : World} {ok : Nat → Prop} {g : Nat} {D : Dk} (h : IsX w ok g D) : IsX w (fun k => ok k ∧ k < w.heap.size) g D := by
  obtain ⟨hg, A0, c0, A1, c1, hG, h0, h1⟩ := h
  exact ⟨⟨hg, blk_lt hG⟩, A0, c0, A1, c1, hG, Kd.R_mono (Kd.R_bound h0) (fun k hk => ⟨⟨hk.1.1, hk.2.2.1⟩, hk.1.2⟩), Kd.R_mono (Kd.R_bound h1) (fun k hk => ⟨⟨hk.1.1, hk.2.2.1⟩, hk.1.2⟩)⟩
theorem IsX.move {w w' : World} {ok : Nat → Prop} {g : Nat} {D : Dk} (h : IsX w ok g D) (hm : ∀ k, ok k → k < w.heap.size → w'.heap[k]? = w.heap[k]?) : IsX w' ok g D := by
  obtain ⟨hg, A0, c0, A1, c1, hG, h0, h1⟩ := h
  exact ⟨hg, A0, c0, A1, c1, (hm g hg (blk_lt hG)).trans hG, Kd.R_step h0 (fun k hk hl => hm k hk.1 hl), Kd.R_step h1 (fun k hk hl => hm k hk.1 hl)⟩
theorem IsX.below {w w' : World} {ok : Nat → Prop} {g : Nat} {D : Dk} (h : IsX w ok g D) (hb : Below w.heap.size w w') : IsX w' ok g D := h.move (fun k _ hl => hb.block k hl)
theorem IsX.lt {w : World} {ok : Nat → Prop} {g : Nat} {D : Dk} (h : IsX w ok g D) : g < w.heap.size := by
  obtain ⟨hg, A0, c0, A1, c1, hG, h0, h1⟩ := h
  exact blk_lt hG
theorem IsX.new (w : World) (room : Int) (ok : Nat → Prop) (hok : ok w.heap.size) : IsX (w.alloc (.cells #[.slice none 0 0, .slice none 0 0, .int .i64 0, .int .i64 0, .int .i64 room, .int .i64 0, .int .i64 0, .int .i64 0, .bool false, .bool false] 50)) ok w.heap.size ⟨room, [], 0, [], 0, 0, 0, false, false, 0⟩ :=
  ⟨hok, none, 0, none, 0, blk_new w _, Kd.R_nil _ _ _ _ _, Kd.R_nil _ _ _ _ _⟩
theorem xnew (room : Int) (w : World) (h0 : 0 ≤ room) (h1 : room ≤ 200000) (ok : Nat → Prop) (hok : ok w.heap.size) : Calls Try.prog 24 #[.int .i64 room] w fun e w' => e = .returned (.pointer (some ⟨w.heap.size, 0, none⟩)) ∧ IsX w' ok w.heap.size ⟨room, [], 0, [], 0, 0, 0, false, false, 0⟩ ∧ Below w.heap.size w w' := by
  have HB := Aside0.mk (Below.refl w.heap.size w)
  have h2 : decide (room < 0) = false := decide_eq_false (by omega)
  have h3 : decide (200000 < room) = false := decide_eq_false (by omega)
  have HN := Aside0.mk (IsX.new w room ok hok)
  clear h0 h1
  go_enter Try.func24, Try.ntmps24
  go_wp2
  go_ret
  exact ⟨rfl, HN.out, below_alloc HB.out _⟩
theorem xnew0 (room : Int) (w : World) (h : room < 0 ∨ 200000 < room) : Calls Try.prog 24 #[.int .i64 room] w fun e w' => e = .returned (.pointer none) ∧ Below w.heap.size w w' := by
  have HB := Aside0.mk (Below.refl w.heap.size w)
  by_cases h0 : room < 0
  · have h2 : decide (room < 0) = true := decide_eq_true h0
    clear h
    go_enter Try.func24, Try.ntmps24
    go_wp2
    go_ret
    exact ⟨rfl, HB.out⟩
  · have h2 : decide (room < 0) = false := decide_eq_false h0
    have h3 : decide (200000 < room) = true := decide_eq_true (by omega)
    clear h h0
    go_enter Try.func24, Try.ntmps24
    go_wp2
    go_ret
    exact ⟨rfl, HB.out⟩
theorem xroom' (g : Nat) (ok : Nat → Prop) (room : Int) (b0 : List Int) (s0 : Nat) (b1 : List Int) (s1 : Nat) (cat keep : Int) (armed down : Bool) (ops : Int) (w : World) (h : IsX w ok g ⟨room, b0, s0, b1, s1, cat, keep, armed, down, ops⟩) : Calls Try.prog 58 #[.pointer (some ⟨g, 0, none⟩)] w fun e w' => e = .returned (.int .i64 room) ∧ Below w.heap.size w w' := by
  have HB := Aside0.mk (Below.refl w.heap.size w)
  obtain ⟨hg, A0, c0, A1, c1, hG, h0, h1⟩ := h.op
  have z := blk_cell hG 4
  simp only [List.getElem?_toArray, List.getElem?_cons_zero, List.getElem?_cons_succ] at z
  clear h0 h1 hG hg h
  go_enter Try.func58, Try.ntmps58
  go_wp2
  go_ret
  exact ⟨rfl, HB.out⟩
theorem xroom (g : Nat) (ok : Nat → Prop) (D : Dk) (w : World) (h : IsX w ok g D) : Calls Try.prog 58 #[.pointer (some ⟨g, 0, none⟩)] w fun e w' => e = .returned (.int .i64 D.room) ∧ Below w.heap.size w w' := xroom' g ok _ _ _ _ _ _ _ _ _ _ w h
theorem xarm' (g : Nat) (ok : Nat → Prop) (room : Int) (b0 : List Int) (s0 : Nat) (b1 : List Int) (s1 : Nat) (cat keep : Int) (armed down : Bool) (ops : Int) (w : World) (h : IsX w ok g ⟨room, b0, s0, b1, s1, cat, keep, armed, down, ops⟩) (x y : Int) : Calls Try.prog 28 #[.pointer (some ⟨g, 0, none⟩), .agg #[.int .i64 x, .int .i64 y]] w fun e w' => e = .returned (.tuple #[]) ∧ IsX w' ok g ⟨room, b0, s0, b1, s1, x, y, true, down, ops⟩ ∧ Fr ok w w' := by
  have HB := Aside0.mk (Below.refl w.heap.size w)
  obtain ⟨hg, A0, c0, A1, c1, hG, h0, h1⟩ := h.op
  have HG := Aside0.mk hG
  have HF := Aside0.mk (fun (w' : World) (hG' : w'.heap[g]? = some (.cells #[.slice A0 b0.length c0, .slice A1 b1.length c1, .int .i64 (s0 : Int), .int .i64 (s1 : Int), .int .i64 room, .int .i64 ops, .int .i64 x, .int .i64 y, .bool true, .bool down] 50 (0, 0))) (ho : Only g w w') => show IsX w' ok g ⟨room, b0, s0, b1, s1, x, y, true, down, ops⟩ ∧ Fr ok w w' from ⟨⟨hg, A0, c0, A1, c1, hG', P0_set h0 ho, P0_set h1 ho⟩, ho.fr hg⟩)
  have HE := Aside0.mk (HF.out _ (set10_8 (set10_7 (set10_6 HG.out (.int .i64 x)) (.int .i64 y)) (.bool true)) (Only.trans (Only.trans (Only.set g 6 _ _) (Only.set g 7 _ _)) (Only.set g 8 _ _)))
  obtain ⟨z0, z1, z2, z3, z4, z5, z6, z7, z8, z9, zf⟩ := cells10 hG
  have hlt := blk_lt hG
  have hne : g ≠ w.heap.size := by omega
  clear h0 h1 hG hg h
  go_enter Try.func28, Try.ntmps28
  go_wp2
  go_end0
  exact ⟨rfl, HE.out.1.below (below_alloc (Below.refl _ _) _), Fr.trans HE.out.2 (Fr.of_below (below_alloc (Below.refl _ _) _))⟩
theorem xarm (g : Nat) (ok : Nat → Prop) (D : Dk) (x y : Int) (w : World) (h : IsX w ok g D) : Calls Try.prog 28 #[.pointer (some ⟨g, 0, none⟩), .agg #[.int .i64 x, .int .i64 y]] w fun e w' => e = .returned (.tuple #[]) ∧ IsX w' ok g (D.arm x y) ∧ Fr ok w w' :=
  xarm' g ok D.room D.b0 D.s0 D.b1 D.s1 D.cat D.keep D.armed D.down D.ops w h x y

set_option maxHeartbeats 1000000 in
theorem xcrash_no (g : Nat) (ok : Nat → Prop) (room : Int) (b0 : List Int) (s0 : Nat) (b1 : List Int) (s1 : Nat) (cat keep : Int) (armed down : Bool) (ops : Int) (w : World) (h : IsX w ok g ⟨room, b0, s0, b1, s1, cat, keep, armed, down, ops⟩) (hw : Dk.Wf ⟨room, b0, s0, b1, s1, cat, keep, armed, down, ops⟩) (hh : Dk.hit ⟨room, b0, s0, b1, s1, cat, keep, armed, down, ops⟩ = false) :
    Calls Try.prog 48 #[.pointer (some ⟨g, 0, none⟩)] w fun e w' => e = .returned (.bool false) ∧ IsX w' ok g ⟨room, b0, s0, b1, s1, cat, keep, armed, down, ops + 1⟩ ∧ Only g w w' := by
  obtain ⟨hg, A0, c0, A1, c1, hG, h0, h1⟩ := h.op
  have HG := Aside0.mk hG
  have hob : 0 ≤ ops ∧ ops < 1000000 := ⟨hw.2.2.2.2.2.1, hw.2.2.2.2.2.2.1⟩
  obtain ⟨z0, z1, z2, z3, z4, z5, z6, z7, z8, z9, zf⟩ := cells10 HG.out
  have HF := Aside0.mk (fun (w' : World) (hG' : w'.heap[g]? = some (.cells #[.slice A0 b0.length c0, .slice A1 b1.length c1, .int .i64 (s0 : Int), .int .i64 (s1 : Int), .int .i64 room, .int .i64 (ops + 1), .int .i64 cat, .int .i64 keep, .bool armed, .bool down] 50 (0, 0))) (ho : Only g w w') => show IsX w' ok g ⟨room, b0, s0, b1, s1, cat, keep, armed, down, ops + 1⟩ from ⟨hg, A0, c0, A1, c1, hG', P0_set h0 ho, P0_set h1 ho⟩)
  clear h0 h1 hG hg h hw
  cases armed with
  | false =>
    clear hh
    go_enter Try.func48, Try.ntmps48
    go_wp2
    go_quiet (fail)
    go_wp2
    go_ret
    exact ⟨rfl, HF.out _ (set10_5 (blk_drewN HG.out _) _) (Only.trans (Only.drewN g w _) (Only.set g 5 _ _)), Only.trans (Only.drewN g w _) (Only.set g 5 _ _)⟩
  | true =>
    have hlt : decide (ops < cat) = true := by
      unfold Dk.hit at hh
      simp only [Bool.true_and] at hh
      have := of_decide_eq_false hh
      exact decide_eq_true (by omega)
    clear hh
    go_enter Try.func48, Try.ntmps48
    go_wp2
    go_quiet (fail)
    go_wp2
    go_ret
    exact ⟨rfl, HF.out _ (set10_5 (blk_drewN HG.out _) _) (Only.trans (Only.drewN g w _) (Only.set g 5 _ _)), Only.trans (Only.drewN g w _) (Only.set g 5 _ _)⟩

set_option maxHeartbeats 1000000 in
theorem xcrash_yes (g : Nat) (ok : Nat → Prop) (room : Int) (b0 : List Int) (s0 : Nat) (b1 : List Int) (s1 : Nat) (cat keep : Int) (armed down : Bool) (ops : Int) (w : World) (h : IsX w ok g ⟨room, b0, s0, b1, s1, cat, keep, armed, down, ops⟩) (hw : Dk.Wf ⟨room, b0, s0, b1, s1, cat, keep, armed, down, ops⟩) (hh : Dk.hit ⟨room, b0, s0, b1, s1, cat, keep, armed, down, ops⟩ = true) :
    Calls Try.prog 48 #[.pointer (some ⟨g, 0, none⟩)] w fun e w' => e = .returned (.bool true) ∧ IsX w' ok g (Dk.crash ⟨room, b0, s0, b1, s1, cat, keep, armed, down, ops⟩) ∧ Only g w w' := by
  obtain ⟨hg, A0, c0, A1, c1, hG, h0, h1⟩ := h.op
  have HG := Aside0.mk hG
  have H0 := Aside0.mk h0
  have H1 := Aside0.mk h1
  obtain ⟨q0, q1, q2, q3, q4, q5, q6, q7, q8⟩ := hw
  simp only at q0 q1 q2 q3 q4 q5 q6 q7 q8
  obtain ⟨n0, hn0⟩ : ∃ n0, n0 = Dk.k0 ⟨room, b0, s0, b1, s1, cat, keep, armed, down, ops⟩ := ⟨_, rfl⟩
  obtain ⟨n1, hn1⟩ : ∃ n1, n1 = Dk.k1 ⟨room, b0, s0, b1, s1, cat, keep, armed, down, ops⟩ := ⟨_, rfl⟩
  obtain ⟨L, hL⟩ : ∃ L : Nat, L = keep.toNat := ⟨_, rfl⟩
  have hn0' : n0 = min L (b0.length - s0) := by rw [hn0, hL]; rfl
  have hn1' : n1 = min (L - n0) (b1.length - s1) := by rw [hn1, hL, hn0]; rfl
  obtain ⟨t0, ht0⟩ : ∃ t0 : Nat, t0 = s0 + n0 := ⟨_, rfl⟩
  obtain ⟨t1, ht1⟩ : ∃ t1 : Nat, t1 = s1 + n1 := ⟨_, rfl⟩
  obtain ⟨L1, hL1⟩ : ∃ L1 : Nat, L1 = L - n0 := ⟨_, rfl⟩
  obtain ⟨x, hx, hxr, hxC, hxc⟩ := cutH (P := Try.prog) (Kd.int .u8) 22 5 Try.underlying22 info5 .i64 A0 c0 b0 (t0 : Int) t0 rfl (by omega) (Kd.R_reads' h0).2.1
  obtain ⟨y, hy, hyr, hyC, hyc⟩ := cutH (P := Try.prog) (Kd.int .u8) 22 5 Try.underlying22 info5 .i64 A1 c1 b1 (t1 : Int) t1 rfl (by omega) (Kd.R_reads' h1).2.1
  have HF := Aside0.mk (fun (w' : World) (hG' : w'.heap[g]? = some (.cells #[.slice A0 x.length c0, .slice A1 y.length c1, .int .i64 (t0 : Int), .int .i64 (t1 : Int), .int .i64 room, .int .i64 ops, .int .i64 cat, .int .i64 keep, .bool armed, .bool true] 50 (0, 0))) (ho : Only g w w') => show IsX w' ok g (Dk.crash ⟨room, b0, s0, b1, s1, cat, keep, armed, down, ops⟩) by
    have e0 := Kd.R_take h0 (m := t0) (by omega)
    have e1 := Kd.R_take h1 (m := t1) (by omega)
    have lx : x.length = t0 := by rw [hx.out, List.length_take]; omega
    have ly : y.length = t1 := by rw [hy.out, List.length_take]; omega
    unfold Dk.crash
    simp only [← hn0, ← hn1, ← ht0, ← ht1]
    rw [hx.out] at lx hG'
    rw [hy.out] at ly hG'
    refine ⟨hg, A0, c0, A1, c1, hG', ?_, ?_⟩
    · refine P0_eq (n := b1.length) (P0_set ?_ ho)
      rw [← lx] at e0
      rw [lx] at e0 ⊢
      exact e0
    · refine P0_eq (n := b0.length) (P0_set ?_ ho)
      rw [ly]
      exact e1)
  obtain ⟨z0, z1, z2, z3, z4, z5, z6, z7, z8, z9, zf⟩ := cells10 HG.out
  have hcat : decide (ops < cat) = false := by
    unfold Dk.hit at hh
    simp only [Bool.and_eq_true, decide_eq_true_eq] at hh
    exact decide_eq_false (by omega)
  have harm : armed = true := by
    unfold Dk.hit at hh
    simp only [Bool.and_eq_true] at hh
    exact hh.1
  subst harm
  have hm0 : (if keep < 0 then 0 else keep) = (L : Int) := by rw [hL]; split <;> omega
  have hm1 : (if ((b0.length : Int) - (s0 : Int) < (L : Int)) then ((b0.length : Int) - (s0 : Int)) else (L : Int)) = (n0 : Int) := by rw [hn0']; split <;> omega
  have hm2 : (L : Int) - (n0 : Int) = (L1 : Int) := by omega
  have hm3 : (if ((b1.length : Int) - (s1 : Int) < (L1 : Int)) then ((b1.length : Int) - (s1 : Int)) else (L1 : Int)) = (n1 : Int) := by rw [hn1']; split <;> omega
  have hm4 : (s0 : Int) + (n0 : Int) = (t0 : Int) := by omega
  have hm5 : (s1 : Int) + (n1 : Int) = (t1 : Int) := by omega
  have ha : t0 ≤ 200000 ∧ t1 ≤ 200000 ∧ n0 ≤ 200000 ∧ n1 ≤ 200000 ∧ n0 ≤ L := by omega
  have hLb : (L : Int) < 9223372036854775808 := by omega
  have H2 := Aside0.mk (And.intro hm2 (And.intro hm4 hm5))
  clear h0 h1 hG hg h hh hn0 hn1 hn0' hn1' hL ht0 ht1 hL1
  clear hm2 hm4 hm5
  go_enter Try.func48, Try.ntmps48
  go_wp2
  go_quiet (fail)
  go_wp2
  refine wp_loop_rounds 3 ?_
  rw [rounds_succ]
  go_wp2
  go_quiet (fail)
  go_wp2
  refine name_world (g := g) (w := w) (X := .cells #[.slice A0 b0.length c0, .slice A1 b1.length c1, .int .i64 (s0 : Int), .int .i64 (s1 : Int), .int .i64 room, .int .i64 ops, .int .i64 cat, .int .i64 keep, .bool true, .bool down] 50 (0, 0)) (blk_drewN (blk_drewN HG.out _) _) (Only.trans (Only.drewN g w _) (Only.drewN g _ _)) ?_
  intro w1 hG1 ho1
  have HG1 := Aside0.mk hG1
  have HO1 := Aside0.mk ho1
  clear hG1 ho1 z0 z1 z2 z3 z4 z5 z6 z7 z8 z9 zf HG
  obtain ⟨z0, z1, z2, z3, z4, z5, z6, z7, z8, z9, zf⟩ := cells10 HG1.out
  go_region
  refine name_world (g := g) (w := w) (X := .cells #[.slice A0 b0.length c0, .slice A1 b1.length c1, .int .i64 ((s0 : Int) + (n0 : Int)), .int .i64 (s1 : Int), .int .i64 room, .int .i64 ops, .int .i64 cat, .int .i64 keep, .bool true, .bool down] 50 (0, 0)) (blk_drew (set10_2 HG1.out _)) (Only.trans HO1.out (Only.trans (Only.set g 2 _ _) (Only.drew g _))) ?_
  intro w2 hG2 ho2
  have HG2 := Aside0.mk hG2
  have HO2 := Aside0.mk ho2
  clear hG2 ho2 z0 z1 z2 z3 z4 z5 z6 z7 z8 z9 zf HG1 HO1
  obtain ⟨z0, z1, z2, z3, z4, z5, z6, z7, z8, z9, zf⟩ := cells10 HG2.out
  have hG2 := HG2.out
  rw [H2.out.2.1] at hG2
  clear HG2
  have HG2 := Aside0.mk hG2
  have e1 := H2.out.1
  clear hG2 z0 z1 z2 z3 z4 z5 z6 z7 z8 z9 zf
  obtain ⟨z0, z1, z2, z3, z4, z5, z6, z7, z8, z9, zf⟩ := cells10 HG2.out
  go_wp2
  go_region
  refine name_world (g := g) (w := w) (X := .cells #[.slice A0 x.length c0, .slice A1 b1.length c1, .int .i64 (t0 : Int), .int .i64 (s1 : Int), .int .i64 room, .int .i64 ops, .int .i64 cat, .int .i64 keep, .bool true, .bool down] 50 (0, 0)) (blk_drew (set10_0 HG2.out _)) (Only.trans HO2.out (Only.trans (Only.set g 0 _ _) (Only.drew g _))) ?_
  intro w3 hG3 ho3
  have HG3 := Aside0.mk hG3
  have HO3 := Aside0.mk ho3
  clear hG3 ho3 z0 z1 z2 z3 z4 z5 z6 z7 z8 z9 zf HG2 HO2
  obtain ⟨z0, z1, z2, z3, z4, z5, z6, z7, z8, z9, zf⟩ := cells10 HG3.out
  go_wp2
  rw [rounds_succ]
  go_wp2
  go_quiet (fail)
  go_wp2
  refine name_world (g := g) (w := w) (X := .cells #[.slice A0 x.length c0, .slice A1 b1.length c1, .int .i64 (t0 : Int), .int .i64 (s1 : Int), .int .i64 room, .int .i64 ops, .int .i64 cat, .int .i64 keep, .bool true, .bool down] 50 (0, 0)) (blk_drewN HG3.out _) (Only.trans HO3.out (Only.drewN g _ _)) ?_
  intro w4 hG4 ho4
  have HG4 := Aside0.mk hG4
  have HO4 := Aside0.mk ho4
  clear hG4 ho4 z0 z1 z2 z3 z4 z5 z6 z7 z8 z9 zf HG3 HO3
  obtain ⟨z0, z1, z2, z3, z4, z5, z6, z7, z8, z9, zf⟩ := cells10 HG4.out
  go_region
  refine name_world (g := g) (w := w) (X := .cells #[.slice A0 x.length c0, .slice A1 b1.length c1, .int .i64 (t0 : Int), .int .i64 ((s1 : Int) + (n1 : Int)), .int .i64 room, .int .i64 ops, .int .i64 cat, .int .i64 keep, .bool true, .bool down] 50 (0, 0)) (blk_drew (set10_3 HG4.out _)) (Only.trans HO4.out (Only.trans (Only.set g 3 _ _) (Only.drew g _))) ?_
  intro w5 hG5 ho5
  have HG5 := Aside0.mk hG5
  have HO5 := Aside0.mk ho5
  clear hG5 ho5 z0 z1 z2 z3 z4 z5 z6 z7 z8 z9 zf HG4 HO4
  obtain ⟨z0, z1, z2, z3, z4, z5, z6, z7, z8, z9, zf⟩ := cells10 HG5.out
  have hG5 := HG5.out
  rw [H2.out.2.2] at hG5
  clear HG5
  have HG5 := Aside0.mk hG5
  clear hG5 z0 z1 z2 z3 z4 z5 z6 z7 z8 z9 zf
  obtain ⟨z0, z1, z2, z3, z4, z5, z6, z7, z8, z9, zf⟩ := cells10 HG5.out
  go_wp2
  go_region
  refine name_world (g := g) (w := w) (X := .cells #[.slice A0 x.length c0, .slice A1 y.length c1, .int .i64 (t0 : Int), .int .i64 (t1 : Int), .int .i64 room, .int .i64 ops, .int .i64 cat, .int .i64 keep, .bool true, .bool down] 50 (0, 0)) (blk_drew (set10_1 HG5.out _)) (Only.trans HO5.out (Only.trans (Only.set g 1 _ _) (Only.drew g _))) ?_
  intro w6 hG6 ho6
  have HG6 := Aside0.mk hG6
  have HO6 := Aside0.mk ho6
  clear hG6 ho6 z0 z1 z2 z3 z4 z5 z6 z7 z8 z9 zf HG5 HO5
  obtain ⟨z0, z1, z2, z3, z4, z5, z6, z7, z8, z9, zf⟩ := cells10 HG6.out
  go_wp2
  rw [rounds_succ]
  go_wp2
  go_ret
  exact ⟨rfl, HF.out _ (set10_9 HG6.out _) (Only.trans HO6.out (Only.set g 9 _ _)), Only.trans HO6.out (Only.set g 9 _ _)⟩
theorem xcrash (g : Nat) (ok : Nat → Prop) (D : Dk) (w : World) (h : IsX w ok g D) (hw : D.Wf) :
    Calls Try.prog 48 #[.pointer (some ⟨g, 0, none⟩)] w fun e w' => e = .returned (.bool D.hit) ∧ IsX w' ok g D.fell ∧ Only g w w' := by
  cases hh : D.hit with
  | false =>
    rw [show D.fell = D.tick by unfold Dk.fell; rw [hh]; rfl]
    exact xcrash_no g ok D.room D.b0 D.s0 D.b1 D.s1 D.cat D.keep D.armed D.down D.ops w h hw hh
  | true =>
    rw [show D.fell = D.crash by unfold Dk.fell; rw [hh]; rfl]
    exact xcrash_yes g ok D.room D.b0 D.s0 D.b1 D.s1 D.cat D.keep D.armed D.down D.ops w h hw hh
end Go.Proofs.Ythaeppjhmjpecaa.B
