/- tape: falls. -/
import Derived.Test.YthaeppjhmjpecaaT1
namespace Go.Proofs.Ythaeppjhmjpecaa.B
open Go.RowKit Go.Proofs.YthaeppjhmjpecaaW.PrintWords Go.Proofs.YthaeppjhmjpecaaW.PrintLast Go.Proofs.YthaeppjhmjpecaaW.PrintMore
attribute [local go_sem] max2_int min2_int max_two min_two max_three min_three max_four min_four
set_option linter.unusedVariables false
set_option linter.unusedSimpArgs false

/-- Does it crash ahead of the next operation? -/
def Dk.hit (D : Dk) : Bool := D.armed && decide (D.cat ≤ D.ops)
def Dk.tick (D : Dk) : Dk := { D with ops := D.ops + 1 }
def Dk.k0 (D : Dk) : Nat := min D.keep.toNat (D.b0.length - D.s0)
def Dk.k1 (D : Dk) : Nat := min (D.keep.toNat - D.k0) (D.b1.length - D.s1)
/-- A crash: of what is not synced the first bytes are kept. -/
def Dk.crash (D : Dk) : Dk := { D with b0 := D.b0.take (D.s0 + D.k0), s0 := D.s0 + D.k0, b1 := D.b1.take (D.s1 + D.k1), s1 := D.s1 + D.k1, down := true }
/-- What an operation may count on. -/
def Dk.Wf (D : Dk) : Prop := D.s0 ≤ D.b0.length ∧ D.s1 ≤ D.b1.length ∧ D.b0.length ≤ D.room ∧ D.b1.length ≤ D.room ∧ D.room ≤ 200000 ∧ 0 ≤ D.ops ∧ D.ops < 1000000 ∧ -9223372036854775808 ≤ D.keep ∧ D.keep < 9223372036854775808
theorem P0_set {ok : Nat → Prop} {g : Nat} {w w' : World} {v u : Value} {xs : List Int} (h : Kd.R (Kd.int .u8) 5 w 0 (P0 ok g u) v xs) (ho : Only g w w') : Kd.R (Kd.int .u8) 5 w' 0 (P0 ok g u) v xs := Kd.R_step h (fun k hk _ => ho.2.2.2.2 k hk.2.1)
theorem ownB (A : Option Addr) (n m c d : Nat) : (Value.slice A n c).ownBlock = (Value.slice A m d).ownBlock := by cases A <;> rfl
theorem P0_eq {ok : Nat → Prop} {g : Nat} {w : World} {A : Option Addr} {n m c : Nat} {v : Value} {xs : List Int} (h : Kd.R (Kd.int .u8) 5 w 0 (P0 ok g (.slice A n c)) v xs) : Kd.R (Kd.int .u8) 5 w 0 (P0 ok g (.slice A m c)) v xs := by
  refine Kd.R_mono h (fun k hk => ⟨hk.1, hk.2.1, ?_⟩)
  rw [ownB A m n c c]
  exact hk.2.2
theorem name_world {F : World → Prop} {w W : World} {g : Nat} {X : Obj} (hG : W.heap[g]? = some X) (ho : Only g w W) (h : ∀ W', W'.heap[g]? = some X → Only g w W' → F W') : F W := h W hG ho
set_option maxHeartbeats 1000000 in
theorem tfalls_no (g : Nat) (ok : Nat → Prop) (room : Int) (b0 : List Int) (s0 : Nat) (b1 : List Int) (s1 : Nat) (cat keep : Int) (armed down : Bool) (ops : Int) (w : World) (h : IsD w ok g ⟨room, b0, s0, b1, s1, cat, keep, armed, down, ops⟩) (hw : Dk.Wf ⟨room, b0, s0, b1, s1, cat, keep, armed, down, ops⟩) (hh : Dk.hit ⟨room, b0, s0, b1, s1, cat, keep, armed, down, ops⟩ = false) :
    Calls Try.prog 46 #[.pointer (some ⟨g, 0, none⟩)] w fun e w' => e = .returned (.bool false) ∧ IsD w' ok g ⟨room, b0, s0, b1, s1, cat, keep, armed, down, ops + 1⟩ ∧ Only g w w' := by
  obtain ⟨hg, A0, c0, A1, c1, hG, h0, h1⟩ := h.op
  have HG := Aside0.mk hG
  have H0 := Aside0.mk h0
  have H1 := Aside0.mk h1
  have hob : 0 ≤ ops ∧ ops < 1000000 := ⟨hw.2.2.2.2.2.1, hw.2.2.2.2.2.2.1⟩
  obtain ⟨z0, z1, z2, z3, z4, z5, z6, z7, z8, z9, zf⟩ := cells10 HG.out
  have HF := Aside0.mk (fun (w' : World) (hG' : w'.heap[g]? = some (.cells #[.int .i64 room, .slice A0 b0.length c0, .int .i64 (s0 : Int), .slice A1 b1.length c1, .int .i64 (s1 : Int), .int .i64 cat, .int .i64 keep, .bool armed, .bool down, .int .i64 (ops + 1)] 80 (0, 0))) (ho : Only g w w') => show IsD w' ok g ⟨room, b0, s0, b1, s1, cat, keep, armed, down, ops + 1⟩ from ⟨hg, A0, c0, A1, c1, hG', P0_set h0 ho, P0_set h1 ho⟩)
  clear h0 h1 hG hg h hw
  cases armed with
  | false =>
    clear hh
    go_enter Try.func46, Try.ntmps46
    go_wp2
    go_quiet (fail)
    go_wp2
    go_ret
    exact ⟨rfl, HF.out _ (set10_9 (blk_drewN HG.out _) _) (Only.trans (Only.drewN g w _) (Only.set g 9 _ _)), Only.trans (Only.drewN g w _) (Only.set g 9 _ _)⟩
  | true =>
    have hlt : decide (ops < cat) = true := by
      unfold Dk.hit at hh
      simp only [Bool.true_and] at hh
      have := of_decide_eq_false hh
      exact decide_eq_true (by omega)
    clear hh
    go_enter Try.func46, Try.ntmps46
    go_wp2
    go_quiet (fail)
    go_wp2
    go_ret
    exact ⟨rfl, HF.out _ (set10_9 (blk_drewN HG.out _) _) (Only.trans (Only.drewN g w _) (Only.set g 9 _ _)), Only.trans (Only.drewN g w _) (Only.set g 9 _ _)⟩

set_option maxHeartbeats 1000000 in
theorem tfalls_yes (g : Nat) (ok : Nat → Prop) (room : Int) (b0 : List Int) (s0 : Nat) (b1 : List Int) (s1 : Nat) (cat keep : Int) (armed down : Bool) (ops : Int) (w : World) (h : IsD w ok g ⟨room, b0, s0, b1, s1, cat, keep, armed, down, ops⟩) (hw : Dk.Wf ⟨room, b0, s0, b1, s1, cat, keep, armed, down, ops⟩) (hh : Dk.hit ⟨room, b0, s0, b1, s1, cat, keep, armed, down, ops⟩ = true) :
    Calls Try.prog 46 #[.pointer (some ⟨g, 0, none⟩)] w fun e w' => e = .returned (.bool true) ∧ IsD w' ok g (Dk.crash ⟨room, b0, s0, b1, s1, cat, keep, armed, down, ops⟩) ∧ Only g w w' := by
  obtain ⟨hg, A0, c0, A1, c1, hG, h0, h1⟩ := h.op
  have HG := Aside0.mk hG
  have H0 := Aside0.mk h0
  have H1 := Aside0.mk h1
  obtain ⟨q0, q1, q2, q3, q4, q5, q6, q7, q8⟩ := hw
  simp only at q0 q1 q2 q3 q4 q5 q6 q7 q8
  obtain ⟨n0, hn0⟩ : ∃ n0, n0 = Dk.k0 ⟨room, b0, s0, b1, s1, cat, keep, armed, down, ops⟩ := ⟨_, rfl⟩
  obtain ⟨n1, hn1⟩ : ∃ n1, n1 = Dk.k1 ⟨room, b0, s0, b1, s1, cat, keep, armed, down, ops⟩ := ⟨_, rfl⟩
  obtain ⟨L, hL⟩ : ∃ L : Nat, L = keep.toNat := ⟨_, rfl⟩
  have hn0' : n0 = min L (b0.length - s0) := by rw [hn0, hL]; rfl
  have hn1' : n1 = min (L - n0) (b1.length - s1) := by rw [hn1, hL, hn0]; rfl
  obtain ⟨t0, ht0⟩ : ∃ t0 : Nat, t0 = s0 + n0 := ⟨_, rfl⟩
  obtain ⟨t1, ht1⟩ : ∃ t1 : Nat, t1 = s1 + n1 := ⟨_, rfl⟩
  obtain ⟨L1, hL1⟩ : ∃ L1 : Nat, L1 = L - n0 := ⟨_, rfl⟩
  obtain ⟨x, hx, hxr, hxC, hxc⟩ := cutH (P := Try.prog) (Kd.int .u8) 22 5 Try.underlying22 info5 .i64 A0 c0 b0 (t0 : Int) t0 rfl (by omega) (Kd.R_reads' h0).2.1
  obtain ⟨y, hy, hyr, hyC, hyc⟩ := cutH (P := Try.prog) (Kd.int .u8) 22 5 Try.underlying22 info5 .i64 A1 c1 b1 (t1 : Int) t1 rfl (by omega) (Kd.R_reads' h1).2.1
  have HF := Aside0.mk (fun (w' : World) (hG' : w'.heap[g]? = some (.cells #[.int .i64 room, .slice A0 x.length c0, .int .i64 (t0 : Int), .slice A1 y.length c1, .int .i64 (t1 : Int), .int .i64 cat, .int .i64 keep, .bool armed, .bool true, .int .i64 ops] 80 (0, 0))) (ho : Only g w w') => show IsD w' ok g (Dk.crash ⟨room, b0, s0, b1, s1, cat, keep, armed, down, ops⟩) by
    have e0 := Kd.R_take h0 (m := t0) (by omega)
    have e1 := Kd.R_take h1 (m := t1) (by omega)
    have lx : x.length = t0 := by rw [hx.out, List.length_take]; omega
    have ly : y.length = t1 := by rw [hy.out, List.length_take]; omega
    unfold Dk.crash
    simp only [← hn0, ← hn1, ← ht0, ← ht1]
    rw [hx.out] at lx hG'
    rw [hy.out] at ly hG'
    refine ⟨hg, A0, c0, A1, c1, hG', ?_, ?_⟩
    · refine P0_eq (n := b1.length) (P0_set ?_ ho)
      rw [← lx] at e0
      rw [lx] at e0 ⊢
      exact e0
    · refine P0_eq (n := b0.length) (P0_set ?_ ho)
      rw [ly]
      exact e1)
  obtain ⟨z0, z1, z2, z3, z4, z5, z6, z7, z8, z9, zf⟩ := cells10 HG.out
  have hcat : decide (ops < cat) = false := by
    unfold Dk.hit at hh
    simp only [Bool.and_eq_true, decide_eq_true_eq] at hh
    exact decide_eq_false (by omega)
  have harm : armed = true := by
    unfold Dk.hit at hh
    simp only [Bool.and_eq_true] at hh
    exact hh.1
  subst harm
  have hm0 : (if keep < 0 then 0 else keep) = (L : Int) := by rw [hL]; split <;> omega
  have hm1 : (if ((b0.length : Int) - (s0 : Int) < (L : Int)) then ((b0.length : Int) - (s0 : Int)) else (L : Int)) = (n0 : Int) := by rw [hn0']; split <;> omega
  have hm2 : (L : Int) - (n0 : Int) = (L1 : Int) := by omega
  have hm3 : (if ((b1.length : Int) - (s1 : Int) < (L1 : Int)) then ((b1.length : Int) - (s1 : Int)) else (L1 : Int)) = (n1 : Int) := by rw [hn1']; split <;> omega
  have hm4 : (s0 : Int) + (n0 : Int) = (t0 : Int) := by omega
  have hm5 : (s1 : Int) + (n1 : Int) = (t1 : Int) := by omega
  have ha : t0 ≤ 200000 ∧ t1 ≤ 200000 ∧ n0 ≤ 200000 ∧ n1 ≤ 200000 ∧ n0 ≤ L := by omega
  have hLb : (L : Int) < 9223372036854775808 := by omega
  have H2 := Aside0.mk (And.intro hm2 (And.intro hm4 hm5))
  clear h0 h1 hG hg h hh hn0 hn1 hn0' hn1' hL ht0 ht1 hL1
  clear hm2 hm4 hm5
  go_enter Try.func46, Try.ntmps46
  go_wp2
  go_quiet (fail)
  go_wp2
  refine wp_loop_rounds 3 ?_
  rw [rounds_succ]
  go_wp2
  have e1 := H2.out.1
  go_quiet (fail)
  go_wp2
  refine name_world (g := g) (X := .cells #[.int .i64 room, .slice A0 b0.length c0, .int .i64 ((s0 : Int) + (n0 : Int)), .slice A1 b1.length c1, .int .i64 (s1 : Int), .int .i64 cat, .int .i64 keep, .bool true, .bool down, .int .i64 ops] 80 (0, 0)) (set10_2 (blk_drewN HG.out _) _) (Only.trans (Only.drewN g w _) (Only.set g 2 _ _)) ?_
  intro w1 hG1 ho1
  rw [H2.out.2.1] at hG1
  have HG1 := Aside0.mk hG1
  have HO1 := Aside0.mk ho1
  clear hG1 ho1 z0 z1 z2 z3 z4 z5 z6 z7 z8 z9 zf e1 HG
  obtain ⟨z0, z1, z2, z3, z4, z5, z6, z7, z8, z9, zf⟩ := cells10 HG1.out
  go_region
  refine name_world (g := g) (X := .cells #[.int .i64 room, .slice A0 x.length c0, .int .i64 (t0 : Int), .slice A1 b1.length c1, .int .i64 (s1 : Int), .int .i64 cat, .int .i64 keep, .bool true, .bool down, .int .i64 ops] 80 (0, 0)) (blk_drew (set10_1 HG1.out _)) (Only.trans (Only.trans HO1.out (Only.set g 1 _ _)) (Only.drew g _)) ?_
  intro w2 hG2 ho2
  have HG2 := Aside0.mk hG2
  have HO2 := Aside0.mk ho2
  clear hG2 ho2 z0 z1 z2 z3 z4 z5 z6 z7 z8 z9 zf HG1 HO1
  obtain ⟨z0, z1, z2, z3, z4, z5, z6, z7, z8, z9, zf⟩ := cells10 HG2.out
  go_wp2
  rw [rounds_succ]
  go_wp2
  go_quiet (fail)
  go_wp2
  refine name_world (g := g) (w := w) (X := .cells #[.int .i64 room, .slice A0 x.length c0, .int .i64 (t0 : Int), .slice A1 b1.length c1, .int .i64 ((s1 : Int) + (n1 : Int)), .int .i64 cat, .int .i64 keep, .bool true, .bool down, .int .i64 ops] 80 (0, 0)) (set10_4 (blk_drewN HG2.out _) _) (Only.trans (Only.trans HO2.out (Only.drewN g w2 _)) (Only.set g 4 _ _)) ?_
  intro w3 hG3 ho3
  rw [H2.out.2.2] at hG3
  have HG3 := Aside0.mk hG3
  have HO3 := Aside0.mk ho3
  clear hG3 ho3 z0 z1 z2 z3 z4 z5 z6 z7 z8 z9 zf HG2 HO2
  obtain ⟨z0, z1, z2, z3, z4, z5, z6, z7, z8, z9, zf⟩ := cells10 HG3.out
  go_region
  refine name_world (g := g) (w := w) (X := .cells #[.int .i64 room, .slice A0 x.length c0, .int .i64 (t0 : Int), .slice A1 y.length c1, .int .i64 (t1 : Int), .int .i64 cat, .int .i64 keep, .bool true, .bool down, .int .i64 ops] 80 (0, 0)) (blk_drew (set10_3 HG3.out _)) (Only.trans (Only.trans HO3.out (Only.set g 3 _ _)) (Only.drew g _)) ?_
  intro w4 hG4 ho4
  have HG4 := Aside0.mk hG4
  have HO4 := Aside0.mk ho4
  clear hG4 ho4 z0 z1 z2 z3 z4 z5 z6 z7 z8 z9 zf HG3 HO3
  obtain ⟨z0, z1, z2, z3, z4, z5, z6, z7, z8, z9, zf⟩ := cells10 HG4.out
  go_wp2
  rw [rounds_succ]
  go_wp2
  go_ret
  exact ⟨rfl, HF.out _ (set10_8 HG4.out _) (Only.trans HO4.out (Only.set g 8 _ _)), Only.trans HO4.out (Only.set g 8 _ _)⟩
/-- falls: what it tells, what becomes of the deck. -/
def Dk.fell (D : Dk) : Dk := if D.hit = true then D.crash else D.tick
theorem tfalls (g : Nat) (ok : Nat → Prop) (D : Dk) (w : World) (h : IsD w ok g D) (hw : D.Wf) :
    Calls Try.prog 46 #[.pointer (some ⟨g, 0, none⟩)] w fun e w' => e = .returned (.bool D.hit) ∧ IsD w' ok g D.fell ∧ Only g w w' := by
  cases hh : D.hit with
  | false =>
    rw [show D.fell = D.tick by unfold Dk.fell; rw [hh]; rfl]
    exact tfalls_no g ok D.room D.b0 D.s0 D.b1 D.s1 D.cat D.keep D.armed D.down D.ops w h hw hh
  | true =>
    rw [show D.fell = D.crash by unfold Dk.fell; rw [hh]; rfl]
    exact tfalls_yes g ok D.room D.b0 D.s0 D.b1 D.s1 D.cat D.keep D.armed D.down D.ops w h hw hh
end Go.Proofs.Ythaeppjhmjpecaa.B
