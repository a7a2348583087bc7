/- tape: small functions of a deck: Down, isSide, Room, Ops, New, Arm, bytes.Clone, Read. -/
import Derived.Test.YthaeppjhmjpecaaT0
namespace Go.Proofs.Ythaeppjhmjpecaa.B
open Go.RowKit Go.Proofs.YthaeppjhmjpecaaW.PrintWords Go.Proofs.YthaeppjhmjpecaaW.PrintLast Go.Proofs.YthaeppjhmjpecaaW.PrintMore
attribute [local go_sem] max2_int min2_int max_two min_two max_three min_three max_four min_four
set_option linter.unusedVariables false
set_option linter.unusedSimpArgs false

/-- A deck's memory: its ten cells at block g, its two rows; all in blocks that are 'ok'. -/
def IsD (w : World) (ok : Nat → Prop) (g : Nat) (D : Dk) : Prop :=
  ok g ∧ ∃ A0 c0 A1 c1, w.heap[g]? = some (.cells #[.int .i64 D.room, .slice A0 D.b0.length c0, .int .i64 (D.s0 : Int), .slice A1 D.b1.length c1, .int .i64 (D.s1 : Int), .int .i64 D.cat, .int .i64 D.keep, .bool D.armed, .bool D.down, .int .i64 D.ops] 80 (0, 0)) ∧
    Kd.R (Kd.int .u8) 5 w 0 (P0 ok g (.slice A1 D.b1.length c1)) (.slice A0 D.b0.length c0) D.b0 ∧ Kd.R (Kd.int .u8) 5 w 0 (P0 ok g (.slice A0 D.b0.length c0)) (.slice A1 D.b1.length c1) D.b1
theorem IsD.op {w : World} {ok : Nat → Prop} {g : Nat} {room : Int} {b0 : List Int} {s0 : Nat} {b1 : List Int} {s1 : Nat} {cat keep : Int} {armed down : Bool} {ops : Int} (h : IsD w ok g ⟨room, b0, s0, b1, s1, cat, keep, armed, down, ops⟩) :
  ok g ∧ ∃ A0 c0 A1 c1, w.heap[g]? = some (.cells #[.int .i64 room, .slice A0 b0.length c0, .int .i64 (s0 : Int), .slice A1 b1.length c1, .int .i64 (s1 : Int), .int .i64 cat, .int .i64 keep, .bool armed, .bool down, .int .i64 ops] 80 (0, 0)) ∧
    Kd.R (Kd.int .u8) 5 w 0 (P0 ok g (.slice A1 b1.length c1)) (.slice A0 b0.length c0) b0 ∧ Kd.R (Kd.int .u8) 5 w 0 (P0 ok g (.slice A0 b0.length c0)) (.slice A1 b1.length c1) b1 := h
theorem IsD.mono {w : World} {ok ok' : Nat → Prop} {g : Nat} {D : Dk} (h : IsD w ok g D) (hm : ∀ k, ok k → ok' k) : IsD w ok' g D := by
  obtain ⟨hg, A0, c0, A1, c1, hG, h0, h1⟩ := h
  exact ⟨hm g hg, A0, c0, A1, c1, hG, Kd.R_mono h0 (fun k hk => ⟨hm k hk.1, hk.2⟩), Kd.R_mono h1 (fun k hk => ⟨hm k hk.1, hk.2⟩)⟩
theorem IsD.bound {w : World} {ok : Nat → Prop} {g : Nat} {D : Dk} (h : IsD w ok g D) : IsD w (fun k => ok k ∧ k < w.heap.size) g D := by
  obtain ⟨hg, A0, c0, A1, c1, hG, h0, h1⟩ := h
  exact ⟨⟨hg, blk_lt hG⟩, A0, c0, A1, c1, hG, Kd.R_mono (Kd.R_bound h0) (fun k hk => ⟨⟨hk.1.1, hk.2.2.1⟩, hk.1.2⟩), Kd.R_mono (Kd.R_bound h1) (fun k hk => ⟨⟨hk.1.1, hk.2.2.1⟩, hk.1.2⟩)⟩
/-- What is ok stays: the deck stays. -/
theorem IsD.move {w w' : World} {ok : Nat → Prop} {g : Nat} {D : Dk} (h : IsD w ok g D) (hm : ∀ k, ok k → k < w.heap.size → w'.heap[k]? = w.heap[k]?) : IsD w' ok g D := by
  obtain ⟨hg, A0, c0, A1, c1, hG, h0, h1⟩ := h
  exact ⟨hg, A0, c0, A1, c1, (hm g hg (blk_lt hG)).trans hG, Kd.R_step h0 (fun k hk hl => hm k hk.1 hl), Kd.R_step h1 (fun k hk hl => hm k hk.1 hl)⟩
theorem IsD.below {w w' : World} {ok : Nat → Prop} {g : Nat} {D : Dk} (h : IsD w ok g D) (hb : Below w.heap.size w w') : IsD w' ok g D := h.move (fun k _ hl => hb.block k hl)
theorem IsD.lt {w : World} {ok : Nat → Prop} {g : Nat} {D : Dk} (h : IsD w ok g D) : g < w.heap.size := by
  obtain ⟨hg, A0, c0, A1, c1, hG, h0, h1⟩ := h
  exact blk_lt hG
/-- A new deck. -/
theorem IsD.new (w : World) (room : Int) (ok : Nat → Prop) (hok : ok w.heap.size) : IsD (w.alloc (.cells #[.int .i64 room, .slice none 0 0, .int .i64 0, .slice none 0 0, .int .i64 0, .int .i64 0, .int .i64 0, .bool false, .bool false, .int .i64 0] 80)) ok w.heap.size ⟨room, [], 0, [], 0, 0, 0, false, false, 0⟩ :=
  ⟨hok, none, 0, none, 0, blk_new w _, Kd.R_nil _ _ _ _ _, Kd.R_nil _ _ _ _ _⟩
def sideB (n : Int) : Bool := decide (0 ≤ n) && decide (n < 2)
theorem sideB_yes {n : Int} (h : 0 ≤ n ∧ n < 2) : sideB n = true := by unfold sideB; rw [decide_eq_true h.1, decide_eq_true h.2]; rfl
theorem sideB_lo {n : Int} (h : n < 0) : sideB n = false := by unfold sideB; rw [decide_eq_false (show ¬ 0 ≤ n by omega)]; rfl
theorem sideB_hi {n : Int} (h : 2 ≤ n) : sideB n = false := by unfold sideB; rw [decide_eq_false (show ¬ n < 2 by omega), Bool.and_false]
theorem tside (n : Int) (w : World) : Calls Try.prog 45 #[.int .i64 n] w fun e w' => e = .returned (.bool (sideB n)) ∧ Below w.heap.size w w' := by
  have HB := Aside0.mk (Below.refl w.heap.size w)
  by_cases h0 : n < 0
  · have HS := Aside0.mk (sideB_lo h0)
    have h1 : decide (0 ≤ n) = false := decide_eq_false (by omega)
    go_enter Try.func45, Try.ntmps45
    go_wp2
    go_ret
    exact ⟨by rw [HS.out]; rfl, HB.out⟩
  · have h1 : decide (0 ≤ n) = true := decide_eq_true (by omega)
    by_cases h2 : n < 2
    · have HS := Aside0.mk (sideB_yes (n := n) ⟨by omega, h2⟩)
      have h3 : decide (n < 2) = true := decide_eq_true h2
      clear h0 h2
      go_enter Try.func45, Try.ntmps45
      go_wp2
      go_ret
      exact ⟨by rw [HS.out]; rfl, HB.out⟩
    · have HS := Aside0.mk (sideB_hi (n := n) (by omega))
      have h3 : decide (n < 2) = false := decide_eq_false h2
      clear h0 h2
      go_enter Try.func45, Try.ntmps45
      go_wp2
      go_ret
      exact ⟨by rw [HS.out]; rfl, HB.out⟩
theorem tdown0 (w : World) : Calls Try.prog 19 #[.pointer none] w fun e w' => e = .returned (.bool true) ∧ Below w.heap.size w w' := by
  have HB := Aside0.mk (Below.refl w.heap.size w)
  go_enter Try.func19, Try.ntmps19
  go_wp2
  go_ret
  exact ⟨rfl, HB.out⟩
theorem tdown (g : Nat) (ok : Nat → Prop) (room : Int) (b0 : List Int) (s0 : Nat) (b1 : List Int) (s1 : Nat) (cat keep : Int) (armed down : Bool) (ops : Int) (w : World) (h : IsD w ok g ⟨room, b0, s0, b1, s1, cat, keep, armed, down, ops⟩) : Calls Try.prog 19 #[.pointer (some ⟨g, 0, none⟩)] w fun e w' => e = .returned (.bool down) ∧ Below w.heap.size w w' := by
  have HB := Aside0.mk (Below.refl w.heap.size w)
  obtain ⟨hg, A0, c0, A1, c1, hG, h0, h1⟩ := h.op
  have z8 := blk_cell hG 8
  simp only [List.getElem?_toArray, List.getElem?_cons_zero, List.getElem?_cons_succ] at z8
  clear h0 h1 hG hg h
  go_enter Try.func19, Try.ntmps19
  go_wp2
  go_ret
  exact ⟨rfl, HB.out⟩
theorem troom0 (w : World) : Calls Try.prog 30 #[.pointer none] w fun e w' => e = .returned (.int .i64 0) ∧ Below w.heap.size w w' := by
  have HB := Aside0.mk (Below.refl w.heap.size w)
  go_enter Try.func30, Try.ntmps30
  go_wp2
  go_ret
  exact ⟨rfl, HB.out⟩
theorem troom (g : Nat) (ok : Nat → Prop) (room : Int) (b0 : List Int) (s0 : Nat) (b1 : List Int) (s1 : Nat) (cat keep : Int) (armed down : Bool) (ops : Int) (w : World) (h : IsD w ok g ⟨room, b0, s0, b1, s1, cat, keep, armed, down, ops⟩) : Calls Try.prog 30 #[.pointer (some ⟨g, 0, none⟩)] w fun e w' => e = .returned (.int .i64 room) ∧ Below w.heap.size w w' := by
  have HB := Aside0.mk (Below.refl w.heap.size w)
  obtain ⟨hg, A0, c0, A1, c1, hG, h0, h1⟩ := h.op
  have z := blk_cell hG 0
  simp only [List.getElem?_toArray, List.getElem?_cons_zero, List.getElem?_cons_succ] at z
  clear h0 h1 hG hg h
  go_enter Try.func30, Try.ntmps30
  go_wp2
  go_ret
  exact ⟨rfl, HB.out⟩
theorem tops0 (w : World) : Calls Try.prog 20 #[.pointer none] w fun e w' => e = .returned (.int .i64 0) ∧ Below w.heap.size w w' := by
  have HB := Aside0.mk (Below.refl w.heap.size w)
  go_enter Try.func20, Try.ntmps20
  go_wp2
  go_ret
  exact ⟨rfl, HB.out⟩
theorem tops (g : Nat) (ok : Nat → Prop) (room : Int) (b0 : List Int) (s0 : Nat) (b1 : List Int) (s1 : Nat) (cat keep : Int) (armed down : Bool) (ops : Int) (w : World) (h : IsD w ok g ⟨room, b0, s0, b1, s1, cat, keep, armed, down, ops⟩) : Calls Try.prog 20 #[.pointer (some ⟨g, 0, none⟩)] w fun e w' => e = .returned (.int .i64 ops) ∧ Below w.heap.size w w' := by
  have HB := Aside0.mk (Below.refl w.heap.size w)
  obtain ⟨hg, A0, c0, A1, c1, hG, h0, h1⟩ := h.op
  have z := blk_cell hG 9
  simp only [List.getElem?_toArray, List.getElem?_cons_zero, List.getElem?_cons_succ] at z
  clear h0 h1 hG hg h
  go_enter Try.func20, Try.ntmps20
  go_wp2
  go_ret
  exact ⟨rfl, HB.out⟩
theorem tnew (room : Int) (w : World) (h0 : 0 ≤ room) (h1 : room ≤ 200000) (ok : Nat → Prop) (hok : ok w.heap.size) : Calls Try.prog 14 #[.int .i64 room] w fun e w' => e = .returned (.pointer (some ⟨w.heap.size, 0, none⟩)) ∧ IsD w' ok w.heap.size ⟨room, [], 0, [], 0, 0, 0, false, false, 0⟩ ∧ Below w.heap.size w w' := by
  have HB := Aside0.mk (Below.refl w.heap.size w)
  have h2 : decide (room < 0) = false := decide_eq_false (by omega)
  have h3 : decide (200000 < room) = false := decide_eq_false (by omega)
  have HN := Aside0.mk (IsD.new w room ok hok)
  clear h0 h1
  go_enter Try.func14, Try.ntmps14
  go_wp2
  go_ret
  exact ⟨rfl, HN.out, below_alloc HB.out _⟩
theorem tnew0 (room : Int) (w : World) (h : room < 0 ∨ 200000 < room) : Calls Try.prog 14 #[.int .i64 room] w fun e w' => e = .returned (.pointer none) ∧ Below w.heap.size w w' := by
  have HB := Aside0.mk (Below.refl w.heap.size w)
  by_cases h0 : room < 0
  · have h2 : decide (room < 0) = true := decide_eq_true h0
    clear h
    go_enter Try.func14, Try.ntmps14
    go_wp2
    go_ret
    exact ⟨rfl, HB.out⟩
  · have h2 : decide (room < 0) = false := decide_eq_false h0
    have h3 : decide (200000 < room) = true := decide_eq_true (by omega)
    clear h h0
    go_enter Try.func14, Try.ntmps14
    go_wp2
    go_ret
    exact ⟨rfl, HB.out⟩
end Go.Proofs.Ythaeppjhmjpecaa.B
