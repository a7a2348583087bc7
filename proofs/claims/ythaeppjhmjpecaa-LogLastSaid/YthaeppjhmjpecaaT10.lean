/- What is kept of a deck through its operations: plain laws; contracts by a deck as a letter. -/
import Derived.Test.YthaeppjhmjpecaaT7
namespace Go.Proofs.Ythaeppjhmjpecaa.B
open Go.RowKit Go.Proofs.YthaeppjhmjpecaaW.PrintWords Go.Proofs.YthaeppjhmjpecaaW.PrintLast Go.Proofs.YthaeppjhmjpecaaW.PrintMore
attribute [local go_sem] max2_int min2_int max_two min_two max_three min_three max_four min_four
set_option linter.unusedVariables false
set_option linter.unusedSimpArgs false

/-- A deck as it should be, of so many operations at most. -/
def Dk.G (D : Dk) (N : Int) : Prop := D.s0 ≤ D.b0.length ∧ D.s1 ≤ D.b1.length ∧ (D.b0.length : Int) ≤ D.room ∧ (D.b1.length : Int) ≤ D.room ∧ D.room ≤ 200000 ∧ 0 ≤ D.ops ∧ D.ops ≤ N ∧ -9223372036854775808 ≤ D.keep ∧ D.keep < 9223372036854775808
theorem Dk.G.wf {D : Dk} {N : Int} (h : D.G N) (hN : N < 1000000) : D.Wf := ⟨h.1, h.2.1, h.2.2.1, h.2.2.2.1, h.2.2.2.2.1, h.2.2.2.2.2.1, by have := h.2.2.2.2.2.2.1; omega, h.2.2.2.2.2.2.2.1, h.2.2.2.2.2.2.2.2⟩
theorem Dk.G.mono {D : Dk} {N M : Int} (h : D.G N) (hN : N ≤ M) : D.G M := ⟨h.1, h.2.1, h.2.2.1, h.2.2.2.1, h.2.2.2.2.1, h.2.2.2.2.2.1, by have := h.2.2.2.2.2.2.1; omega, h.2.2.2.2.2.2.2.1, h.2.2.2.2.2.2.2.2⟩
theorem Dk.k0_le (D : Dk) (h : D.s0 ≤ D.b0.length) : D.s0 + D.k0 ≤ D.b0.length := by unfold Dk.k0; omega
theorem Dk.k1_le (D : Dk) (h : D.s1 ≤ D.b1.length) : D.s1 + D.k1 ≤ D.b1.length := by unfold Dk.k1; omega
theorem Dk.G.crash {D : Dk} {N : Int} (h : D.G N) : D.crash.G N := by
  have h0 := D.k0_le h.1
  have h1 := D.k1_le h.2.1
  obtain ⟨q0, q1, q2, q3, q4⟩ := h
  refine ⟨?_, ?_, ?_, ?_, q4⟩
  · show D.s0 + D.k0 ≤ (D.b0.take (D.s0 + D.k0)).length
    rw [List.length_take]; omega
  · show D.s1 + D.k1 ≤ (D.b1.take (D.s1 + D.k1)).length
    rw [List.length_take]; omega
  · show ((D.b0.take (D.s0 + D.k0)).length : Int) ≤ D.room
    rw [List.length_take]; omega
  · show ((D.b1.take (D.s1 + D.k1)).length : Int) ≤ D.room
    rw [List.length_take]; omega
theorem Dk.G.tick {D : Dk} {N : Int} (h : D.G N) : D.tick.G (N + 1) := by
  obtain ⟨q0, q1, q2, q3, q4, q5, q6, q7⟩ := h
  exact ⟨q0, q1, q2, q3, q4, show 0 ≤ D.ops + 1 by omega, show D.ops + 1 ≤ N + 1 by omega, q7⟩
/-- What an append comes to: one of four. -/
theorem Dk.app_cases (D : Dk) (side : Int) (l : List Int) : D.app side l = D ∨ D.app side l = D.crash ∨ (D.app side l = { D.tick with b0 := D.b0 ++ l } ∧ (D.b0.length : Int) + l.length ≤ D.room) ∨ (D.app side l = { D.tick with b1 := D.b1 ++ l } ∧ (D.b1.length : Int) + l.length ≤ D.room) := by
  unfold Dk.app
  split
  · exact .inl rfl
  split
  · exact .inl rfl
  split
  · exact .inl rfl
  rename_i hf
  split
  · exact .inr (.inl rfl)
  split
  · rename_i hs
    subst hs
    refine .inr (.inr (.inl ⟨rfl, ?_⟩))
    unfold Dk.len at hf
    rw [if_pos rfl] at hf
    omega
  · rename_i hs
    refine .inr (.inr (.inr ⟨rfl, ?_⟩))
    unfold Dk.len at hf
    rw [if_neg hs] at hf
    omega
theorem Dk.sync_cases (D : Dk) : D.sync = D ∨ D.sync = D.crash ∨ D.sync = { D.tick with s0 := D.b0.length, s1 := D.b1.length } := by
  unfold Dk.sync
  split
  · exact .inl rfl
  split
  · exact .inr (.inl rfl)
  · exact .inr (.inr rfl)
theorem Dk.wipe_cases (D : Dk) (side : Int) : D.wipe side = D ∨ D.wipe side = D.crash ∨ (side = 0 ∧ D.wipe side = { D.tick with b0 := [], s0 := 0 }) ∨ (side ≠ 0 ∧ D.wipe side = { D.tick with b1 := [], s1 := 0 }) := by
  unfold Dk.wipe
  split
  · exact .inl rfl
  split
  · exact .inl rfl
  split
  · exact .inr (.inl rfl)
  split
  · rename_i hs
    exact .inr (.inr (.inl ⟨hs, rfl⟩))
  · rename_i hs
    exact .inr (.inr (.inr ⟨hs, rfl⟩))
theorem Dk.G.app {D : Dk} {N : Int} (h : D.G N) (side : Int) (l : List Int) : (D.app side l).G (N + 1) := by
  rcases D.app_cases side l with e | e | ⟨e, hl⟩ | ⟨e, hl⟩ <;> rw [e]
  · exact h.mono (by omega)
  · exact h.crash.mono (by omega)
  · obtain ⟨q0, q1, q2, q3, q4, q5, q6, q7⟩ := h.tick
    exact ⟨show D.s0 ≤ (D.b0 ++ l).length by rw [List.length_append]; have := h.1; omega, q1, show ((D.b0 ++ l).length : Int) ≤ D.room by rw [List.length_append]; omega, q3, q4, q5, q6, q7⟩
  · obtain ⟨q0, q1, q2, q3, q4, q5, q6, q7⟩ := h.tick
    exact ⟨q0, show D.s1 ≤ (D.b1 ++ l).length by rw [List.length_append]; have := h.2.1; omega, q2, show ((D.b1 ++ l).length : Int) ≤ D.room by rw [List.length_append]; omega, q4, q5, q6, q7⟩
theorem Dk.G.sync {D : Dk} {N : Int} (h : D.G N) : D.sync.G (N + 1) := by
  rcases D.sync_cases with e | e | e <;> rw [e]
  · exact h.mono (by omega)
  · exact h.crash.mono (by omega)
  · obtain ⟨q0, q1, q2, q3, q4⟩ := h.tick
    exact ⟨Nat.le_refl _, Nat.le_refl _, q2, q3, q4⟩
theorem Dk.G.wipe {D : Dk} {N : Int} (h : D.G N) (side : Int) : (D.wipe side).G (N + 1) := by
  have hr : (0 : Int) ≤ D.room := by have := h.2.2.1; omega
  rcases D.wipe_cases side with e | e | ⟨_, e⟩ | ⟨_, e⟩ <;> rw [e]
  · exact h.mono (by omega)
  · exact h.crash.mono (by omega)
  · obtain ⟨q0, q1, q2, q3, q4⟩ := h.tick
    exact ⟨Nat.le_refl _, q1, hr, q3, q4⟩
  · obtain ⟨q0, q1, q2, q3, q4⟩ := h.tick
    exact ⟨q0, Nat.le_refl _, q2, hr, q4⟩
theorem Dk.G.restart {D : Dk} {N : Int} (h : D.G N) (hN : 0 ≤ N) : D.restart.G N := by
  obtain ⟨q0, q1, q2, q3, q4, q5, q6, q7⟩ := h
  refine ⟨?_, ?_, ?_, ?_, q4, Int.le_refl _, hN, q7⟩
  · show D.s0 ≤ (D.b0.take D.s0).length
    rw [List.length_take]; omega
  · show D.s1 ≤ (D.b1.take D.s1).length
    rw [List.length_take]; omega
  · show ((D.b0.take D.s0).length : Int) ≤ D.room
    rw [List.length_take]; omega
  · show ((D.b1.take D.s1).length : Int) ≤ D.room
    rw [List.length_take]; omega
theorem Dk.G.arm {D : Dk} {N : Int} (h : D.G N) (x y : Int) (hy : -9223372036854775808 ≤ y ∧ y < 9223372036854775808) : (D.arm x y).G N := by
  obtain ⟨q0, q1, q2, q3, q4, q5, q6, q7⟩ := h
  exact ⟨q0, q1, q2, q3, q4, q5, q6, hy⟩
/-- Side 0 begins with synced bytes a. -/
def Dk.KA (D : Dk) (a : List Int) : Prop := a.length ≤ D.s0 ∧ D.b0.take a.length = a
theorem KA_take {a b : List Int} {n : Nat} (h : a.length ≤ n) (e : b.take a.length = a) : (b.take n).take a.length = a := by rw [List.take_take, Nat.min_eq_left h]; exact e
theorem Dk.KA.crash {D : Dk} {a : List Int} (h : D.KA a) : D.crash.KA a := ⟨Nat.le_trans h.1 (Nat.le_add_right _ _), KA_take (Nat.le_trans h.1 (Nat.le_add_right _ _)) h.2⟩
theorem Dk.KA.app {D : Dk} {a : List Int} {N : Int} (h : D.KA a) (hg : D.G N) (side : Int) (l : List Int) : (D.app side l).KA a := by
  rcases D.app_cases side l with e | e | ⟨e, hl⟩ | ⟨e, hl⟩ <;> rw [e]
  · exact h
  · exact h.crash
  · refine ⟨h.1, ?_⟩
    show (D.b0 ++ l).take a.length = a
    rw [List.take_append_of_le_length (Nat.le_trans h.1 hg.1)]
    exact h.2
  · exact h
theorem Dk.KA.sync {D : Dk} {a : List Int} {N : Int} (h : D.KA a) (hg : D.G N) : D.sync.KA a := by
  rcases D.sync_cases with e | e | e <;> rw [e]
  · exact h
  · exact h.crash
  · exact ⟨Nat.le_trans h.1 hg.1, h.2⟩
theorem Dk.KA.wipe1 {D : Dk} {a : List Int} (h : D.KA a) : (D.wipe 1).KA a := by
  rcases D.wipe_cases 1 with e | e | ⟨e', e⟩ | ⟨_, e⟩
  · rw [e]; exact h
  · rw [e]; exact h.crash
  · exact absurd e' (by decide)
  · rw [e]; exact h
theorem Dk.KA.restart {D : Dk} {a : List Int} (h : D.KA a) : D.restart.KA a := ⟨h.1, KA_take h.1 h.2⟩
theorem tdown' (g : Nat) (ok : Nat → Prop) (D : Dk) (w : World) (h : IsD w ok g D) : Calls Try.prog 19 #[.pointer (some ⟨g, 0, none⟩)] w fun e w' => e = .returned (.bool D.down) ∧ Below w.heap.size w w' := tdown g ok _ _ _ _ _ _ _ _ _ _ w h
theorem tops' (g : Nat) (ok : Nat → Prop) (D : Dk) (w : World) (h : IsD w ok g D) : Calls Try.prog 20 #[.pointer (some ⟨g, 0, none⟩)] w fun e w' => e = .returned (.int .i64 D.ops) ∧ Below w.heap.size w w' := tops g ok _ _ _ _ _ _ _ _ _ _ w h
theorem troom' (g : Nat) (ok : Nat → Prop) (D : Dk) (w : World) (h : IsD w ok g D) : Calls Try.prog 30 #[.pointer (some ⟨g, 0, none⟩)] w fun e w' => e = .returned (.int .i64 D.room) ∧ Below w.heap.size w w' := troom g ok _ _ _ _ _ _ _ _ _ _ w h
end Go.Proofs.Ythaeppjhmjpecaa.B
