/- One deck, its log, collected rows, and one block more that is kept. -/
import Derived.Test.YthaeppjhmjpecaaLD
namespace Go.Proofs.Ythaeppjhmjpecaa.B
open Go.RowKit Go.Proofs.YthaeppjhmjpecaaW.PrintWords Go.Proofs.YthaeppjhmjpecaaW.PrintLast Go.Proofs.YthaeppjhmjpecaaW.PrintMore
set_option linter.unusedVariables false
/-- A block of cells that none of the others is. -/
def KP (W : World) (okd okr : Nat → Prop) (gl gk : Nat) (B : Array Value) (t : Nat) : Prop := ¬ okd gk ∧ ¬ okr gk ∧ gk ≠ gl ∧ gk < W.heap.size ∧ W.heap[gk]? = some (.cells B t (0, 0))
theorem KP.below {W W' : World} {okd okr : Nat → Prop} {gl gk t : Nat} {B : Array Value} (h : KP W okd okr gl gk B t) (hb : Below W.heap.size W W') : KP W' okd okr gl gk B t :=
  ⟨h.1, h.2.1, h.2.2.1, Nat.lt_of_lt_of_le h.2.2.2.1 hb.size, (hb.block gk h.2.2.2.1).trans h.2.2.2.2⟩
theorem KP.norows {W : World} {okd okr : Nat → Prop} {gl gk t : Nat} {B : Array Value} (h : KP W okd okr gl gk B t) : KP W okd (fun _ => False) gl gk B t := ⟨h.1, fun h => h, h.2.2.1, h.2.2.2.1, h.2.2.2.2⟩
theorem KP.step {W W' : World} {okd okr : Nat → Prop} {gl gk t : Nat} {B : Array Value} (h : KP W okd okr gl gk B t) (hf : Fr (fun k => (okd k ∨ W.heap.size ≤ k) ∨ k = gl) W W') (hs : W.heap.size ≤ W'.heap.size) : KP W' (fun k => (okd k ∨ W.heap.size ≤ k) ∧ k < W'.heap.size) okr gl gk B t :=
  ⟨fun e => by rcases e.1 with e | e; exact h.1 e; exact absurd h.2.2.2.1 (Nat.not_lt.2 e), h.2.1, h.2.2.1, Nat.lt_of_lt_of_le h.2.2.2.1 hs, (hf.2.2.2.2 gk h.2.2.2.1 (fun e => by rcases e with (e | e) | e; exact h.1 e; exact absurd h.2.2.2.1 (Nat.not_lt.2 e); exact h.2.2.1 e)).trans h.2.2.2.2⟩
structure LK (W w : World) (gd gl : Nat) (D : Dk) (L : Lg) (rows : List (List Int)) (v : Value) (gk : Nat) (B : Array Value) (t : Nat) : Prop where
  mk ::
  out : ∃ okd okr : Nat → Prop, IsD W okd gd D ∧ IsL W gl gd L ∧ Kd.R (KR w) 22 W w.heap.size okr v rows ∧ (∀ k, okd k → ¬ okr k) ∧ (∀ k, okd k → w.heap.size ≤ k ∧ k < W.heap.size ∧ k ≠ gl) ∧ (∀ k, okr k → w.heap.size ≤ k ∧ k < W.heap.size ∧ k ≠ gl) ∧ w.heap.size ≤ gl ∧ KP W okd okr gl gk B t
  base : Below w.heap.size w W
theorem LK.below {W W' w : World} {gd gl : Nat} {D : Dk} {L : Lg} {rows : List (List Int)} {v : Value} {gk t : Nat} {B : Array Value} (h : LK W w gd gl D L rows v gk B t) (hb : Below W.heap.size W W') : LK W' w gd gl D L rows v gk B t := by
  obtain ⟨⟨okd, okr, h1, h2, h3, h4, h5, h6, h7, hk⟩, hB⟩ := h
  exact ⟨⟨okd, okr, h1.below hb, (hb.block gl (blk_lt h2)).trans h2, Kd.R_below h3 hb, h4, fun k hk => ⟨(h5 k hk).1, Nat.lt_of_lt_of_le (h5 k hk).2.1 hb.size, (h5 k hk).2.2⟩, fun k hk => ⟨(h6 k hk).1, Nat.lt_of_lt_of_le (h6 k hk).2.1 hb.size, (h6 k hk).2.2⟩, h7, hk.below hb⟩, below_step hB hb⟩
/-- The rows are forgotten. -/
theorem LK.norows {W w : World} {gd gl : Nat} {D : Dk} {L : Lg} {rows : List (List Int)} {v : Value} {gk t : Nat} {B : Array Value} (h : LK W w gd gl D L rows v gk B t) : LK W w gd gl D L [] (.slice none 0 0) gk B t := by
  obtain ⟨⟨okd, okr, h1, h2, h3, h4, h5, h6, h7, hk⟩, hB⟩ := h
  exact ⟨⟨okd, fun _ => False, h1, h2, Kd.R_nil _ _ _ _ _, fun _ _ h => h, h5, fun _ h => h.elim, h7, hk.norows⟩, hB⟩
theorem LK.rows_slice {W w : World} {gd gl : Nat} {D : Dk} {L : Lg} {rows : List (List Int)} {v : Value} {gk t : Nat} {B : Array Value} (h : LK W w gd gl D L rows v gk B t) : ∃ A c, v = .slice A rows.length c ∧ rows.length ≤ c ∧ Kd.C (Kd.slice 5 (Kd.int .u8)) W A rows.length rows := by
  obtain ⟨⟨okd, okr, h1, h2, h3, h4, h5, h6, h7, hk⟩, hB⟩ := h
  obtain ⟨A, c, rfl⟩ := Kd.R_slice h3
  obtain ⟨_, hc, hC⟩ := Kd.R_reads' h3
  refine ⟨A, c, rfl, hc, hC.1, hC.2.1, fun hp => ?_⟩
  obtain ⟨ad, he, hcell⟩ := hC.2.2 hp
  refine ⟨ad, he, fun j p hj => ?_⟩
  obtain ⟨cs, hl, hK, hcc⟩ := hcell j p hj
  exact ⟨cs, hl, (Kd.slice 5 (Kd.int .u8)).K_below hB hK, hcc⟩
/-- A row is added to those that are collected. -/
theorem LK.rows_R {W w : World} {gd gl : Nat} {D : Dk} {L : Lg} {rows : List (List Int)} {v : Value} {gk t : Nat} {B : Array Value} (h : LK W w gd gl D L rows v gk B t) : ∃ okr : Nat → Prop, Kd.R (KR w) 22 W w.heap.size okr v rows ∧ (∀ k, okr k → k < W.heap.size) ∧ ∀ (W' : World) (v' : Value) (rows' : List (List Int)), Kd.R (KR w) 22 W' w.heap.size (fun k => okr k ∨ W.heap.size ≤ k) v' rows' → Below w.heap.size w W' → W.grownBy W' v.ownBlock → LK W' w gd gl D L rows' v' gk B t := by
  obtain ⟨⟨okd, okr, h1, h2, h3, h4, h5, h6, h7, hk⟩, hB⟩ := h
  refine ⟨okr, h3, fun k hk => (h6 k hk).2.1, fun W' v' rows' hR hb hg => ⟨⟨okd, fun k => (okr k ∨ W.heap.size ≤ k) ∧ k < W'.heap.size, h1.move (fun k hk hl => hg.block k hl (fun e => h4 k hk (h3.1 k e.symm))), (hg.block gl (blk_lt h2) (fun e => (h6 gl (h3.1 gl e.symm)).2.2 rfl)).trans h2, Kd.R_mono (Kd.R_bound hR) (fun k hk => ⟨hk.1, hk.2.2.1⟩), fun k hk hr => ?_, fun k hk => ⟨(h5 k hk).1, Nat.lt_of_lt_of_le (h5 k hk).2.1 hg.size, (h5 k hk).2.2⟩, fun k hk => ⟨?_, hk.2, fun e => ?_⟩, h7, ⟨hk.1, fun h => by rcases h.1 with h | h; exact hk.2.1 h; exact absurd hk.2.2.2.1 (Nat.not_lt.2 h), hk.2.2.1, Nat.lt_of_lt_of_le hk.2.2.2.1 hg.size, (hg.block gk hk.2.2.2.1 (fun e => hk.2.1 (h3.1 gk e.symm))).trans hk.2.2.2.2⟩⟩, hb⟩⟩
  · rcases hr.1 with h | h
    · exact h4 k hk h
    · exact absurd (h5 k hk).2.1 (Nat.not_lt.2 h)
  · rcases hk.1 with h | h
    · exact (h6 k h).1
    · exact Nat.le_trans hB.size h
  · rcases hk.1 with h | h
    · exact (h6 k h).2.2 e
    · exact absurd (blk_lt h2) (by rw [← e]; exact Nat.not_lt.2 h)
theorem LK.step {W W' w : World} {gd gl : Nat} {D' : Dk} {L L' : Lg} {rows : List (List Int)} {v : Value} {gk t : Nat} {B : Array Value} {okd okr : Nat → Prop} (h3 : Kd.R (KR w) 22 W w.heap.size okr v rows) (h2 : IsL W gl gd L) (h4 : ∀ k, okd k → ¬ okr k) (h5 : ∀ k, okd k → w.heap.size ≤ k ∧ k < W.heap.size ∧ k ≠ gl) (h6 : ∀ k, okr k → w.heap.size ≤ k ∧ k < W.heap.size ∧ k ≠ gl) (h7 : w.heap.size ≤ gl) (hB : Below w.heap.size w W) (hk : KP W okd okr gl gk B t)
    (hd : IsD W' (fun k => okd k ∨ W.heap.size ≤ k) gd D') (hL : IsL W' gl gd L') (hf : Fr (fun k => (okd k ∨ W.heap.size ≤ k) ∨ k = gl) W W') : LK W' w gd gl D' L' rows v gk B t := by
  have hs := hf.2.2.2.1
  refine ⟨⟨_, okr, hd.bound, hL, Kd.R_step h3 (fun k hk hl => hf.2.2.2.2 k hl (fun h => ?_)), fun k hk hr => ?_, fun k hk => ⟨?_, hk.2, fun e => ?_⟩, fun k hk => ⟨(h6 k hk).1, Nat.lt_of_lt_of_le (h6 k hk).2.1 hs, (h6 k hk).2.2⟩, h7, hk.step hf hs⟩, hf.below' hB (fun k hk => ?_)⟩
  · rcases h with (h | h) | h
    · exact h4 k h hk
    · exact absurd hl (Nat.not_lt.2 h)
    · exact (h6 k hk).2.2 h
  · rcases hk.1 with h | h
    · exact h4 k h hr
    · exact absurd (h6 k hr).2.1 (Nat.not_lt.2 h)
  · rcases hk.1 with h | h
    · exact (h5 k h).1
    · exact Nat.le_trans hB.size h
  · rcases hk.1 with h | h
    · exact (h5 k h).2.2 e
    · exact absurd (blk_lt h2) (by rw [← e]; exact Nat.not_lt.2 h)
  · rcases hk with (h | h) | h
    · exact (h5 k h).1
    · exact Nat.le_trans hB.size h
    · rw [h]; exact h7
theorem LK.add {W w : World} {gd gl : Nat} {D : Dk} {L : Lg} {rows : List (List Int)} {v : Value} {gk t : Nat} {B : Array Value} (h : LK W w gd gl D L rows v gk B t) (A : Option Addr) (c : Nat) (row : List Int) (N : Int) (hG : D.G N) (hN : N < 900000) (hLG : L.G 900000) (hC : Kd.C (Kd.int .u8) W A row.length row) (hc : row.length ≤ c) (hl : row.length ≤ 100000000) :
    Calls Try.prog 40 #[.pointer (some ⟨gl, 0, none⟩), .slice A row.length c] W fun e w' => e = .returned (.int .i64 (adE D L row)) ∧ LK w' w gd gl (adD D L row) (adL D L row) rows v gk B t := by
  obtain ⟨⟨okd, okr, h1, h2, h3, h4, h5, h6, h7, hk⟩, hB⟩ := h
  refine (ladd gd gl (fun k => okd k ∨ W.heap.size ≤ k) D L A c row N W (h1.mono (fun _ => .inl)) h2 (fun hk => by rcases hk with hk | hk; exact (h5 _ hk).2.2 rfl; exact absurd (blk_lt h2) (Nat.not_lt.2 hk)) hG hN hLG hC hc hl (fun k hk => .inr hk)).mono ?_
  rintro e w' ⟨he, hd, hL, hf⟩
  exact ⟨he, LK.step h3 h2 h4 h5 h6 h7 hB hk hd hL hf⟩
theorem LK.save {W w : World} {gd gl : Nat} {D : Dk} {L : Lg} {rows : List (List Int)} {v : Value} {gk t : Nat} {B : Array Value} (h : LK W w gd gl D L rows v gk B t) (A : Option Addr) (c : Nat) (row : List Int) (N : Int) (hG : D.G N) (hN : N < 900000) (hLG : L.G 900000) (hC : Kd.C (Kd.int .u8) W A row.length row) (hl : row.length ≤ 100000000) :
    Calls Try.prog 42 #[.pointer (some ⟨gl, 0, none⟩), .slice A row.length c] W fun e w' => e = .returned (.int .i64 (svE D (1 - L.side) (L.gen + 1) row)) ∧ LK w' w gd gl (svD D (1 - L.side) (L.gen + 1) row) (saL D L row) rows v gk B t := by
  obtain ⟨⟨okd, okr, h1, h2, h3, h4, h5, h6, h7, hk⟩, hB⟩ := h
  refine (lsave gd gl (fun k => okd k ∨ W.heap.size ≤ k) D L A c row N W (h1.mono (fun _ => .inl)) h2 (fun hk => by rcases hk with hk | hk; exact (h5 _ hk).2.2 rfl; exact absurd (blk_lt h2) (Nat.not_lt.2 hk)) hG hN hLG hC hl (fun k hk => .inr hk)).mono ?_
  rintro e w' ⟨he, hd, hL, hf⟩
  exact ⟨he, LK.step h3 h2 h4 h5 h6 h7 hB hk hd hL hf⟩
theorem LK.arm {W w : World} {gd gl : Nat} {D : Dk} {L : Lg} {rows : List (List Int)} {v : Value} {gk t : Nat} {B : Array Value} (h : LK W w gd gl D L rows v gk B t) (x y : Int) :
    Calls Try.prog 18 #[.pointer (some ⟨gd, 0, none⟩), .agg #[.int .i64 x, .int .i64 y]] W fun e w' => e = .returned (.tuple #[]) ∧ LK w' w gd gl (D.arm x y) L rows v gk B t := by
  obtain ⟨⟨okd, okr, h1, h2, h3, h4, h5, h6, h7, hk⟩, hB⟩ := h
  refine (tarm gd (fun k => okd k ∨ W.heap.size ≤ k) D x y W (h1.mono (fun _ => .inl))).mono ?_
  rintro e w' ⟨he, hd, hf⟩
  exact ⟨he, LK.step h3 h2 h4 h5 h6 h7 hB hk hd ((hf.2.2.2.2 gl (blk_lt h2) (fun hk => by rcases hk with hk | hk; exact (h5 _ hk).2.2 rfl; exact absurd (blk_lt h2) (Nat.not_lt.2 hk))).trans h2) (hf.mono (fun k _ hk => .inl hk))⟩
theorem LK.restart {W w : World} {gd gl : Nat} {D : Dk} {L : Lg} {rows : List (List Int)} {v : Value} {gk t : Nat} {B : Array Value} (h : LK W w gd gl D L rows v gk B t) (hw : D.s0 ≤ D.b0.length ∧ D.s1 ≤ D.b1.length) :
    Calls Try.prog 22 #[.pointer (some ⟨gd, 0, none⟩)] W fun e w' => e = .returned (.tuple #[]) ∧ LK w' w gd gl D.restart L rows v gk B t := by
  obtain ⟨⟨okd, okr, h1, h2, h3, h4, h5, h6, h7, hk⟩, hB⟩ := h
  refine (trestart gd (fun k => okd k ∨ W.heap.size ≤ k) D W (h1.mono (fun _ => .inl)) hw).mono ?_
  rintro e w' ⟨he, hd, hf⟩
  exact ⟨he, LK.step h3 h2 h4 h5 h6 h7 hB hk hd ((hf.2.2.2.2 gl (blk_lt h2) (fun hk => by rcases hk with hk | hk; exact (h5 _ hk).2.2 rfl; exact absurd (blk_lt h2) (Nat.not_lt.2 hk))).trans h2) (hf.mono (fun k _ hk => .inl hk))⟩
theorem LK.look {W w : World} {gd gl : Nat} {D : Dk} {L : Lg} {rows : List (List Int)} {v : Value} {gk t : Nat} {B : Array Value} (h : LK W w gd gl D L rows v gk B t) (hG : D.b0.length ≤ 1000000 ∧ D.b1.length ≤ 1000000) (hI : D.IB) :
    Calls Try.prog 34 #[.pointer (some ⟨gd, 0, none⟩)] W fun e w' => ∃ A1 c1 A2 c2, e = .returned (.tuple #[.int .i64 (lkG D), .int .i64 (lkS D), .slice A1 (heldS (lkB D)).length c1, .slice A2 (heldR (lkB D)).length c2, .bool (decide (lkG D ≠ 0))]) ∧ Kd.C (Kd.int .u8) w' A1 (heldS (lkB D)).length (heldS (lkB D)) ∧ Kd.C (Kd.slice 5 (Kd.int .u8)) w' A2 (heldR (lkB D)).length (heldR (lkB D)) ∧ Below W.heap.size W w' := by
  obtain ⟨⟨okd, okr, h1, h2, h3, h4, h5, h6, h7, hk⟩, hB⟩ := h
  refine (llook gd okd D W h1 hG hI).mono ?_
  rintro e w' ⟨v1, v2, rfl, hh, hb⟩
  obtain ⟨A1, c1, A2, c2, e1, e2, hx1, hx2, hx3, hx4⟩ := hh.v.out
  subst e1 e2
  exact ⟨A1, c1, A2, c2, rfl, hx1, hx2, hb⟩
theorem LK.rowsN {W w : World} {gd gl : Nat} {D : Dk} {L : Lg} {rows : List (List Int)} {v : Value} {gk t : Nat} {B : Array Value} (h : LK W w gd gl D L rows v gk B t) : Calls Try.prog 44 #[.pointer (some ⟨gl, 0, none⟩)] W fun e w' => e = .returned (.int .i64 L.rows) ∧ Below W.heap.size W w' := by
  obtain ⟨⟨okd, okr, h1, h2, h3, h4, h5, h6, h7, hk⟩, hB⟩ := h
  exact lrows gl gd L W h2
/-- Opening a deck that holds something: its log is new, stale; what was collected stays. -/
theorem LK.open {W w : World} {gd gl : Nat} {D : Dk} {L : Lg} {rows : List (List Int)} {v : Value} {gk t : Nat} {B : Array Value} (h : LK W w gd gl D L rows v gk B t) (N : Int) (hI : D.IB) (hG : D.G N) (hN : N < 900000) (hkg : lkG D ≠ 0) :
    Calls Try.prog 37 #[.pointer (some ⟨gd, 0, none⟩), .slice none 0 0] W fun e w' => ∃ gl2 A1 c1 A2 c2, e = .returned (.tuple #[.pointer (some ⟨gl2, 0, none⟩), .slice A1 (heldS (lkB D)).length c1, .slice A2 (heldR (lkB D)).length c2, .int .i64 0]) ∧ LK w' w gd gl2 D ⟨lkS D, lkG D, (heldR (lkB D)).length, true⟩ rows v gk B t ∧ Kd.C (Kd.int .u8) w' A1 (heldS (lkB D)).length (heldS (lkB D)) ∧ Kd.C (Kd.slice 5 (Kd.int .u8)) w' A2 (heldR (lkB D)).length (heldR (lkB D)) := by
  obtain ⟨⟨okd, okr, h1, h2, h3, h4, h5, h6, h7, hk⟩, hB⟩ := h
  obtain ⟨o1, o2, o3, o4, o5⟩ := op_held (fresh := []) hkg
  refine (lopen gd (fun k => okd k ∨ W.heap.size ≤ k) D none 0 [] N W (h1.mono (fun _ => .inl)) hI hG hN (Kd.C_nil _ _) (Nat.zero_le _) (fun k hk => .inr hk) (fun ad e => by cases e)).mono ?_
  intro e w' hop
  obtain ⟨gl2, M, v1, v2, he, hf, hM, hgl, hd, hL, hv⟩ := OpenedV.inv hop o1
  rw [o2] at hd
  rw [o5] at hL
  rw [o3, o4] at hv
  obtain ⟨A1, c1, A2, c2, e1, e2, hx1, hx2, _, _⟩ := hv.out
  subst e1 e2
  have hs := hf.2.2.2.1
  refine ⟨gl2, A1, c1, A2, c2, he, ⟨⟨_, okr, hd, hL, Kd.R_step h3 (fun k hk hl => hf.2.2.2.2 k hl (fun h => ?_)), fun k hk hr => ?_, fun k hk => ⟨?_, ?_, fun e => ?_⟩, fun k hk => ⟨(h6 k hk).1, Nat.lt_of_lt_of_le (h6 k hk).2.1 hs, fun e => ?_⟩, ?_, ⟨fun e => by rcases e.1 with e | e; exact hk.1 e; exact absurd hk.2.2.2.1 (Nat.not_lt.2 e), hk.2.1, by have := hk.2.2.2.1; omega, Nat.lt_of_lt_of_le hk.2.2.2.1 hs, (hf.2.2.2.2 gk hk.2.2.2.1 (fun e => by rcases e with e | e; exact hk.1 e; exact absurd hk.2.2.2.1 (Nat.not_lt.2 e))).trans hk.2.2.2.2⟩⟩, hf.below' hB (fun k hk => ?_)⟩, hx1, hx2⟩
  · rcases h with h | h
    · exact h4 k h hk
    · exact absurd hl (Nat.not_lt.2 h)
  · rcases hk.1 with h | h
    · exact h4 k h hr
    · exact absurd (h6 k hr).2.1 (Nat.not_lt.2 h)
  · rcases hk.1 with h | h
    · exact (h5 k h).1
    · exact Nat.le_trans hB.size h
  · have := blk_lt hL; have := hk.2; omega
  · have := hk.2; omega
  · have := (h6 k hk).2.1; omega
  · have := hB.size; omega
  · rcases hk with h | h
    · exact (h5 k h).1
    · exact Nat.le_trans hB.size h

theorem LK.drop {W w : World} {gd gl : Nat} {D : Dk} {L : Lg} {rows : List (List Int)} {v : Value} {gk t : Nat} {B : Array Value} (h : LK W w gd gl D L rows v gk B t) : LT W w gd gl D L rows v := by
  obtain ⟨⟨okd, okr, h1, h2, h3, h4, h5, h6, h7, _⟩, hB⟩ := h
  exact ⟨⟨okd, okr, h1, h2, h3, h4, h5, h6, h7⟩, hB⟩
theorem LT.keep {W w : World} {gd gl : Nat} {D : Dk} {L : Lg} {rows : List (List Int)} {v : Value} (h : LT W w gd gl D L rows v) (B : Array Value) (t : Nat) : LK (W.alloc (.cells B t)) w gd gl D L rows v W.heap.size B t := by
  have hn := h.below (below_alloc (Below.refl _ _) (.cells B t))
  obtain ⟨⟨okd, okr, h1, h2, h3, h4, h5, h6, h7⟩, hB⟩ := h
  obtain ⟨⟨_, _, _, _, _, _, _, _, _⟩, hB'⟩ := hn
  have hb := below_alloc (Below.refl W.heap.size W) (.cells B t)
  refine ⟨⟨okd, okr, h1.below hb, (hb.block gl (blk_lt h2)).trans h2, Kd.R_below h3 hb, h4, fun k hk => ⟨(h5 k hk).1, Nat.lt_of_lt_of_le (h5 k hk).2.1 hb.size, (h5 k hk).2.2⟩, fun k hk => ⟨(h6 k hk).1, Nat.lt_of_lt_of_le (h6 k hk).2.1 hb.size, (h6 k hk).2.2⟩, h7, ?_⟩, hB'⟩
  exact ⟨fun e => Nat.lt_irrefl _ (h5 _ e).2.1, fun e => Nat.lt_irrefl _ (h6 _ e).2.1, Nat.ne_of_gt (blk_lt h2), by simp, blk_new W _⟩
theorem LK.cells {W w : World} {gd gl : Nat} {D : Dk} {L : Lg} {rows : List (List Int)} {v : Value} {gk t : Nat} {a b c d : Value} (h : LK W w gd gl D L rows v gk #[a, b, c, d] t) : W.cell? ⟨gk, 0, none⟩ = some a ∧ W.cell? ⟨gk, 1, none⟩ = some b ∧ W.cell? ⟨gk, 2, none⟩ = some c ∧ W.cell? ⟨gk, 3, none⟩ = some d := by
  obtain ⟨⟨okd, okr, h1, h2, h3, h4, h5, h6, h7, hk⟩, hB⟩ := h
  exact ⟨blk_cell hk.2.2.2.2 0, blk_cell hk.2.2.2.2 1, blk_cell hk.2.2.2.2 2, blk_cell hk.2.2.2.2 3⟩
theorem LK.rows_KR {W w : World} {gd gl : Nat} {D : Dk} {L : Lg} {rows : List (List Int)} {A : Option Addr} {n c : Nat} {gk t : Nat} {B : Array Value} (h : LK W w gd gl D L rows (.slice A n c) gk B t) : (KR w).C W A n rows := h.drop.rows_KR
end Go.Proofs.Ythaeppjhmjpecaa.B
