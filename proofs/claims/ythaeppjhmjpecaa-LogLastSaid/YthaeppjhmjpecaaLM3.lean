/- Generations. One deck, its log, and collected rows, apart from each other: contracts that keep this. What a side that bears a log's records holds; plain laws on adding, saving, opening. -/
import Derived.Test.YthaeppjhmjpecaaLM2
namespace Go.Proofs.Ythaeppjhmjpecaa.B
open Go.RowKit Go.Proofs.YthaeppjhmjpecaaW.PrintWords Go.Proofs.YthaeppjhmjpecaaW.PrintLast Go.Proofs.YthaeppjhmjpecaaW.PrintMore
attribute [local go_sem] max2_int min2_int max_two min_two max_three min_three max_four min_four
set_option linter.unusedVariables false
set_option linter.unusedSimpArgs false
/-- The generation that a record of a number bears. -/
def gg (a : Int) : Int := if a < 1 then 0 else if 4611686018427387904 < a then 0 else a
theorem gg_no {a : Int} (h : a < 1 ∨ 4611686018427387904 < a) : gg a = 0 := by
  unfold gg
  rcases h with h | h
  · rw [if_pos h]
  · by_cases h1 : a < 1
    · rw [if_pos h1]
    · rw [if_neg h1, if_pos h]
theorem gg_yes {a : Int} (h : 1 ≤ a) (h1 : a ≤ 4611686018427387904) : gg a = a := by
  unfold gg; rw [if_neg (by omega), if_neg (by omega)]
theorem gen_rec {a : Int} (h : -9223372036854775808 ≤ a ∧ a < 9223372036854775808) (s : List Int) (l : List (List Int)) : genL ((puts [a] ++ s) :: l) = gg a := by
  have hl : (puts [a] ++ s).length = 8 + s.length := by rw [List.length_append]; rfl
  have ht : dec8 ((puts [a] ++ s).take 8) = a := by rw [List.take_left' (show (puts [a]).length = 8 from rfl), puts_one]; exact dec8_be8 h.1 h.2
  have h8 : ¬ (puts [a] ++ s).length < 8 := by omega
  by_cases h1 : a < 1
  · rw [gen_low h8 (by rw [ht]; exact h1), gg_no (.inl h1)]
  by_cases h2 : 4611686018427387904 < a
  · rw [gen_high h8 (by rw [ht]; exact h1) (by rw [ht]; exact h2), gg_no (.inr h2)]
  · rw [gen_yes h8 (by rw [ht]; exact h1) (by rw [ht]; exact h2), ht, gg_yes (by omega) (by omega)]
theorem scan_svB {a : Int} {s : List Int} (hs : 8 + s.length ≤ 60000) : (scan (svB a s)).1 = [puts [a] ++ s] := by
  have h := scan_all [puts [a] ++ s] (fun r hr => by rw [List.mem_singleton.1 hr, List.length_append]; show 8 + s.length ≤ 60000; exact hs)
  rw [show recs [puts [a] ++ s] = svB a s from by rw [recs_cons]; show recp _ ++ [] = _; rw [List.append_nil]; rfl] at h
  rw [h]
theorem heldG_svB {a : Int} (h : -9223372036854775808 ≤ a ∧ a < 9223372036854775808) {s : List Int} (hs : 8 + s.length ≤ 60000) : heldG (svB a s) = gg a := by
  unfold heldG; rw [scan_svB hs]; exact gen_rec h s []
theorem heldS_svB {a : Int} (h : -9223372036854775808 ≤ a ∧ a < 9223372036854775808) {s : List Int} (hs : 8 + s.length ≤ 60000) (hg : gg a ≠ 0) : heldS (svB a s) = s := by
  unfold heldS snapL; rw [scan_svB hs, if_neg (by rw [gen_rec h]; exact hg)]
  show (puts [a] ++ s).drop 8 = s
  exact List.drop_left' rfl
theorem heldR_svB {a : Int} {s : List Int} (hs : 8 + s.length ≤ 60000) : heldR (svB a s) = [] := by
  unfold heldR rowsL; rw [scan_svB hs]; split <;> rfl
theorem lit_byte (n : Int) : Reps (fun (x : Int) (cs : List Value) => cs = [Value.int .u8 x]) 1 [n] [.int .u8 n] := (Reps.none _ _).snoc (cs := []) (ps := []) rfl rfl
theorem svB_len1 (a x : Int) : (svB a [x]).length = 11 := svB_length (snap := [x]) (show 8 + 1 ≤ 60000 by decide)
theorem gens_deck (a b : Int) (ha : -9223372036854775808 ≤ a ∧ a < 9223372036854775808) (hb : -9223372036854775808 ≤ b ∧ b < 9223372036854775808) :
    Dk.app ⟨100, [], 0, [], 0, 0, 0, false, false, 0⟩ 0 (svB a [120]) = ⟨100, svB a [120], 0, [], 0, 0, 0, false, false, 1⟩ ∧ Dk.app ⟨100, svB a [120], 0, [], 0, 0, 0, false, false, 1⟩ 1 (svB b [121]) = ⟨100, svB a [120], 0, svB b [121], 0, 0, 0, false, false, 2⟩ := by
  have h1 := svB_len1 a 120
  have h2 := svB_len1 b 121
  exact ⟨(app_ok0 (D := ⟨100, [], 0, [], 0, 0, 0, false, false, 0⟩) (l := svB a [120]) rfl (show ¬ (100 : Int) - ((0 : Nat) : Int) < ((svB a [120]).length : Int) by omega) rfl).2, (app_ok1 (D := ⟨100, svB a [120], 0, [], 0, 0, 0, false, false, 1⟩) (l := svB b [121]) rfl (show ¬ (100 : Int) - ((0 : Nat) : Int) < ((svB b [121]).length : Int) by omega) rfl).2⟩
/-- What two records of numbers hold. -/
theorem gens_look (a b : Int) (ha : -9223372036854775808 ≤ a ∧ a < 9223372036854775808) (hb : -9223372036854775808 ≤ b ∧ b < 9223372036854775808) (D : Dk) (hD : D = ⟨100, svB a [120], 0, svB b [121], 0, 0, 0, false, false, 2⟩) :
    (gg a < gg b → lkG D = gg b ∧ lkS D = 1 ∧ heldS (lkB D) = [121]) ∧ (¬ gg a < gg b → lkG D = gg a ∧ lkS D = 0 ∧ (gg a ≠ 0 → heldS (lkB D) = [120])) := by
  have b0 : D.b0 = svB a [120] := by rw [hD]
  have b1 : D.b1 = svB b [121] := by rw [hD]
  have k : 8 + ([120] : List Int).length ≤ 60000 := by decide
  have k' : 8 + ([121] : List Int).length ≤ 60000 := by decide
  have e0 : heldG D.b0 = gg a := by rw [b0]; exact heldG_svB ha k
  have e1 : heldG D.b1 = gg b := by rw [b1]; exact heldG_svB hb k'
  refine ⟨fun h => ?_, fun h => ?_⟩
  · obtain ⟨h1, h2, h3⟩ := lk_one (D := D) (by rw [e0, e1]; exact h)
    have hg : gg b ≠ 0 := by have := heldG_bd D.b0; rw [e0] at this; omega
    exact ⟨by rw [h3, e1], h1, by rw [h2, b1]; exact heldS_svB hb k' hg⟩
  · obtain ⟨h1, h2, h3⟩ := lk_zero (D := D) (by rw [e0, e1]; exact h)
    exact ⟨by rw [h3, e0], h1, fun hg => by rw [h2, b0]; exact heldS_svB ha k hg⟩
theorem str120 : strOfNums [120] = { data := #[120] } := by decide
theorem str121 : strOfNums [121] = { data := #[121] } := by decide
theorem G_mk {r : Int} {b0 b1 : List Int} {n : Int} (h0 : (b0.length : Int) ≤ r) (h1 : (b1.length : Int) ≤ r) (hr : r ≤ 200000) (hn : 0 ≤ n) : (Dk.mk r b0 0 b1 0 0 0 false false n).G n :=
  ⟨Nat.zero_le _, Nat.zero_le _, h0, h1, hr, hn, Int.le_refl _, show (-9223372036854775808 : Int) ≤ 0 by decide, show (0 : Int) < 9223372036854775808 by decide⟩
theorem gens_G (a b : Int) : (Dk.mk 100 (svB a [120]) 0 (svB b [121]) 0 0 0 false false 2).G 2 ∧ (Dk.mk 100 (svB a [120]) 0 [] 0 0 0 false false 1).G 1 ∧ (Dk.mk 100 [] 0 [] 0 0 0 false false 0).G 0 := by
  have h1 := svB_len1 a 120
  have h2 := svB_len1 b 121
  exact ⟨G_mk (by omega) (by omega) (by decide) (by decide), G_mk (by omega) (by decide) (by decide) (by decide), G_mk (by decide) (by decide) (by decide) (by decide)⟩

/-- Rows that were read in w: a slice of such slices. -/
def KR (w : World) : Kd (List Int) := Kd.fixed (Kd.slice 5 (Kd.int .u8)) w
structure LT (W w : World) (gd gl : Nat) (D : Dk) (L : Lg) (rows : List (List Int)) (v : Value) : Prop where
  mk ::
  out : ∃ okd okr : Nat → Prop, IsD W okd gd D ∧ IsL W gl gd L ∧ Kd.R (KR w) 22 W w.heap.size okr v rows ∧ (∀ k, okd k → ¬ okr k) ∧ (∀ k, okd k → w.heap.size ≤ k ∧ k < W.heap.size ∧ k ≠ gl) ∧ (∀ k, okr k → w.heap.size ≤ k ∧ k < W.heap.size ∧ k ≠ gl) ∧ w.heap.size ≤ gl
  base : Below w.heap.size w W
theorem LT.below {W W' w : World} {gd gl : Nat} {D : Dk} {L : Lg} {rows : List (List Int)} {v : Value} (h : LT W w gd gl D L rows v) (hb : Below W.heap.size W W') : LT W' w gd gl D L rows v := by
  obtain ⟨⟨okd, okr, h1, h2, h3, h4, h5, h6, h7⟩, hB⟩ := h
  exact ⟨⟨okd, okr, h1.below hb, (hb.block gl (blk_lt h2)).trans h2, Kd.R_below h3 hb, h4, fun k hk => ⟨(h5 k hk).1, Nat.lt_of_lt_of_le (h5 k hk).2.1 hb.size, (h5 k hk).2.2⟩, fun k hk => ⟨(h6 k hk).1, Nat.lt_of_lt_of_le (h6 k hk).2.1 hb.size, (h6 k hk).2.2⟩, h7⟩, below_step hB hb⟩
/-- No rows yet. -/
theorem LT.new {W w : World} {gd gl : Nat} {D : Dk} {L : Lg} {okd : Nat → Prop} (h1 : IsD W okd gd D) (h2 : IsL W gl gd L) (h5 : ∀ k, okd k → w.heap.size ≤ k ∧ k ≠ gl) (h7 : w.heap.size ≤ gl) (hB : Below w.heap.size w W) : LT W w gd gl D L [] (.slice none 0 0) :=
  ⟨⟨_, fun _ => False, h1.bound, h2, Kd.R_nil _ _ _ _ _, fun _ _ h => h, fun k hk => ⟨(h5 k hk.1).1, hk.2, (h5 k hk.1).2⟩, fun _ h => h.elim, h7⟩, hB⟩
/-- The rows are forgotten. -/
theorem LT.norows {W w : World} {gd gl : Nat} {D : Dk} {L : Lg} {rows : List (List Int)} {v : Value} (h : LT W w gd gl D L rows v) : LT W w gd gl D L [] (.slice none 0 0) := by
  obtain ⟨⟨okd, okr, h1, h2, h3, h4, h5, h6, h7⟩, hB⟩ := h
  exact ⟨⟨okd, fun _ => False, h1, h2, Kd.R_nil _ _ _ _ _, fun _ _ h => h, h5, fun _ h => h.elim, h7⟩, hB⟩
theorem LT.rows_slice {W w : World} {gd gl : Nat} {D : Dk} {L : Lg} {rows : List (List Int)} {v : Value} (h : LT W w gd gl D L rows v) : ∃ A c, v = .slice A rows.length c ∧ rows.length ≤ c ∧ Kd.C (Kd.slice 5 (Kd.int .u8)) W A rows.length rows := by
  obtain ⟨⟨okd, okr, h1, h2, h3, h4, h5, h6, h7⟩, hB⟩ := h
  obtain ⟨A, c, rfl⟩ := Kd.R_slice h3
  obtain ⟨_, hc, hC⟩ := Kd.R_reads' h3
  refine ⟨A, c, rfl, hc, hC.1, hC.2.1, fun hp => ?_⟩
  obtain ⟨ad, he, hcell⟩ := hC.2.2 hp
  refine ⟨ad, he, fun j p hj => ?_⟩
  obtain ⟨cs, hl, hK, hcc⟩ := hcell j p hj
  exact ⟨cs, hl, (Kd.slice 5 (Kd.int .u8)).K_below hB hK, hcc⟩
/-- A row is added to those that are collected. -/
theorem LT.rows_R {W w : World} {gd gl : Nat} {D : Dk} {L : Lg} {rows : List (List Int)} {v : Value} (h : LT W w gd gl D L rows v) : ∃ okr : Nat → Prop, Kd.R (KR w) 22 W w.heap.size okr v rows ∧ (∀ k, okr k → k < W.heap.size) ∧ ∀ (W' : World) (v' : Value) (rows' : List (List Int)), Kd.R (KR w) 22 W' w.heap.size (fun k => okr k ∨ W.heap.size ≤ k) v' rows' → Below w.heap.size w W' → W.grownBy W' v.ownBlock → LT W' w gd gl D L rows' v' := by
  obtain ⟨⟨okd, okr, h1, h2, h3, h4, h5, h6, h7⟩, hB⟩ := h
  refine ⟨okr, h3, fun k hk => (h6 k hk).2.1, fun W' v' rows' hR hb hg => ⟨⟨okd, fun k => (okr k ∨ W.heap.size ≤ k) ∧ k < W'.heap.size, h1.move (fun k hk hl => hg.block k hl (fun e => h4 k hk (h3.1 k e.symm))), (hg.block gl (blk_lt h2) (fun e => (h6 gl (h3.1 gl e.symm)).2.2 rfl)).trans h2, Kd.R_mono (Kd.R_bound hR) (fun k hk => ⟨hk.1, hk.2.2.1⟩), fun k hk hr => ?_, fun k hk => ⟨(h5 k hk).1, Nat.lt_of_lt_of_le (h5 k hk).2.1 hg.size, (h5 k hk).2.2⟩, fun k hk => ⟨?_, hk.2, fun e => ?_⟩, h7⟩, hb⟩⟩
  · rcases hr.1 with h | h
    · exact h4 k hk h
    · exact absurd (h5 k hk).2.1 (Nat.not_lt.2 h)
  · rcases hk.1 with h | h
    · exact (h6 k h).1
    · exact Nat.le_trans hB.size h
  · rcases hk.1 with h | h
    · exact (h6 k h).2.2 e
    · exact absurd (blk_lt h2) (by rw [← e]; exact Nat.not_lt.2 h)
theorem LT.step {W W' w : World} {gd gl : Nat} {D' : Dk} {L L' : Lg} {rows : List (List Int)} {v : Value} {okd okr : Nat → Prop} (h3 : Kd.R (KR w) 22 W w.heap.size okr v rows) (h2 : IsL W gl gd L) (h4 : ∀ k, okd k → ¬ okr k) (h5 : ∀ k, okd k → w.heap.size ≤ k ∧ k < W.heap.size ∧ k ≠ gl) (h6 : ∀ k, okr k → w.heap.size ≤ k ∧ k < W.heap.size ∧ k ≠ gl) (h7 : w.heap.size ≤ gl) (hB : Below w.heap.size w W)
    (hd : IsD W' (fun k => okd k ∨ W.heap.size ≤ k) gd D') (hL : IsL W' gl gd L') (hf : Fr (fun k => (okd k ∨ W.heap.size ≤ k) ∨ k = gl) W W') : LT W' w gd gl D' L' rows v := by
  have hs := hf.2.2.2.1
  refine ⟨⟨_, okr, hd.bound, hL, Kd.R_step h3 (fun k hk hl => hf.2.2.2.2 k hl (fun h => ?_)), fun k hk hr => ?_, fun k hk => ⟨?_, hk.2, fun e => ?_⟩, fun k hk => ⟨(h6 k hk).1, Nat.lt_of_lt_of_le (h6 k hk).2.1 hs, (h6 k hk).2.2⟩, h7⟩, hf.below' hB (fun k hk => ?_)⟩
  · rcases h with (h | h) | h
    · exact h4 k h hk
    · exact absurd hl (Nat.not_lt.2 h)
    · exact (h6 k hk).2.2 h
  · rcases hk.1 with h | h
    · exact h4 k h hr
    · exact absurd (h6 k hr).2.1 (Nat.not_lt.2 h)
  · rcases hk.1 with h | h
    · exact (h5 k h).1
    · exact Nat.le_trans hB.size h
  · rcases hk.1 with h | h
    · exact (h5 k h).2.2 e
    · exact absurd (blk_lt h2) (by rw [← e]; exact Nat.not_lt.2 h)
  · rcases hk with (h | h) | h
    · exact (h5 k h).1
    · exact Nat.le_trans hB.size h
    · rw [h]; exact h7
theorem LT.add {W w : World} {gd gl : Nat} {D : Dk} {L : Lg} {rows : List (List Int)} {v : Value} (h : LT W w gd gl D L rows v) (A : Option Addr) (c : Nat) (row : List Int) (N : Int) (hG : D.G N) (hN : N < 900000) (hLG : L.G 900000) (hC : Kd.C (Kd.int .u8) W A row.length row) (hc : row.length ≤ c) (hl : row.length ≤ 100000000) :
    Calls Try.prog 40 #[.pointer (some ⟨gl, 0, none⟩), .slice A row.length c] W fun e w' => e = .returned (.int .i64 (adE D L row)) ∧ LT w' w gd gl (adD D L row) (adL D L row) rows v := by
  obtain ⟨⟨okd, okr, h1, h2, h3, h4, h5, h6, h7⟩, hB⟩ := h
  refine (ladd gd gl (fun k => okd k ∨ W.heap.size ≤ k) D L A c row N W (h1.mono (fun _ => .inl)) h2 (fun hk => by rcases hk with hk | hk; exact (h5 _ hk).2.2 rfl; exact absurd (blk_lt h2) (Nat.not_lt.2 hk)) hG hN hLG hC hc hl (fun k hk => .inr hk)).mono ?_
  rintro e w' ⟨he, hd, hL, hf⟩
  exact ⟨he, LT.step h3 h2 h4 h5 h6 h7 hB hd hL hf⟩
theorem LT.save {W w : World} {gd gl : Nat} {D : Dk} {L : Lg} {rows : List (List Int)} {v : Value} (h : LT W w gd gl D L rows v) (A : Option Addr) (c : Nat) (row : List Int) (N : Int) (hG : D.G N) (hN : N < 900000) (hLG : L.G 900000) (hC : Kd.C (Kd.int .u8) W A row.length row) (hl : row.length ≤ 100000000) :
    Calls Try.prog 42 #[.pointer (some ⟨gl, 0, none⟩), .slice A row.length c] W fun e w' => e = .returned (.int .i64 (svE D (1 - L.side) (L.gen + 1) row)) ∧ LT w' w gd gl (svD D (1 - L.side) (L.gen + 1) row) (saL D L row) rows v := by
  obtain ⟨⟨okd, okr, h1, h2, h3, h4, h5, h6, h7⟩, hB⟩ := h
  refine (lsave gd gl (fun k => okd k ∨ W.heap.size ≤ k) D L A c row N W (h1.mono (fun _ => .inl)) h2 (fun hk => by rcases hk with hk | hk; exact (h5 _ hk).2.2 rfl; exact absurd (blk_lt h2) (Nat.not_lt.2 hk)) hG hN hLG hC hl (fun k hk => .inr hk)).mono ?_
  rintro e w' ⟨he, hd, hL, hf⟩
  exact ⟨he, LT.step h3 h2 h4 h5 h6 h7 hB hd hL hf⟩
theorem LT.arm {W w : World} {gd gl : Nat} {D : Dk} {L : Lg} {rows : List (List Int)} {v : Value} (h : LT W w gd gl D L rows v) (x y : Int) :
    Calls Try.prog 18 #[.pointer (some ⟨gd, 0, none⟩), .agg #[.int .i64 x, .int .i64 y]] W fun e w' => e = .returned (.tuple #[]) ∧ LT w' w gd gl (D.arm x y) L rows v := by
  obtain ⟨⟨okd, okr, h1, h2, h3, h4, h5, h6, h7⟩, hB⟩ := h
  refine (tarm gd (fun k => okd k ∨ W.heap.size ≤ k) D x y W (h1.mono (fun _ => .inl))).mono ?_
  rintro e w' ⟨he, hd, hf⟩
  exact ⟨he, LT.step h3 h2 h4 h5 h6 h7 hB hd ((hf.2.2.2.2 gl (blk_lt h2) (fun hk => by rcases hk with hk | hk; exact (h5 _ hk).2.2 rfl; exact absurd (blk_lt h2) (Nat.not_lt.2 hk))).trans h2) (hf.mono (fun k _ hk => .inl hk))⟩
theorem LT.restart {W w : World} {gd gl : Nat} {D : Dk} {L : Lg} {rows : List (List Int)} {v : Value} (h : LT W w gd gl D L rows v) (hw : D.s0 ≤ D.b0.length ∧ D.s1 ≤ D.b1.length) :
    Calls Try.prog 22 #[.pointer (some ⟨gd, 0, none⟩)] W fun e w' => e = .returned (.tuple #[]) ∧ LT w' w gd gl D.restart L rows v := by
  obtain ⟨⟨okd, okr, h1, h2, h3, h4, h5, h6, h7⟩, hB⟩ := h
  refine (trestart gd (fun k => okd k ∨ W.heap.size ≤ k) D W (h1.mono (fun _ => .inl)) hw).mono ?_
  rintro e w' ⟨he, hd, hf⟩
  exact ⟨he, LT.step h3 h2 h4 h5 h6 h7 hB hd ((hf.2.2.2.2 gl (blk_lt h2) (fun hk => by rcases hk with hk | hk; exact (h5 _ hk).2.2 rfl; exact absurd (blk_lt h2) (Nat.not_lt.2 hk))).trans h2) (hf.mono (fun k _ hk => .inl hk))⟩
theorem LT.look {W w : World} {gd gl : Nat} {D : Dk} {L : Lg} {rows : List (List Int)} {v : Value} (h : LT W w gd gl D L rows v) (hG : D.b0.length ≤ 1000000 ∧ D.b1.length ≤ 1000000) (hI : D.IB) :
    Calls Try.prog 34 #[.pointer (some ⟨gd, 0, none⟩)] W fun e w' => ∃ A1 c1 A2 c2, e = .returned (.tuple #[.int .i64 (lkG D), .int .i64 (lkS D), .slice A1 (heldS (lkB D)).length c1, .slice A2 (heldR (lkB D)).length c2, .bool (decide (lkG D ≠ 0))]) ∧ Kd.C (Kd.int .u8) w' A1 (heldS (lkB D)).length (heldS (lkB D)) ∧ Kd.C (Kd.slice 5 (Kd.int .u8)) w' A2 (heldR (lkB D)).length (heldR (lkB D)) ∧ Below W.heap.size W w' := by
  obtain ⟨⟨okd, okr, h1, h2, h3, h4, h5, h6, h7⟩, hB⟩ := h
  refine (llook gd okd D W h1 hG hI).mono ?_
  rintro e w' ⟨v1, v2, rfl, hh, hb⟩
  obtain ⟨A1, c1, A2, c2, e1, e2, hx1, hx2, hx3, hx4⟩ := hh.v.out
  subst e1 e2
  exact ⟨A1, c1, A2, c2, rfl, hx1, hx2, hb⟩
theorem LT.rowsN {W w : World} {gd gl : Nat} {D : Dk} {L : Lg} {rows : List (List Int)} {v : Value} (h : LT W w gd gl D L rows v) : Calls Try.prog 44 #[.pointer (some ⟨gl, 0, none⟩)] W fun e w' => e = .returned (.int .i64 L.rows) ∧ Below W.heap.size W w' := by
  obtain ⟨⟨okd, okr, h1, h2, h3, h4, h5, h6, h7⟩, hB⟩ := h
  exact lrows gl gd L W h2
/-- A generation, a snapshot, rows: as they lie on a side. -/
def lf (g : Int) (s : List Int) (rows : List (List Int)) : List Int := svB g s ++ recs rows
/-- Sizes that a record takes. -/
def Fit (s : List Int) (rows : List (List Int)) : Prop := 8 + s.length ≤ 60000 ∧ ∀ r ∈ rows, r.length ≤ 60000
theorem lf_recs (g : Int) (s : List Int) (rows : List (List Int)) : lf g s rows = recs ((puts [g] ++ s) :: rows) := by rw [recs_cons]; rfl
theorem fit_all {g : Int} {s : List Int} {rows : List (List Int)} (h : Fit s rows) : ∀ r ∈ (puts [g] ++ s) :: rows, r.length ≤ 60000 := by
  intro r hr
  rcases List.mem_cons.1 hr with rfl | hr
  · rw [List.length_append]; exact h.1
  · exact h.2 r hr
theorem scan_lf {g : Int} {s : List Int} {rows : List (List Int)} (h : Fit s rows) : (scan (lf g s rows)).1 = (puts [g] ++ s) :: rows := by
  rw [lf_recs, scan_all _ (fit_all h)]
theorem lf_nil (g : Int) (s : List Int) : lf g s [] = svB g s := by unfold lf; show _ ++ [] = _; rw [List.append_nil]
theorem lf_snoc (g : Int) (s : List Int) (rows : List (List Int)) (r : List Int) : lf g s (rows ++ [r]) = lf g s rows ++ recp r := by
  unfold lf
  rw [recs_append, List.append_assoc]
  show _ ++ (recs rows ++ (recp r ++ [])) = _
  rw [List.append_nil]
theorem heldG_of {b : List Int} {g : Int} {s : List Int} {rows : List (List Int)} (hb : (scan b).1 = (puts [g] ++ s) :: rows) (hg : 1 ≤ g ∧ g ≤ 4611686018427387904) : heldG b = g ∧ heldS b = s ∧ heldR b = rows := by
  have e : genL ((puts [g] ++ s) :: rows) = g := by rw [gen_rec (by omega)]; exact gg_yes hg.1 hg.2
  have hne : ¬ genL ((puts [g] ++ s) :: rows) = 0 := by rw [e]; omega
  refine ⟨by unfold heldG; rw [hb, e], ?_, ?_⟩
  · unfold heldS snapL; rw [hb, if_neg hne]
    show (puts [g] ++ s).drop 8 = s
    exact List.drop_left' rfl
  · unfold heldR rowsL; rw [hb, if_neg hne]; rfl
theorem heldG_lf {g : Int} {s : List Int} {rows : List (List Int)} (h : Fit s rows) (hg : 1 ≤ g ∧ g ≤ 4611686018427387904) : heldG (lf g s rows) = g ∧ heldS (lf g s rows) = s ∧ heldR (lf g s rows) = rows := heldG_of (scan_lf h) hg
theorem lf_bytes {g : Int} {s : List Int} {rows : List (List Int)} (hs : IsB s) (hr : IsBs rows) : IsB (lf g s rows) := (svB_bytes hs).append (recs_bytes hr)
theorem heldG_nil : heldG [] = 0 := by decide +kernel
theorem lf_len {g : Int} {s : List Int} {rows : List (List Int)} (h : Fit s rows) : (lf g s rows).length = 10 + s.length + (recs rows).length := by
  unfold lf; rw [List.length_append, svB_length h.1]
theorem recs_snoc_len (rows : List (List Int)) {r : List Int} (h : r.length ≤ 60000) : (recs (rows ++ [r])).length = (recs rows).length + (2 + r.length) := by
  rw [recs_append, List.length_append]
  show _ + (recp r ++ []).length = _
  rw [List.append_nil, recp_length h]
/-- A deck of one side, all synced, never armed. -/
def Dk.one (room : Int) (b : List Int) (ops : Int) : Dk := ⟨room, b, b.length, [], 0, 0, 0, false, false, ops⟩
theorem one_look {room ops g : Int} {s : List Int} {rows : List (List Int)} (h : Fit s rows) (hg : 1 ≤ g ∧ g ≤ 4611686018427387904) : lkG (Dk.one room (lf g s rows) ops) = g ∧ lkS (Dk.one room (lf g s rows) ops) = 0 ∧ heldS (lkB (Dk.one room (lf g s rows) ops)) = s ∧ heldR (lkB (Dk.one room (lf g s rows) ops)) = rows := by
  obtain ⟨h1, h2, h3⟩ := heldG_lf h hg
  have e0 : heldG (Dk.one room (lf g s rows) ops).b0 = g := h1
  have e1 : heldG (Dk.one room (lf g s rows) ops).b1 = 0 := heldG_nil
  obtain ⟨l1, l2, l3⟩ := lk_zero (D := Dk.one room (lf g s rows) ops) (by rw [e0, e1]; omega)
  exact ⟨by rw [l3, e0], l1, by rw [l2]; exact h2, by rw [l2]; exact h3⟩
theorem one_add_yes {room ops g n : Int} {s : List Int} {rows : List (List Int)} {row : List Int} (h : Fit s rows) (hr : row.length ≤ 60000) (hf : ((lf g s rows).length : Int) + (2 + row.length) ≤ room) :
    adE (Dk.one room (lf g s rows) ops) ⟨0, g, n, false⟩ row = 0 ∧ adD (Dk.one room (lf g s rows) ops) ⟨0, g, n, false⟩ row = Dk.one room (lf g s (rows ++ [row])) (ops + 2) ∧ adL (Dk.one room (lf g s rows) ops) ⟨0, g, n, false⟩ row = ⟨0, g, n + 1, false⟩ := by
  have hok : adOk ⟨0, g, n, false⟩ row = true := by unfold adOk recok; rw [decide_eq_true hr]; rfl
  have hlen : (recp row).length = 2 + row.length := recp_length hr
  obtain ⟨a1, a2⟩ := app_ok0 (D := Dk.one room (lf g s rows) ops) (l := recp row) rfl (show ¬ room - ((lf g s rows).length : Int) < ((recp row).length : Int) by rw [hlen]; omega) rfl
  have a3 : (Dk.one room (lf g s rows) ops).app 0 (recp row) = ⟨room, lf g s (rows ++ [row]), (lf g s rows).length, [], 0, 0, 0, false, false, ops + 1⟩ := by rw [a2, lf_snoc]; rfl
  obtain ⟨b1, b2⟩ := sync_ok (D := ⟨room, lf g s (rows ++ [row]), (lf g s rows).length, [], 0, 0, 0, false, false, ops + 1⟩) rfl rfl
  obtain ⟨f1, f2, f3⟩ := ad_sync (D := Dk.one room (lf g s rows) ops) hok a1
  have e : adE (Dk.one room (lf g s rows) ops) ⟨0, g, n, false⟩ row = 0 := by rw [f1, a3]; exact b1
  refine ⟨e, ?_, if_pos e⟩
  rw [f2, a3, b2]
  show Dk.mk _ _ _ _ _ _ _ _ _ (ops + 1 + 1) = _
  rw [show ops + 1 + 1 = ops + 2 by omega]
  rfl
theorem one_add_no {room ops g n : Int} {s : List Int} {rows : List (List Int)} {row : List Int} (hr : row.length ≤ 60000) (hf : ¬ ((lf g s rows).length : Int) + (2 + row.length) ≤ room) :
    adE (Dk.one room (lf g s rows) ops) ⟨0, g, n, false⟩ row = 10 ∧ adD (Dk.one room (lf g s rows) ops) ⟨0, g, n, false⟩ row = Dk.one room (lf g s rows) ops ∧ adL (Dk.one room (lf g s rows) ops) ⟨0, g, n, false⟩ row = ⟨0, g, n, false⟩ := by
  have hok : adOk ⟨0, g, n, false⟩ row = true := by unfold adOk recok; rw [decide_eq_true hr]; rfl
  have hlen : (recp row).length = 2 + row.length := recp_length hr
  obtain ⟨a1, a2⟩ := app_full (D := Dk.one room (lf g s rows) ops) (side := 0) (l := recp row) rfl (by decide) (show room - (if (0 : Int) = 0 then ((lf g s rows).length : Int) else _) < ((recp row).length : Int) by rw [if_pos rfl, hlen]; omega)
  obtain ⟨f1, f2, f3⟩ := ad_full (D := Dk.one room (lf g s rows) ops) hok a1
  exact ⟨f1, by rw [f2, a2], f3⟩
theorem one_save_no {room ops g n : Int} {b s : List Int} (h : 8 + s.length ≤ 60000) (hf : room < 10 + (s.length : Int)) : svE (Dk.one room b ops) (1 - 0) (g + 1) s = 10 ∧ svD (Dk.one room b ops) (1 - 0) (g + 1) s = Dk.one room b ops ∧ saL (Dk.one room b ops) ⟨0, g, n, false⟩ s = ⟨0, g, n, false⟩ := by
  obtain ⟨e1, e2⟩ := sv_no (D := Dk.one room b ops) (side := 1 - 0) (svOk_no3 (gen := g + 1) (snap := s) (D := Dk.one room b ops) hf)
  exact ⟨e1, e2, if_neg (show ¬ svE (Dk.one room b ops) (1 - 0) (g + 1) s = 0 by rw [e1]; decide)⟩
theorem one_save_yes {room ops g n : Int} {b s : List Int} (h : 8 + s.length ≤ 60000) (hf : 10 + (s.length : Int) ≤ room) (hg : 1 ≤ g ∧ g < 4611686018427387904) : svE (Dk.one room b ops) (1 - 0) (g + 1) s = 0 ∧ saL (Dk.one room b ops) ⟨0, g, n, false⟩ s = ⟨1, g + 1, 0, false⟩ := by
  have hok := svOk_yes (D := Dk.one room b ops) (gen := g + 1) (snap := s) h (by omega) hf
  obtain ⟨w1, w2⟩ := wipe_ok1 (D := Dk.one room b ops) rfl rfl
  have hl := svB_length (gen := g + 1) h
  obtain ⟨a1, a2⟩ := app_ok1 (D := (Dk.one room b ops).wipe 1) (l := svB (g + 1) s) (by rw [w2]; rfl) (by rw [w2]; show ¬ room - ((0 : Nat) : Int) < ((svB (g + 1) s).length : Int); omega) (by rw [w2]; rfl)
  obtain ⟨b1, b2⟩ := sync_ok (D := ((Dk.one room b ops).wipe 1).app 1 (svB (g + 1) s)) (by rw [a2, w2]; rfl) (by rw [a2, w2]; rfl)
  obtain ⟨s1, s2⟩ := sv_sync (side := 1) hok w1 a1
  have e : svE (Dk.one room b ops) (1 - 0) (g + 1) s = 0 := by rw [show (1 : Int) - 0 = 1 by decide, s1]; exact b1
  exact ⟨e, if_pos e⟩
/-- A new deck is opened with a snapshot. -/
def Dk.zero (room : Int) : Dk := ⟨room, [], 0, [], 0, 0, 0, false, false, 0⟩
theorem zero_look (room : Int) : lkG (Dk.zero room) = 0 := by
  obtain ⟨l1, l2, l3⟩ := lk_zero (D := Dk.zero room) (by show ¬ heldG [] < heldG []; omega)
  rw [l3]; exact heldG_nil
theorem zero_open_no {room : Int} {s : List Int} (h : 8 + s.length ≤ 60000) (hf : room < 10 + (s.length : Int)) : opE (Dk.zero room) s = 10 ∧ opD (Dk.zero room) s = Dk.zero room := by
  obtain ⟨e1, e2⟩ := sv_no (D := Dk.zero room) (side := 0) (svOk_no3 (gen := 1) (snap := s) (D := Dk.zero room) hf)
  obtain ⟨o1, o2, _⟩ := op_fresh (fresh := s) (zero_look room)
  exact ⟨by rw [o1, e1], by rw [o2, e2]⟩
theorem zero_open_yes {room : Int} {s : List Int} (h : 8 + s.length ≤ 60000) (hf : 10 + (s.length : Int) ≤ room) : opE (Dk.zero room) s = 0 ∧ opD (Dk.zero room) s = Dk.one room (lf 1 s []) 3 ∧ opS (Dk.zero room) s = s ∧ opR (Dk.zero room) = [] ∧ opL (Dk.zero room) = ⟨0, 1, 0, false⟩ := by
  have hok := svOk_yes (D := Dk.zero room) (gen := 1) (snap := s) h (by decide) hf
  obtain ⟨w1, w2⟩ := wipe_ok0 (D := Dk.zero room) rfl rfl
  have hl := svB_length (gen := 1) h
  have w3 : (Dk.zero room).wipe 0 = ⟨room, [], 0, [], 0, 0, 0, false, false, 1⟩ := w2
  obtain ⟨a1, a2⟩ := app_ok0 (D := (Dk.zero room).wipe 0) (l := svB 1 s) (by rw [w2]; rfl) (by rw [w2]; show ¬ room - ((0 : Nat) : Int) < ((svB 1 s).length : Int); omega) (by rw [w2]; rfl)
  have a3 : ((Dk.zero room).wipe 0).app 0 (svB 1 s) = ⟨room, svB 1 s, 0, [], 0, 0, 0, false, false, 2⟩ := by rw [a2, w3]; rfl
  obtain ⟨b1, b2⟩ := sync_ok (D := ((Dk.zero room).wipe 0).app 0 (svB 1 s)) (by rw [a3]) (by rw [a3]; rfl)
  obtain ⟨s1, s2⟩ := sv_sync (side := 0) hok w1 a1
  obtain ⟨o1, o2, o3, o4, o5⟩ := op_fresh (fresh := s) (zero_look room)
  exact ⟨by rw [o1, s1]; exact b1, by rw [o2, s2, b2, a3, lf_nil]; rfl, o3, o4, o5⟩
theorem one_G {room ops : Int} {b : List Int} (hb : (b.length : Int) ≤ room) (hr : 0 ≤ room ∧ room ≤ 200000) (ho : 0 ≤ ops) : (Dk.one room b ops).G ops :=
  ⟨Nat.le_refl _, Nat.zero_le _, hb, show ((0 : Nat) : Int) ≤ room by omega, hr.2, ho, Int.le_refl _, show (-9223372036854775808 : Int) ≤ 0 by decide, show (0 : Int) < 9223372036854775808 by decide⟩
theorem zero_G {room : Int} (hr : 0 ≤ room ∧ room ≤ 200000) : (Dk.zero room).G 0 := G_mk (b0 := []) (b1 := []) (by show ((0 : Nat) : Int) ≤ room; omega) (by show ((0 : Nat) : Int) ≤ room; omega) hr.2 (Int.le_refl _)
end Go.Proofs.Ythaeppjhmjpecaa.B
