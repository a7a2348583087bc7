/- girolaw3.MsgBytes: the walk. -/
import Derived.Test.YtoljpojpncjmoaaLawReads
import Derived.Deep.RegionHeld3
namespace Go.Proofs.Ytoljpojpncjmoaa.B
open Go.RowKit Go.Proofs.YtoljpojpncjmoaaW.PrintWords Go.Proofs.YtoljpojpncjmoaaW.PrintLast Go.Proofs.YtoljpojpncjmoaaW.PrintMore
attribute [local go_sem] max2_int min2_int max_two min_two max_three min_three max_four min_four
set_option linter.unusedVariables false
set_option linter.unusedSimpArgs false

/-- What a message holds behind its own numbers is 0. -/
theorem msOf_take (m : Ms) (h : isM m = true) : msOf m.k (m.l.take (many m.k).toNat) = m := by
  obtain ⟨k, p0, p1, p2, p3, p4, p5⟩ := m
  unfold isM at h
  rw [Bool.and_eq_true] at h
  have h6 : (many k).toNat ≤ 6 := by have := (many_bd k).2; omega
  have h2 := h.2
  show msOf k (List.take (many k).toNat [p0, p1, p2, p3, p4, p5]) = _
  replace h2 : (List.drop (many k).toNat [p0, p1, p2, p3, p4, p5]).all (· == 0) = true := h2
  generalize (many k).toNat = n at h6 h2
  match n, h6 with
  | 0, _ => simp [msOf] at h2 ⊢; simp [h2]
  | 1, _ => simp [msOf] at h2 ⊢; simp [h2]
  | 2, _ => simp [msOf] at h2 ⊢; simp [h2]
  | 3, _ => simp [msOf] at h2 ⊢; simp [h2]
  | 4, _ => simp [msOf] at h2 ⊢; simp [h2]
  | 5, _ => simp [msOf] at h2 ⊢; simp [h2]
  | 6, _ => simp [msOf]
  | n + 7, h => omega
theorem isM_kind {m : Ms} (h : isM m = true) : 0 ≤ many m.k ∧ 0 ≤ m.k ∧ m.k < 24 := by
  unfold isM at h
  rw [Bool.and_eq_true, decide_eq_true_iff] at h
  have h1 := h.1
  by_cases hk : 0 ≤ m.k ∧ m.k < 24
  · exact ⟨h1, hk⟩
  · rw [many_out hk] at h1; omega
theorem bytesM_is {m : Ms} (h : isM m = true) : bytesM m = m.k :: puts (m.l.take (many m.k).toNat) := by
  have hk := isM_kind h
  unfold bytesM
  rw [if_pos h, show m.k % 256 = m.k by omega]
theorem bytesM_bytes (m : Ms) : IsB (bytesM m) := by
  unfold bytesM
  split
  · exact IsB.cons (by omega) (by omega) (puts_bytes _)
  · exact IsB.nil
theorem cmdM_bytes (who : Int) (m : Ms) : IsB (cmdM who m) := by
  unfold cmdM
  split
  · exact IsB.nil
  · exact (puts_bytes _).append (bytesM_bytes m)
theorem cmdM_len (who : Int) (m : Ms) : (cmdM who m).length ≤ 57 := by
  have := bytesM_len m
  unfold cmdM
  split
  · simp
  · rw [List.length_append, puts_length]; simp; omega
theorem l_len (m : Ms) (h : isM m = true) : ((m.l.take (many m.k).toNat).length : Int) = many m.k := by
  have := (many_bd m.k).2
  have := (isM_kind h).1
  rw [List.length_take, show m.l.length = 6 from rfl]
  omega
/-- A message's bytes are that message. -/
theorem read_bytes {m : Ms} (h : isM m = true) (hl : IsN m.l) : readK (bytesM m) = true ∧ readM (bytesM m) = m := by
  have hn : IsN (m.l.take (many m.k).toNat) := fun x hx => hl x (List.mem_of_mem_take hx)
  have hb := bytesM_is h
  have h8 : (puts (m.l.take (many m.k).toNat)).length % 8 = 0 := by rw [puts_length]; omega
  have hg : getl (puts (m.l.take (many m.k).toNat)) = m.l.take (many m.k).toNat := by rw [getl_yes h8, gets_puts hn]
  have hk : readK (bytesM m) = true := by
    rw [hb]
    show decide (gerr _ = 0 ∧ ((getl _).length : Int) = many m.k) = true
    rw [hg]
    exact decide_eq_true ⟨gerr_yes h8, l_len m h⟩
  refine ⟨hk, ?_⟩
  unfold readM
  rw [if_pos hk, hb, show (m.k :: puts (m.l.take (many m.k).toNat)).drop 1 = puts (m.l.take (many m.k).toNat) from rfl, hg]
  exact msOf_take m h
theorem cmdM_is {who : Int} {m : Ms} (h : isM m = true) : cmdM who m = be8 who ++ bytesM m := by
  unfold cmdM
  rw [if_neg (fun h' => by rw [(bytesM_nil m).1 h'] at h; cases h), puts_one]
/-- A command's bytes are that command. -/
theorem read_cmd {who : Int} {m : Ms} (h : isM m = true) (hl : IsN m.l) (hw : -9223372036854775808 ≤ who ∧ who < 9223372036854775808) : readCK (cmdM who m) = true ∧ readCM (cmdM who m) = m ∧ readCW (cmdM who m) = who := by
  have hc := cmdM_is (who := who) h
  have hr := read_bytes h hl
  have hd : (cmdM who m).drop 8 = bytesM m := by rw [hc]; exact List.drop_left' (be8_length who)
  have ht : (cmdM who m).take 8 = be8 who := by rw [hc]; exact List.take_left' (be8_length who)
  have h8 : 8 ≤ (cmdM who m).length := by rw [hc, List.length_append, be8_length]; omega
  have hk : readCK (cmdM who m) = true := by unfold readCK; rw [hd, hr.1, decide_eq_true h8]; rfl
  refine ⟨hk, ?_, ?_⟩
  · unfold readCM; rw [if_pos hk, hd]; exact hr.2
  · unfold readCW
    rw [if_pos hk, ht, getl_yes (by rw [be8_length]), gets_eight (be8_length who), dec8_be8 hw.1 hw.2]
    rfl

theorem S8mk {w W : World} {g t : Nat} {v0 v1 v2 v3 v4 v5 v6 v7 : Value} (hg : W.heap[g]? = some (.cells #[v0, v1, v2, v3, v4, v5, v6, v7] t (0, 0))) (hb : Below w.heap.size w W) : World.cell? W ⟨g, 0, none⟩ = some (v0) ∧ World.cell? W ⟨g, 1, none⟩ = some (v1) ∧ World.cell? W ⟨g, 2, none⟩ = some (v2) ∧ World.cell? W ⟨g, 3, none⟩ = some (v3) ∧ World.cell? W ⟨g, 4, none⟩ = some (v4) ∧ World.cell? W ⟨g, 5, none⟩ = some (v5) ∧ World.cell? W ⟨g, 6, none⟩ = some (v6) ∧ World.cell? W ⟨g, 7, none⟩ = some (v7) ∧ Aside0 (W.heap[g]? = some (.cells #[v0, v1, v2, v3, v4, v5, v6, v7] t (0, 0))) ∧ Aside0 (Below w.heap.size w W) :=
  ⟨blk_cell hg 0, blk_cell hg 1, blk_cell hg 2, blk_cell hg 3, blk_cell hg 4, blk_cell hg 5, blk_cell hg 6, blk_cell hg 7, ⟨hg⟩, ⟨hb⟩⟩
theorem S8keep {w W W' : World} {g t : Nat} {v0 v1 v2 v3 v4 v5 v6 v7 : Value} (hbl : Below W.heap.size W W') (h : World.cell? W ⟨g, 0, none⟩ = some (v0) ∧ World.cell? W ⟨g, 1, none⟩ = some (v1) ∧ World.cell? W ⟨g, 2, none⟩ = some (v2) ∧ World.cell? W ⟨g, 3, none⟩ = some (v3) ∧ World.cell? W ⟨g, 4, none⟩ = some (v4) ∧ World.cell? W ⟨g, 5, none⟩ = some (v5) ∧ World.cell? W ⟨g, 6, none⟩ = some (v6) ∧ World.cell? W ⟨g, 7, none⟩ = some (v7) ∧ Aside0 (W.heap[g]? = some (.cells #[v0, v1, v2, v3, v4, v5, v6, v7] t (0, 0))) ∧ Aside0 (Below w.heap.size w W)) : World.cell? W' ⟨g, 0, none⟩ = some (v0) ∧ World.cell? W' ⟨g, 1, none⟩ = some (v1) ∧ World.cell? W' ⟨g, 2, none⟩ = some (v2) ∧ World.cell? W' ⟨g, 3, none⟩ = some (v3) ∧ World.cell? W' ⟨g, 4, none⟩ = some (v4) ∧ World.cell? W' ⟨g, 5, none⟩ = some (v5) ∧ World.cell? W' ⟨g, 6, none⟩ = some (v6) ∧ World.cell? W' ⟨g, 7, none⟩ = some (v7) ∧ Aside0 (W'.heap[g]? = some (.cells #[v0, v1, v2, v3, v4, v5, v6, v7] t (0, 0))) ∧ Aside0 (Below w.heap.size w W') :=
  S8mk (blk_below h.2.2.2.2.2.2.2.2.1.out hbl) (below_step h.2.2.2.2.2.2.2.2.2.out hbl)
theorem S8drew {w W : World} {g t : Nat} {v0 v1 v2 v3 v4 v5 v6 v7 : Value} (h : World.cell? W ⟨g, 0, none⟩ = some (v0) ∧ World.cell? W ⟨g, 1, none⟩ = some (v1) ∧ World.cell? W ⟨g, 2, none⟩ = some (v2) ∧ World.cell? W ⟨g, 3, none⟩ = some (v3) ∧ World.cell? W ⟨g, 4, none⟩ = some (v4) ∧ World.cell? W ⟨g, 5, none⟩ = some (v5) ∧ World.cell? W ⟨g, 6, none⟩ = some (v6) ∧ World.cell? W ⟨g, 7, none⟩ = some (v7) ∧ Aside0 (W.heap[g]? = some (.cells #[v0, v1, v2, v3, v4, v5, v6, v7] t (0, 0))) ∧ Aside0 (Below w.heap.size w W)) : World.cell? W.drew ⟨g, 0, none⟩ = some (v0) ∧ World.cell? W.drew ⟨g, 1, none⟩ = some (v1) ∧ World.cell? W.drew ⟨g, 2, none⟩ = some (v2) ∧ World.cell? W.drew ⟨g, 3, none⟩ = some (v3) ∧ World.cell? W.drew ⟨g, 4, none⟩ = some (v4) ∧ World.cell? W.drew ⟨g, 5, none⟩ = some (v5) ∧ World.cell? W.drew ⟨g, 6, none⟩ = some (v6) ∧ World.cell? W.drew ⟨g, 7, none⟩ = some (v7) ∧ Aside0 (W.drew.heap[g]? = some (.cells #[v0, v1, v2, v3, v4, v5, v6, v7] t (0, 0))) ∧ Aside0 (Below w.heap.size w W.drew) :=
  S8mk (blk_drew h.2.2.2.2.2.2.2.2.1.out) (below_drew h.2.2.2.2.2.2.2.2.2.out)

theorem S12mk {w W : World} {g t : Nat} {v0 v1 v2 v3 v4 v5 v6 v7 : Value} {A1 A2 : Option Addr} {c1 c2 : Nat} {b d : List Int} (hg : W.heap[g]? = some (.cells #[v0, v1, v2, v3, v4, v5, v6, v7] t (0, 0))) (hb : Below w.heap.size w W) (h1 : Kd.C (Kd.int .u8) W A1 b.length b) (h2 : Kd.C (Kd.int .u8) W A2 d.length d) : World.cell? W ⟨g, 0, none⟩ = some (v0) ∧ World.cell? W ⟨g, 1, none⟩ = some (v1) ∧ World.cell? W ⟨g, 2, none⟩ = some (v2) ∧ World.cell? W ⟨g, 3, none⟩ = some (v3) ∧ World.cell? W ⟨g, 4, none⟩ = some (v4) ∧ World.cell? W ⟨g, 5, none⟩ = some (v5) ∧ World.cell? W ⟨g, 6, none⟩ = some (v6) ∧ World.cell? W ⟨g, 7, none⟩ = some (v7) ∧ Aside0 (W.heap[g]? = some (.cells #[v0, v1, v2, v3, v4, v5, v6, v7] t (0, 0))) ∧ Aside0 (Below w.heap.size w W) ∧ Aside0 (Kd.C (Kd.int .u8) W A1 (b).length b) ∧ Aside0 (Kd.C (Kd.int .u8) W A2 (d).length d) ∧ (convert 22 9 (.slice A1 (b).length c1)).run Try.prog W = .ok (.string (strOfNums b)) W ∧ (convert 22 9 (.slice A2 (d).length c2)).run Try.prog W = .ok (.string (strOfNums d)) W :=
  ⟨blk_cell hg 0, blk_cell hg 1, blk_cell hg 2, blk_cell hg 3, blk_cell hg 4, blk_cell hg 5, blk_cell hg 6, blk_cell hg 7, ⟨hg⟩, ⟨hb⟩, ⟨h1⟩, ⟨h2⟩, cstr3 h1, cstr3 h2⟩
theorem S12keep {w W W' : World} {g t : Nat} {v0 v1 v2 v3 v4 v5 v6 v7 : Value} {A1 A2 : Option Addr} {c1 c2 : Nat} {b d : List Int} {r : Prop} (hbl : Below W.heap.size W W') (h : World.cell? W ⟨g, 0, none⟩ = some (v0) ∧ World.cell? W ⟨g, 1, none⟩ = some (v1) ∧ World.cell? W ⟨g, 2, none⟩ = some (v2) ∧ World.cell? W ⟨g, 3, none⟩ = some (v3) ∧ World.cell? W ⟨g, 4, none⟩ = some (v4) ∧ World.cell? W ⟨g, 5, none⟩ = some (v5) ∧ World.cell? W ⟨g, 6, none⟩ = some (v6) ∧ World.cell? W ⟨g, 7, none⟩ = some (v7) ∧ Aside0 (W.heap[g]? = some (.cells #[v0, v1, v2, v3, v4, v5, v6, v7] t (0, 0))) ∧ Aside0 (Below w.heap.size w W) ∧ Aside0 (Kd.C (Kd.int .u8) W A1 (b).length b) ∧ Aside0 (Kd.C (Kd.int .u8) W A2 (d).length d) ∧ r) : World.cell? W' ⟨g, 0, none⟩ = some (v0) ∧ World.cell? W' ⟨g, 1, none⟩ = some (v1) ∧ World.cell? W' ⟨g, 2, none⟩ = some (v2) ∧ World.cell? W' ⟨g, 3, none⟩ = some (v3) ∧ World.cell? W' ⟨g, 4, none⟩ = some (v4) ∧ World.cell? W' ⟨g, 5, none⟩ = some (v5) ∧ World.cell? W' ⟨g, 6, none⟩ = some (v6) ∧ World.cell? W' ⟨g, 7, none⟩ = some (v7) ∧ Aside0 (W'.heap[g]? = some (.cells #[v0, v1, v2, v3, v4, v5, v6, v7] t (0, 0))) ∧ Aside0 (Below w.heap.size w W') ∧ Aside0 (Kd.C (Kd.int .u8) W' A1 (b).length b) ∧ Aside0 (Kd.C (Kd.int .u8) W' A2 (d).length d) ∧ (convert 22 9 (.slice A1 (b).length c1)).run Try.prog W' = .ok (.string (strOfNums b)) W' ∧ (convert 22 9 (.slice A2 (d).length c2)).run Try.prog W' = .ok (.string (strOfNums d)) W' :=
  S12mk (blk_below h.2.2.2.2.2.2.2.2.1.out hbl) (below_step h.2.2.2.2.2.2.2.2.2.1.out hbl) (Kd.C_below h.2.2.2.2.2.2.2.2.2.2.1.out hbl) (Kd.C_below h.2.2.2.2.2.2.2.2.2.2.2.1.out hbl)
theorem S12out {w W : World} {g t : Nat} {v0 v1 v2 v3 v4 v5 v6 v7 : Value} {A1 A2 : Option Addr} {b d : List Int} {r : Prop} (h : World.cell? W ⟨g, 0, none⟩ = some (v0) ∧ World.cell? W ⟨g, 1, none⟩ = some (v1) ∧ World.cell? W ⟨g, 2, none⟩ = some (v2) ∧ World.cell? W ⟨g, 3, none⟩ = some (v3) ∧ World.cell? W ⟨g, 4, none⟩ = some (v4) ∧ World.cell? W ⟨g, 5, none⟩ = some (v5) ∧ World.cell? W ⟨g, 6, none⟩ = some (v6) ∧ World.cell? W ⟨g, 7, none⟩ = some (v7) ∧ Aside0 (W.heap[g]? = some (.cells #[v0, v1, v2, v3, v4, v5, v6, v7] t (0, 0))) ∧ Aside0 (Below w.heap.size w W) ∧ Aside0 (Kd.C (Kd.int .u8) W A1 (b).length b) ∧ Aside0 (Kd.C (Kd.int .u8) W A2 (d).length d) ∧ r) : W.heap[g]? = some (.cells #[v0, v1, v2, v3, v4, v5, v6, v7] t (0, 0)) ∧ Below w.heap.size w W ∧ Kd.C (Kd.int .u8) W A1 b.length b ∧ Kd.C (Kd.int .u8) W A2 d.length d :=
  ⟨h.2.2.2.2.2.2.2.2.1.out, h.2.2.2.2.2.2.2.2.2.1.out, h.2.2.2.2.2.2.2.2.2.2.1.out, h.2.2.2.2.2.2.2.2.2.2.2.1.out⟩


set_option maxHeartbeats 4000000 in
theorem lawMB (who k p0 p1 p2 p3 p4 p5 : Int) (w : World) (hw : -9223372036854775808 ≤ who ∧ who < 9223372036854775808) (hn : IsN [p0, p1, p2, p3, p4, p5]) :
    Calls Try.prog 18 #[.agg #[.int .i64 who, .int .i64 k, .int .i64 p0, .int .i64 p1, .int .i64 p2, .int .i64 p3, .int .i64 p4, .int .i64 p5]] w fun e w' => e = .returned (.bool true) ∧ Below w.heap.size w w' := by
  have HB := Aside0.mk (Below.refl w.heap.size w)
  obtain ⟨im, him⟩ : ∃ im, im = isM ⟨k, p0, p1, p2, p3, p4, p5⟩ := ⟨_, rfl⟩
  have HIM := Aside0.mk him.symm
  have HL := Aside0.mk (show (bytesM ⟨k, p0, p1, p2, p3, p4, p5⟩).length ≤ 49 ∧ (cmdM who ⟨k, p0, p1, p2, p3, p4, p5⟩).length ≤ 57 from ⟨bytesM_len _, cmdM_len _ _⟩)
  have HS := Aside0.mk (S8mk (w := w) (blk_new w (.cells #[.int .i64 who, .int .i64 k, .int .i64 p0, .int .i64 p1, .int .i64 p2, .int .i64 p3, .int .i64 p4, .int .i64 p5] 63)) (below_alloc HB.out _))
  cases im with
  | false =>
    have hz := Aside0.mk (show bytesM ⟨k, p0, p1, p2, p3, p4, p5⟩ = [] ∧ cmdM who ⟨k, p0, p1, p2, p3, p4, p5⟩ = [] by have h := (bytesM_nil ⟨k, p0, p1, p2, p3, p4, p5⟩).2 him.symm; exact ⟨h, by unfold cmdM; rw [if_pos h]⟩)
    obtain ⟨b, hb⟩ : ∃ b, bytesM ⟨k, p0, p1, p2, p3, p4, p5⟩ = b := ⟨_, rfl⟩
    obtain ⟨d, hd⟩ : ∃ d, cmdM who ⟨k, p0, p1, p2, p3, p4, p5⟩ = d := ⟨_, rfl⟩
    have HE := Aside0.mk (show bytesM ⟨k, p0, p1, p2, p3, p4, p5⟩ = b ∧ cmdM who ⟨k, p0, p1, p2, p3, p4, p5⟩ = d from ⟨hb, hd⟩)
    have HZ := Aside0.mk (show b.length = 0 ∧ d.length = 0 by rw [← hb, ← hd, hz.out.1, hz.out.2]; exact ⟨rfl, rfl⟩)
    clear him hb hd hz HL
    go_enter Try.func18, Try.ntmps18
    go_wp2
    generalize w.alloc (.cells #[.int .i64 who, .int .i64 k, .int .i64 p0, .int .i64 p1, .int .i64 p2, .int .i64 p3, .int .i64 p4, .int .i64 p5] 63) = W0 at HS ⊢
    go_region_held (fun w' => World.cell? w' ⟨w.heap.size, 0, none⟩ = some (.int .i64 who) ∧ World.cell? w' ⟨w.heap.size, 1, none⟩ = some (.int .i64 k) ∧ World.cell? w' ⟨w.heap.size, 2, none⟩ = some (.int .i64 p0) ∧ World.cell? w' ⟨w.heap.size, 3, none⟩ = some (.int .i64 p1) ∧ World.cell? w' ⟨w.heap.size, 4, none⟩ = some (.int .i64 p2) ∧ World.cell? w' ⟨w.heap.size, 5, none⟩ = some (.int .i64 p3) ∧ World.cell? w' ⟨w.heap.size, 6, none⟩ = some (.int .i64 p4) ∧ World.cell? w' ⟨w.heap.size, 7, none⟩ = some (.int .i64 p5) ∧ Aside0 (w'.heap[w.heap.size]? = some (.cells #[.int .i64 who, .int .i64 k, .int .i64 p0, .int .i64 p1, .int .i64 p2, .int .i64 p3, .int .i64 p4, .int .i64 p5] 63 (0, 0))) ∧ Aside0 (Below w.heap.size w w')) (first | exact S8drew HS.out | exact S8keep hbl (by assumption))
      (first | (go_at_call 38; refine (mbytes k p0 p1 p2 p3 p4 p5 _).mono ?_; rintro e wA ⟨vA, rfl, ho, hblA⟩; have hbl := hblA; rw [HE.out.1] at ho; obtain ⟨A1, c1, e1⟩ := Kd.R_slice ho; subst e1; have H1 := Aside0.mk (Kd.R_reads' ho); clear ho) | (go_at_call 45; refine (mcmd who k p0 p1 p2 p3 p4 p5 _).mono ?_; rintro e wB ⟨vB, rfl, ho, hblB⟩; have hbl := hblB; rw [HE.out.2] at ho; obtain ⟨A2, c2, e2⟩ := Kd.R_slice ho; subst e2; have H2 := Aside0.mk (Kd.R_reads' ho); clear ho))
    have HBB := (by assumption : World.cell? wB ⟨w.heap.size, 0, none⟩ = some (.int .i64 who) ∧ _ ∧ _ ∧ _ ∧ _ ∧ _ ∧ _ ∧ _ ∧ _ ∧ _)
    have HF0 := Aside0.mk (S12mk (A1 := A1) (A2 := A2) (c1 := c1) (c2 := c2) HBB.2.2.2.2.2.2.2.2.1.out HBB.2.2.2.2.2.2.2.2.2.out (Kd.C_below H1.out.2.2 hblB) H2.out.2.2)
    obtain ⟨s0, s1, s2, s3, s4, s5, s6, s7, s8, s9⟩ := HBB
    go_wp2_with (first | ((with_reducible refine gate_dst (N := 17) rfl ?_); (try (refine gate_guard (by rfl) ?_; dsimp only)); refine goesL_ (some 17) rfl rfl Try.func51 (by kernel_rfl) rfl #[.agg #[.int .i64 k, .int .i64 p0, .int .i64 p1, .int .i64 p2, .int .i64 p3, .int .i64 p4, .int .i64 p5]] rfl (by (try simp only [List.map_toArray, List.map_cons, List.map_nil]); first | done | rfl | (simp only [List.length_drop, List.length_take]; rfl)) ?_; refine (mis3 k p0 p1 p2 p3 p4 p5 _).mono ?_; rintro e w3 ⟨rfl, hbl⟩; refine ⟨_, rfl, ?_⟩; rw [HIM.out]; have HF3 := Aside0.mk (S12keep (c1 := c1) (c2 := c2) hbl HF0.out); clear hbl s0 s1 s2 s3 s4 s5 s6 s7 s8 s9 HF0))
    go_region_held (fun w' => World.cell? w' ⟨w.heap.size, 0, none⟩ = some (.int .i64 who) ∧ World.cell? w' ⟨w.heap.size, 1, none⟩ = some (.int .i64 k) ∧ World.cell? w' ⟨w.heap.size, 2, none⟩ = some (.int .i64 p0) ∧ World.cell? w' ⟨w.heap.size, 3, none⟩ = some (.int .i64 p1) ∧ World.cell? w' ⟨w.heap.size, 4, none⟩ = some (.int .i64 p2) ∧ World.cell? w' ⟨w.heap.size, 5, none⟩ = some (.int .i64 p3) ∧ World.cell? w' ⟨w.heap.size, 6, none⟩ = some (.int .i64 p4) ∧ World.cell? w' ⟨w.heap.size, 7, none⟩ = some (.int .i64 p5) ∧ Aside0 (w'.heap[w.heap.size]? = some (.cells #[.int .i64 who, .int .i64 k, .int .i64 p0, .int .i64 p1, .int .i64 p2, .int .i64 p3, .int .i64 p4, .int .i64 p5] 63 (0, 0))) ∧ Aside0 (Below w.heap.size w w') ∧ Aside0 (Kd.C (Kd.int .u8) w' A1 (b).length b) ∧ Aside0 (Kd.C (Kd.int .u8) w' A2 (d).length d) ∧ (convert 22 9 (.slice A1 (b).length c1)).run Try.prog w' = .ok (.string (strOfNums b)) w' ∧ (convert 22 9 (.slice A2 (d).length c2)).run Try.prog w' = .ok (.string (strOfNums d)) w') (first | exact S12keep (below_drew (Below.refl _ _)) HF3.out | exact S12keep hbl (by assumption : World.cell? _ ⟨w.heap.size, 0, none⟩ = some (.int .i64 who) ∧ _ ∧ _ ∧ _ ∧ _ ∧ _ ∧ _ ∧ _ ∧ _ ∧ _ ∧ _ ∧ _ ∧ _ ∧ _) | exact S12keep (Below.refl _ _) (by assumption : World.cell? _ ⟨w.heap.size, 0, none⟩ = some (.int .i64 who) ∧ _ ∧ _ ∧ _ ∧ _ ∧ _ ∧ _ ∧ _ ∧ _ ∧ _ ∧ _ ∧ _ ∧ _ ∧ _))
      (first | (go_at_call 49; refine (mbytes3 k p0 p1 p2 p3 p4 p5 _).mono ?_; rintro e wC ⟨vC, rfl, ho, hnil, hblC⟩; have hbl := hblC; clear hnil; rw [HE.out.1] at ho; obtain ⟨A3, c3, e3⟩ := Kd.R_slice ho; subst e3; have hs3 := cstr3 (c := c3) (Kd.R_reads' ho).2.2; clear ho) | (go_at_call 50; refine (mcmd3 who k p0 p1 p2 p3 p4 p5 _).mono ?_; rintro e wD ⟨vD, rfl, ho, hblD⟩; have hbl := hblD; rw [HE.out.2] at ho; obtain ⟨A4, c4, e4⟩ := Kd.R_slice ho; subst e4; have hs4 := cstr3 (c := c4) (Kd.R_reads' ho).2.2; clear ho) | (go_at_call 44; refine (mis k p0 p1 p2 p3 p4 p5 _).mono ?_; rintro e wE ⟨rfl, hblE⟩; have hbl := hblE; rw [HIM.out]))
    have HF := Aside0.mk (by assumption : World.cell? wE ⟨w.heap.size, 0, none⟩ = some (.int .i64 who) ∧ _ ∧ _ ∧ _ ∧ _ ∧ _ ∧ _ ∧ _ ∧ _ ∧ _ ∧ _ ∧ _ ∧ _ ∧ _)
    have hb0 := HZ.out.1
    have hd0 := HZ.out.2
    go_wp2_with (first | ((with_reducible refine gate_dst (N := 49) rfl ?_); (try (refine gate_guard (by rfl) ?_; dsimp only)); refine goesL_ (some 49) rfl rfl Try.func37 (by kernel_rfl) rfl #[] rfl (by (try simp only [List.map_toArray, List.map_cons, List.map_nil]); first | done | rfl | (simp only [List.length_drop, List.length_take]; rfl)) ?_; refine (known3 _).mono ?_; rintro e w7 ⟨rfl, hbl⟩; refine ⟨_, rfl, ?_⟩; have HB7 := Aside0.mk (below_step (S12out HF.out).2.1 hbl); clear hbl))
    go_ret
    exact ⟨rfl, HB7.out⟩
  | true =>
    have hR := read_bytes him.symm hn
    have hRC := read_cmd (who := who) him.symm hn hw
    obtain ⟨b, hb⟩ : ∃ b, bytesM ⟨k, p0, p1, p2, p3, p4, p5⟩ = b := ⟨_, rfl⟩
    obtain ⟨d, hd⟩ : ∃ d, cmdM who ⟨k, p0, p1, p2, p3, p4, p5⟩ = d := ⟨_, rfl⟩
    have HE := Aside0.mk (show bytesM ⟨k, p0, p1, p2, p3, p4, p5⟩ = b ∧ cmdM who ⟨k, p0, p1, p2, p3, p4, p5⟩ = d from ⟨hb, hd⟩)
    have HI := Aside0.mk (show IsB b ∧ IsB d by rw [← hb, ← hd]; exact ⟨bytesM_bytes _, cmdM_bytes _ _⟩)
    have hbd : b.length ≤ 49 ∧ d.length ≤ 57 := by rw [← hb, ← hd]; exact HL.out
    rw [hb] at hR
    rw [hd] at hRC
    have HM := Aside0.mk (show (readM b).cells = #[.int .i64 k, .int .i64 p0, .int .i64 p1, .int .i64 p2, .int .i64 p3, .int .i64 p4, .int .i64 p5] ∧ readE b = 0 by unfold readE; rw [hR.2, hR.1]; exact ⟨rfl, rfl⟩)
    have HC := Aside0.mk (show cmdCells (readCW d) (readCM d) = #[.int .i64 who, .int .i64 k, .int .i64 p0, .int .i64 p1, .int .i64 p2, .int .i64 p3, .int .i64 p4, .int .i64 p5] ∧ readCE d = 0 by unfold readCE; rw [hRC.2.1, hRC.2.2, hRC.1]; exact ⟨rfl, rfl⟩)
    have heq0 : ∀ W, (Go.binOp .eql 54 (.agg #[.int .i64 k, .int .i64 p0, .int .i64 p1, .int .i64 p2, .int .i64 p3, .int .i64 p4, .int .i64 p5]) (.agg #[.int .i64 k, .int .i64 p0, .int .i64 p1, .int .i64 p2, .int .i64 p3, .int .i64 p4, .int .i64 p5])).run Try.prog W = .ok (.bool true) W := fun W => eqMsRun W k p0 p1 p2 p3 p4 p5
    have heq1 : ∀ W, (Op.equalIn 10000 54 (.agg #[.int .i64 k, .int .i64 p0, .int .i64 p1, .int .i64 p2, .int .i64 p3, .int .i64 p4, .int .i64 p5]) (.agg #[.int .i64 k, .int .i64 p0, .int .i64 p1, .int .i64 p2, .int .i64 p3, .int .i64 p4, .int .i64 p5])).run Try.prog W = .ok true W := fun W => eqMs 9997 W k p0 p1 p2 p3 p4 p5
    have heq2 : ∀ W, (Go.binOp .eql 63 (.agg #[.int .i64 who, .int .i64 k, .int .i64 p0, .int .i64 p1, .int .i64 p2, .int .i64 p3, .int .i64 p4, .int .i64 p5]) (.agg #[.int .i64 who, .int .i64 k, .int .i64 p0, .int .i64 p1, .int .i64 p2, .int .i64 p3, .int .i64 p4, .int .i64 p5])).run Try.prog W = .ok (.bool true) W := fun W => eqCmdRun W who k p0 p1 p2 p3 p4 p5
    have heq3 : ∀ W, (Op.equalIn 10000 63 (.agg #[.int .i64 who, .int .i64 k, .int .i64 p0, .int .i64 p1, .int .i64 p2, .int .i64 p3, .int .i64 p4, .int .i64 p5]) (.agg #[.int .i64 who, .int .i64 k, .int .i64 p0, .int .i64 p1, .int .i64 p2, .int .i64 p3, .int .i64 p4, .int .i64 p5])).run Try.prog W = .ok true W := fun W => eqCmd 9996 W who k p0 p1 p2 p3 p4 p5
    clear him hb hd hR hRC HL
    go_enter Try.func18, Try.ntmps18
    go_wp2
    generalize w.alloc (.cells #[.int .i64 who, .int .i64 k, .int .i64 p0, .int .i64 p1, .int .i64 p2, .int .i64 p3, .int .i64 p4, .int .i64 p5] 63) = W0 at HS ⊢
    go_region_held (fun w' => World.cell? w' ⟨w.heap.size, 0, none⟩ = some (.int .i64 who) ∧ World.cell? w' ⟨w.heap.size, 1, none⟩ = some (.int .i64 k) ∧ World.cell? w' ⟨w.heap.size, 2, none⟩ = some (.int .i64 p0) ∧ World.cell? w' ⟨w.heap.size, 3, none⟩ = some (.int .i64 p1) ∧ World.cell? w' ⟨w.heap.size, 4, none⟩ = some (.int .i64 p2) ∧ World.cell? w' ⟨w.heap.size, 5, none⟩ = some (.int .i64 p3) ∧ World.cell? w' ⟨w.heap.size, 6, none⟩ = some (.int .i64 p4) ∧ World.cell? w' ⟨w.heap.size, 7, none⟩ = some (.int .i64 p5) ∧ Aside0 (w'.heap[w.heap.size]? = some (.cells #[.int .i64 who, .int .i64 k, .int .i64 p0, .int .i64 p1, .int .i64 p2, .int .i64 p3, .int .i64 p4, .int .i64 p5] 63 (0, 0))) ∧ Aside0 (Below w.heap.size w w')) (first | exact S8drew HS.out | exact S8keep hbl (by assumption))
      (first | (go_at_call 38; refine (mbytes k p0 p1 p2 p3 p4 p5 _).mono ?_; rintro e wA ⟨vA, rfl, ho, hblA⟩; have hbl := hblA; rw [HE.out.1] at ho; obtain ⟨A1, c1, e1⟩ := Kd.R_slice ho; subst e1; have H1 := Aside0.mk (Kd.R_reads' ho); clear ho) | (go_at_call 45; refine (mcmd who k p0 p1 p2 p3 p4 p5 _).mono ?_; rintro e wB ⟨vB, rfl, ho, hblB⟩; have hbl := hblB; rw [HE.out.2] at ho; obtain ⟨A2, c2, e2⟩ := Kd.R_slice ho; subst e2; have H2 := Aside0.mk (Kd.R_reads' ho); clear ho))
    have HBB := (by assumption : World.cell? wB ⟨w.heap.size, 0, none⟩ = some (.int .i64 who) ∧ _ ∧ _ ∧ _ ∧ _ ∧ _ ∧ _ ∧ _ ∧ _ ∧ _)
    have HF0 := Aside0.mk (S12mk (A1 := A1) (A2 := A2) (c1 := c1) (c2 := c2) HBB.2.2.2.2.2.2.2.2.1.out HBB.2.2.2.2.2.2.2.2.2.out (Kd.C_below H1.out.2.2 hblB) H2.out.2.2)
    obtain ⟨s0, s1, s2, s3, s4, s5, s6, s7, s8, s9⟩ := HBB
    go_wp2_with (first | ((with_reducible refine gate_dst (N := 17) rfl ?_); (try (refine gate_guard (by rfl) ?_; dsimp only)); refine goesL_ (some 17) rfl rfl Try.func51 (by kernel_rfl) rfl #[.agg #[.int .i64 k, .int .i64 p0, .int .i64 p1, .int .i64 p2, .int .i64 p3, .int .i64 p4, .int .i64 p5]] rfl (by (try simp only [List.map_toArray, List.map_cons, List.map_nil]); first | done | rfl | (simp only [List.length_drop, List.length_take]; rfl)) ?_; refine (mis3 k p0 p1 p2 p3 p4 p5 _).mono ?_; rintro e w3 ⟨rfl, hbl⟩; refine ⟨_, rfl, ?_⟩; rw [HIM.out]; have HF3 := Aside0.mk (S12keep (c1 := c1) (c2 := c2) hbl HF0.out); clear hbl s0 s1 s2 s3 s4 s5 s6 s7 s8 s9 HF0))
    go_region_held (fun w' => World.cell? w' ⟨w.heap.size, 0, none⟩ = some (.int .i64 who) ∧ World.cell? w' ⟨w.heap.size, 1, none⟩ = some (.int .i64 k) ∧ World.cell? w' ⟨w.heap.size, 2, none⟩ = some (.int .i64 p0) ∧ World.cell? w' ⟨w.heap.size, 3, none⟩ = some (.int .i64 p1) ∧ World.cell? w' ⟨w.heap.size, 4, none⟩ = some (.int .i64 p2) ∧ World.cell? w' ⟨w.heap.size, 5, none⟩ = some (.int .i64 p3) ∧ World.cell? w' ⟨w.heap.size, 6, none⟩ = some (.int .i64 p4) ∧ World.cell? w' ⟨w.heap.size, 7, none⟩ = some (.int .i64 p5) ∧ Aside0 (w'.heap[w.heap.size]? = some (.cells #[.int .i64 who, .int .i64 k, .int .i64 p0, .int .i64 p1, .int .i64 p2, .int .i64 p3, .int .i64 p4, .int .i64 p5] 63 (0, 0))) ∧ Aside0 (Below w.heap.size w w') ∧ Aside0 (Kd.C (Kd.int .u8) w' A1 (b).length b) ∧ Aside0 (Kd.C (Kd.int .u8) w' A2 (d).length d) ∧ (convert 22 9 (.slice A1 (b).length c1)).run Try.prog w' = .ok (.string (strOfNums b)) w' ∧ (convert 22 9 (.slice A2 (d).length c2)).run Try.prog w' = .ok (.string (strOfNums d)) w') (first | exact S12keep (below_drew (Below.refl _ _)) HF3.out | exact S12keep hbl (by assumption : World.cell? _ ⟨w.heap.size, 0, none⟩ = some (.int .i64 who) ∧ _ ∧ _ ∧ _ ∧ _ ∧ _ ∧ _ ∧ _ ∧ _ ∧ _ ∧ _ ∧ _ ∧ _ ∧ _) | exact S12keep (Below.refl _ _) (by assumption : World.cell? _ ⟨w.heap.size, 0, none⟩ = some (.int .i64 who) ∧ _ ∧ _ ∧ _ ∧ _ ∧ _ ∧ _ ∧ _ ∧ _ ∧ _ ∧ _ ∧ _ ∧ _ ∧ _))
      (first | (go_at_call 49; refine (mbytes3 k p0 p1 p2 p3 p4 p5 _).mono ?_; rintro e wC ⟨vC, rfl, ho, hnil, hblC⟩; have hbl := hblC; clear hnil; rw [HE.out.1] at ho; obtain ⟨A3, c3, e3⟩ := Kd.R_slice ho; subst e3; have hs3 := cstr3 (c := c3) (Kd.R_reads' ho).2.2; clear ho) | (go_at_call 50; refine (mcmd3 who k p0 p1 p2 p3 p4 p5 _).mono ?_; rintro e wD ⟨vD, rfl, ho, hblD⟩; have hbl := hblD; rw [HE.out.2] at ho; obtain ⟨A4, c4, e4⟩ := Kd.R_slice ho; subst e4; have hs4 := cstr3 (c := c4) (Kd.R_reads' ho).2.2; clear ho) | (go_at_call 44; refine (mis k p0 p1 p2 p3 p4 p5 _).mono ?_; rintro e wE ⟨rfl, hblE⟩; have hbl := hblE; rw [HIM.out]))
    have HF := Aside0.mk (by assumption : World.cell? wE ⟨w.heap.size, 0, none⟩ = some (.int .i64 who) ∧ _ ∧ _ ∧ _ ∧ _ ∧ _ ∧ _ ∧ _ ∧ _ ∧ _ ∧ _ ∧ _ ∧ _ ∧ _)
    go_wp2_with (first | ((with_reducible refine gate_dst (N := 53) rfl ?_); (try (refine gate_guard (by rfl) ?_; dsimp only)); refine goesL_ (some 53) rfl rfl Try.func35 (by kernel_rfl) rfl #[.slice A1 b.length c1] rfl (by (try simp only [List.map_toArray, List.map_cons, List.map_nil]); first | done | rfl | (simp only [List.length_drop, List.length_take]; rfl)) ?_; refine (mread A1 c1 b _ (S12out HF.out).2.2.1 H1.out.2.1 HI.out.1 (by omega)).mono ?_; rintro e w7 ⟨rfl, hbl⟩; refine ⟨_, rfl, ?_⟩; rw [HM.out.1, HM.out.2]; have HF7 := Aside0.mk (S12keep (c1 := c1) (c2 := c2) (below_alloc hbl (.cells #[.int .i64 k, .int .i64 p0, .int .i64 p1, .int .i64 p2, .int .i64 p3, .int .i64 p4, .int .i64 p5] 54)) HF.out); have HG7 := Aside0.mk (blk_new w7 (.cells #[.int .i64 k, .int .i64 p0, .int .i64 p1, .int .i64 p2, .int .i64 p3, .int .i64 p4, .int .i64 p5] 54)); clear hbl HF) | ((with_reducible refine gate_dst (N := 58) rfl ?_); (try (refine gate_guard (by rfl) ?_; dsimp only)); refine goesL_ (some 58) rfl rfl Try.func47 (by kernel_rfl) rfl #[.slice A2 d.length c2] rfl (by (try simp only [List.map_toArray, List.map_cons, List.map_nil]); first | done | rfl | (simp only [List.length_drop, List.length_take]; rfl)) ?_; refine (mreadcmd A2 c2 d _ (S12out HF7.out).2.2.2 H2.out.2.1 HI.out.2 (by omega)).mono ?_; rintro e w8 ⟨rfl, hbl⟩; refine ⟨_, rfl, ?_⟩; rw [HC.out.1, HC.out.2]; have HF8 := Aside0.mk (S12keep (c1 := c1) (c2 := c2) (below_alloc hbl (.cells #[.int .i64 who, .int .i64 k, .int .i64 p0, .int .i64 p1, .int .i64 p2, .int .i64 p3, .int .i64 p4, .int .i64 p5] 63)) HF7.out); have HG8 := Aside0.mk (blk_new w8 (.cells #[.int .i64 who, .int .i64 k, .int .i64 p0, .int .i64 p1, .int .i64 p2, .int .i64 p3, .int .i64 p4, .int .i64 p5] 63)); have HG7' := Aside0.mk (blk_below HG7.out (below_alloc hbl (.cells #[.int .i64 who, .int .i64 k, .int .i64 p0, .int .i64 p1, .int .i64 p2, .int .i64 p3, .int .i64 p4, .int .i64 p5] 63))); obtain ⟨s0, s1, s2, s3, s4, s5, s6, s7, s8, s9, sa, sb, sc, sd⟩ := HF8.out; clear hbl HF7 HG7 sc sd) | ((with_reducible refine gate_dst (N := 64) rfl ?_); (try (refine gate_guard (by rfl) ?_; dsimp only)); refine wpList_load_row rfl 54 _ rfl w7.heap.size rfl 54 _ (0, 0) _ HG7'.out Try.underlying54 rfl (by kernel_rfl) ?_) | ((with_reducible refine gate_dst (N := 74) rfl ?_); (try (refine gate_guard (by rfl) ?_; dsimp only)); refine wpList_load_row rfl 63 _ rfl w8.heap.size rfl 63 _ (0, 0) _ HG8.out Try.underlying63 rfl (by kernel_rfl) ?_) | ((with_reducible refine gate_dst (N := 75) rfl ?_); (try (refine gate_guard (by rfl) ?_; dsimp only)); refine wpList_load_row rfl 63 _ rfl w.heap.size rfl 63 _ (0, 0) _ s8.out Try.underlying63 rfl (by kernel_rfl) ?_) | ((with_reducible refine gate_dst (N := 79) rfl ?_); (try (refine gate_guard (by rfl) ?_; dsimp only)); refine goesL_ (some 79) rfl rfl Try.func37 (by kernel_rfl) rfl #[] rfl (by (try simp only [List.map_toArray, List.map_cons, List.map_nil]); first | done | rfl | (simp only [List.length_drop, List.length_take]; rfl)) ?_; refine (known3 _).mono ?_; rintro e w9 ⟨rfl, hbl⟩; refine ⟨_, rfl, ?_⟩; have HB9 := Aside0.mk (below_step (S12out HF8.out).2.1 hbl); clear hbl))
    go_ret
    exact ⟨rfl, HB9.out⟩
end Go.Proofs.Ytoljpojpncjmoaa.B
