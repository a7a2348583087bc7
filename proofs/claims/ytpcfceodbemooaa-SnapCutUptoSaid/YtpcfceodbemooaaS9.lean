/- Snap: snap.Read: the walk. -/
import Derived.Test.YtpcfceodbemooaaS8
import Derived.Deep.RegionHeld
namespace Go.Proofs.Ytpcfceodbemooaa.B
open Go.RowKit Go.Proofs.YtpcfceodbemooaaW.PrintWords Go.Proofs.YtpcfceodbemooaaW.PrintLast Go.Proofs.YtpcfceodbemooaaW.PrintMore Go.Proofs.Ytpcfceodbemooaa.PSnapBytes
attribute [local go_sem] max2_int min2_int max_two min_two max_three min_three max_four min_four
set_option linter.unusedVariables false
set_option linter.unusedSimpArgs false
theorem keep3 {w w' : World} {a0 a1 a2 : Addr} {u0 u1 u2 : Value} (hb : Below w.heap.size w w') (h : w.cell? a0 = some u0 ∧ w.cell? a1 = some u1 ∧ w.cell? a2 = some u2) : w'.cell? a0 = some u0 ∧ w'.cell? a1 = some u1 ∧ w'.cell? a2 = some u2 := ⟨pw_cell_below hb h.1, pw_cell_below hb h.2.1, pw_cell_below hb h.2.2⟩
theorem si_start {w W1 W2 : World} {gr gz : Nat} {v0 : Value} {H : List Int} (tk tt : Int) (ov : Bool) (hz : W2.heap[gz]? = some (.cells #[.int .i64 0, .slice none 0 0, .slice none 0 0, .slice none 0 0, .slice none 0 0, .slice none 0 0, .slice none 0 0, .slice none 0 0, .slice none 0 0, .int .i64 0, .bool false] 29 (0, 0))) (hb : Below w.heap.size w W2) (h0 : (Kd.int .i64).R 2 W2 W1.heap.size (fun _ => True) v0 H) (h1 : gr < W1.heap.size) (h2 : gz < W1.heap.size) (h3 : w.heap.size ≤ gr) (h4 : w.heap.size ≤ gz) (h5 : gr ≠ gz) (h6 : W1.heap.size ≤ W2.heap.size) :
    SI w (W2.alloc (.cells #[.int .i64 tk, .slice none 0 0, .slice none 0 0, .slice none 0 0, .slice none 0 0, .slice none 0 0, .slice none 0 0, .slice none 0 0, .slice none 0 0, .int .i64 tt, .bool ov] 29)).drew W2.heap.size gr gz v0 (.slice none 0 0) (.slice none 0 0) (.slice none 0 0) (.slice none 0 0) (.slice none 0 0) (.slice none 0 0) (.slice none 0 0) (.slice none 0 0) H ⟨tk, [], [], [], [], [], [], [], [], tt, ov⟩ := by
  have hbel : Below W2.heap.size W2 (W2.alloc (.cells #[.int .i64 tk, .slice none 0 0, .slice none 0 0, .slice none 0 0, .slice none 0 0, .slice none 0 0, .slice none 0 0, .slice none 0 0, .slice none 0 0, .int .i64 tt, .bool ov] 29)).drew := below_drew (below_alloc (Below.refl _ _) _)
  refine ⟨blk_drew (blk_new W2 _), blk_below hz hbel, below_step hb hbel, ⟨hb.size, h3, h4⟩, ⟨by omega, by omega, h5⟩, ?_, Kd.R_nil _ _ _ _ _, Kd.R_nil _ _ _ _ _, Kd.R_nil _ _ _ _ _, Kd.R_nil _ _ _ _ _, Kd.R_nil _ _ _ _ _, Kd.R_nil _ _ _ _ _, Kd.R_nil _ _ _ _ _, Kd.R_nil _ _ _ _ _⟩
  refine Kd.R_lower (Kd.R_mono (Kd.R_below (Kd.R_bound h0) hbel) (fun k hk => ⟨?_, ?_, ?_⟩)) (by have := hb.size; omega)
  · have := hk.2.2.1; omega
  · have := hk.2.1; omega
  · have := hk.2.1; omega
theorem getn_bd : ∀ (n : Nat) (b : List Int), ∀ x ∈ getn n b, -9223372036854775808 ≤ x ∧ x < 9223372036854775808
  | 0, _ => fun _ h => by cases h
  | n + 1, b => fun x h => by
    rcases List.mem_cons.1 h with rfl | h
    · exact dec8_bd _
    · exact getn_bd n _ x h
theorem nextL_bd (b : List Int) : ∀ x ∈ nextL b, -9223372036854775808 ≤ x ∧ x < 9223372036854775808 := by
  unfold nextL gets
  split
  · exact getn_bd _ _
  · intro x h; cases h
theorem jsL_bd (n : Nat) (b : List Int) : ∀ x ∈ jsL n b, -9223372036854775808 ≤ x ∧ x < 9223372036854775808 := by
  unfold jsL
  split
  · exact nextL_bd b
  · intro x h; rw [List.eq_of_mem_replicate h]; exact ⟨by decide, by decide⟩
theorem rd_bd {l : List Int} (h : ∀ x ∈ l, -9223372036854775808 ≤ x ∧ x < 9223372036854775808) (i : Int) : -9223372036854775808 ≤ rd l i ∧ rd l i < 9223372036854775808 := by
  unfold Go.Proofs.YtpcfceodbemooaaW.PrintWords.rd
  rw [List.getD_eq_getElem?_getD]
  rcases Nat.lt_or_ge i.toNat l.length with hl | hl
  · rw [List.getElem?_eq_getElem hl]; exact h _ (List.getElem_mem hl)
  · rw [List.getElem?_eq_none hl]; exact ⟨by decide, by decide⟩
theorem hd_bd (b : List Int) (i : Int) : -9223372036854775808 ≤ rd (hd b) i ∧ rd (hd b) i < 9223372036854775808 := rd_bd (jsL_bd 9 b) i
section
variable {P : Program} {o : Oper} {a : Act} {W : World} {Q : Exit → Act → World → Prop} {Kc : Act → World → Prop} {bb : Bool}
theorem gate_step (N : Tmp) (_hN : o.dst = some N) (h : if bb = true then Oper.wp P o a W Kc Q else Kc (a.put o.dst undef) W) : if bb = true then Oper.wp P o a W Kc Q else Kc (a.put o.dst undef) W := h
end
theorem C_acct {W : World} {g : Nat} {x : S41} (h : W.heap[g]? = some (.cells #[.int .i64 x.f0, .int .i64 x.f1, .int .i64 x.f2] 41 (0, 0))) : k41.C W (some ⟨g, 0, none⟩) 1 [x] := by
  refine ⟨rfl, by decide, fun _ => ⟨_, rfl, fun j p hj => ?_⟩⟩
  obtain ⟨hjl, rfl⟩ := List.getElem?_eq_some_iff.1 hj
  have hj0 : j = 0 := by simpa using hjl
  subst hj0
  refine ⟨[.int .i64 x.f0, .int .i64 x.f1, .int .i64 x.f2], rfl, k41_mk W x, fun i u hu => ?_⟩
  have hc : W.cell? ⟨g, i, none⟩ = _ := blk_cell h i
  rw [show ((⟨g, 0, none⟩ : Addr).add (0 * k41.sz + i)) = ⟨g, i, none⟩ by rw [Nat.zero_mul, Nat.zero_add]; exact add_plain g i]
  rw [hc]
  simpa using hu
theorem C_pay {W : World} {g : Nat} {x : S43} (h : W.heap[g]? = some (.cells #[.int .i64 x.f0, .int .i64 x.f1, .int .i64 x.f2, .int .i64 x.f3, .int .i64 x.f4, .int .i64 x.f5, .int .i64 x.f6] 43 (0, 0))) : k43.C W (some ⟨g, 0, none⟩) 1 [x] := by
  refine ⟨rfl, by decide, fun _ => ⟨_, rfl, fun j p hj => ?_⟩⟩
  obtain ⟨hjl, rfl⟩ := List.getElem?_eq_some_iff.1 hj
  have hj0 : j = 0 := by simpa using hjl
  subst hj0
  refine ⟨[.int .i64 x.f0, .int .i64 x.f1, .int .i64 x.f2, .int .i64 x.f3, .int .i64 x.f4, .int .i64 x.f5, .int .i64 x.f6], rfl, k43_mk W x, fun i u hu => ?_⟩
  have hc : W.cell? ⟨g, i, none⟩ = _ := blk_cell h i
  rw [show ((⟨g, 0, none⟩ : Addr).add (0 * k43.sz + i)) = ⟨g, i, none⟩ by rw [Nat.zero_mul, Nat.zero_add]; exact add_plain g i]
  rw [hc]
  simpa using hu
theorem info41 : (Try.prog.info? 41).map (fun i => (i.zero, i.size, i.bytes)) = some (some (.agg #[.int .i64 0, .int .i64 0, .int .i64 0]), 3, 24) := by kernel_rfl
theorem info43 : (Try.prog.info? 43).map (fun i => (i.zero, i.size, i.bytes)) = some (some (.agg #[.int .i64 0, .int .i64 0, .int .i64 0, .int .i64 0, .int .i64 0, .int .i64 0, .int .i64 0]), 7, 56) := by kernel_rfl
section
variable {ops : Array Oper} {o : Oper} {a : Act} {Q : Exit → Act → World → Prop} {Kc : Act → World → Prop}
theorem acct_step {w W : World} {gs gr gz g : Nat} (hw : Region.wanted o (yielded ops a.tmps) = true) (s x : Operand)
    (ho : o.op = .call { callee := .builtin .append, args := #[s, x], argTypes := #[22, 22] })
    (v : Value) (xs : List S41) (y : S41) (hs : a.eval s = v) (hx : a.eval x = .slice (some ⟨g, 0, none⟩) 1 1)
    (hb : W.heap[g]? = some (.cells #[.int .i64 y.f0, .int .i64 y.f1, .int .i64 y.f2] 41 (0, 0)))
    (HO : k41.R 41 W w.heap.size (X3 gs gr gz) v xs) (HB : Below w.heap.size w W) (h1 : gs < W.heap.size) (h2 : gr < W.heap.size) (h3 : gz < W.heap.size) (hl : (xs.length + 1) * 24 ≤ 140737488355328)
    (h : ∀ v1 w1, k41.R 41 w1 w.heap.size (X3 gs gr gz) v1 (xs ++ [y]) → Below w.heap.size w w1 → W.grownBy w1 v.ownBlock → Kc (a.put o.dst v1) w1) :
    if Region.wanted o (yielded ops a.tmps) = true then Oper.wp Try.prog o a W Kc Q else Kc (a.put o.dst undef) W :=
  Kd.R_append_rows_step k41 (w0 := w) w.heap.size hw s x 22 41 (.agg #[.int .i64 0, .int .i64 0, .int .i64 0]) 24 ho Try.underlying22 info41 rfl (show 0 < 3 by decide) (by decide) v xs [y] _ 1 1 (X3 gs gr gz) (fun _ => False) hs hx HO (C_acct hb) (fun z cs hz => by rw [k41_open hz]; exact k41_mkM _ _ _ _) (fun _ hh => hh.elim) (fun k hk => ⟨by omega, by omega, by omega⟩) HB HB.size hl (fun v1 w1 h1 h2 h3 _ => h v1 w1 h1 h2 h3)
theorem pay_step {w W : World} {gs gr gz g : Nat} (hw : Region.wanted o (yielded ops a.tmps) = true) (s x : Operand)
    (ho : o.op = .call { callee := .builtin .append, args := #[s, x], argTypes := #[27, 27] })
    (v : Value) (xs : List S43) (y : S43) (hs : a.eval s = v) (hx : a.eval x = .slice (some ⟨g, 0, none⟩) 1 1)
    (hb : W.heap[g]? = some (.cells #[.int .i64 y.f0, .int .i64 y.f1, .int .i64 y.f2, .int .i64 y.f3, .int .i64 y.f4, .int .i64 y.f5, .int .i64 y.f6] 43 (0, 0)))
    (HO : k43.R 43 W w.heap.size (X3 gs gr gz) v xs) (HB : Below w.heap.size w W) (h1 : gs < W.heap.size) (h2 : gr < W.heap.size) (h3 : gz < W.heap.size) (hl : (xs.length + 1) * 56 ≤ 140737488355328)
    (h : ∀ v1 w1, k43.R 43 w1 w.heap.size (X3 gs gr gz) v1 (xs ++ [y]) → Below w.heap.size w w1 → W.grownBy w1 v.ownBlock → Kc (a.put o.dst v1) w1) :
    if Region.wanted o (yielded ops a.tmps) = true then Oper.wp Try.prog o a W Kc Q else Kc (a.put o.dst undef) W :=
  Kd.R_append_rows_step k43 (w0 := w) w.heap.size hw s x 27 43 (.agg #[.int .i64 0, .int .i64 0, .int .i64 0, .int .i64 0, .int .i64 0, .int .i64 0, .int .i64 0]) 56 ho Try.underlying27 info43 rfl (show 0 < 7 by decide) (by decide) v xs [y] _ 1 1 (X3 gs gr gz) (fun _ => False) hs hx HO (C_pay hb) (fun z cs hz => by rw [k43_open hz]; exact k43_mkM _ _ _ _) (fun _ hh => hh.elim) (fun k hk => ⟨by omega, by omega, by omega⟩) HB HB.size hl (fun v1 w1 h1 h2 h3 _ => h v1 w1 h1 h2 h3)
end
/-- Numbers that are read stay, through an append to what is of another type and a store into the state. -/
theorem far_cells {w W w1 W2 : World} {gs gr gz ga ca : Nat} {v : Value} {X : List Int} {α : Type} {d : Kd α} {e : Nat} {xs : List α} (h : (Kd.int .i64).R 2 W w.heap.size (X3 gs gr gz) (.slice (some ⟨ga, 0, none⟩) X.length ca) X) (hv : d.R e W w.heap.size (X3 gs gr gz) v xs) (he : 2 ≠ e) (hg : W.grownBy w1 v.ownBlock) (ho : Only gs w1 W2) (i : Nat) (hi : i < X.length) : W2.cell? ⟨ga, i, none⟩ = some (.int .i64 (rd X i)) := by
  have h2 := Kd.R_step (Kd.R_over h hv (by intro q hq; rcases List.mem_cons.1 hq with rfl | hq; exact he; cases hq) hg) (fun k hk _ => ho.2.2.2.2 k hk.1)
  have h3 := (Kd.R_celln 0 h2 (i : Int) (by omega) (by omega)).1
  rw [Int.toNat_natCast] at h3
  exact h3
section
variable {P : Program} {ops : Array Oper} {rest : List Oper} {o : Oper} {a : Act} {Q : Exit → Act → World → Prop} {W : World}
theorem gate_none (_hN : o.dst = none) (h : wpList P ops Q (o :: rest) a W) : wpList P ops Q (o :: rest) a W := h
end
theorem keep7 {w w' : World} {a0 a1 a2 a3 a4 a5 a6 : Addr} {u0 u1 u2 u3 u4 u5 u6 : Value} (hb : Below w.heap.size w w') (h : w.cell? a0 = some u0 ∧ w.cell? a1 = some u1 ∧ w.cell? a2 = some u2 ∧ w.cell? a3 = some u3 ∧ w.cell? a4 = some u4 ∧ w.cell? a5 = some u5 ∧ w.cell? a6 = some u6) : w'.cell? a0 = some u0 ∧ w'.cell? a1 = some u1 ∧ w'.cell? a2 = some u2 ∧ w'.cell? a3 = some u3 ∧ w'.cell? a4 = some u4 ∧ w'.cell? a5 = some u5 ∧ w'.cell? a6 = some u6 := ⟨pw_cell_below hb h.1, pw_cell_below hb h.2.1, pw_cell_below hb h.2.2.1, pw_cell_below hb h.2.2.2.1, pw_cell_below hb h.2.2.2.2.1, pw_cell_below hb h.2.2.2.2.2.1, pw_cell_below hb h.2.2.2.2.2.2⟩
theorem SI.reads {w W : World} {gs gr gz n1 n2 n3 n4 n5 n6 n7 n8 c1 c2 c3 c4 c5 c6 c7 c8 : Nat} {v0 : Value} {A1 A2 A3 A4 A5 A6 A7 A8 : Option Addr} {H : List Int} {s : St} (x : SI w W gs gr gz v0 (.slice A1 n1 c1) (.slice A2 n2 c2) (.slice A3 n3 c3) (.slice A4 n4 c4) (.slice A5 n5 c5) (.slice A6 n6 c6) (.slice A7 n7 c7) (.slice A8 n8 c8) H s) : RdS W ⟨A1, c1, A2, c2, A3, c3, A4, c4, A5, c5, A6, c6, A7, c7, A8, c8⟩ s := by
  have h1 := Kd.R_reads' x.f1; have h2 := Kd.R_reads' x.f2; have h3 := Kd.R_reads' x.f3; have h4 := Kd.R_reads' x.f4; have h5 := Kd.R_reads' x.f5; have h6 := Kd.R_reads' x.f6; have h7 := Kd.R_reads' x.f7; have h8 := Kd.R_reads' x.f8
  exact ⟨h1.2.2, by rw [← h1.1]; exact h1.2.1, h2.2.2, by rw [← h2.1]; exact h2.2.1, h3.2.2, by rw [← h3.1]; exact h3.2.1, h4.2.2, by rw [← h4.1]; exact h4.2.1, h5.2.2, by rw [← h5.1]; exact h5.2.1, h6.2.2, by rw [← h6.1]; exact h6.2.1, h7.2.2, by rw [← h7.1]; exact h7.2.1, h8.2.2, by rw [← h8.1]; exact h8.2.1⟩
theorem R_only {α : Type} {d : Kd α} {e B : Nat} {ok : Nat → Prop} {W W' : World} {v : Value} {xs : List α} {g : Nat} (h : d.R e W B ok v xs) (ho : Only g W W') (hn : ∀ k, ok k → k ≠ g) : d.R e W' B ok v xs := Kd.R_step h (fun k hk _ => ho.2.2.2.2 k (hn k hk))
theorem SI.reads8 {w W W' : World} {gs gr gz n1 n2 n3 n4 n5 n6 n7 n8 c1 c2 c3 c4 c5 c6 c7 c8 : Nat} {v0 : Value} {A1 A2 A3 A4 A5 A6 A7 A8 : Option Addr} {H : List Int} {s : St} {cs : Obj} (x : SI w W gs gr gz v0 (.slice A1 n1 c1) (.slice A2 n2 c2) (.slice A3 n3 c3) (.slice A4 n4 c4) (.slice A5 n5 c5) (.slice A6 n6 c6) (.slice A7 n7 c7) (.slice A8 n8 c8) H s) (hg : W'.heap[gz]? = some cs) (ho : Only gz W W') : RdS W' ⟨A1, c1, A2, c2, A3, c3, A4, c4, A5, c5, A6, c6, A7, c7, A8, c8⟩ s := by
  have hn : ∀ k, X3 gs gr gz k → k ≠ gz := fun k hk => hk.2.2
  have h1 := Kd.R_reads' (R_only x.f1 ho hn); have h2 := Kd.R_reads' (R_only x.f2 ho hn); have h3 := Kd.R_reads' (R_only x.f3 ho hn); have h4 := Kd.R_reads' (R_only x.f4 ho hn); have h5 := Kd.R_reads' (R_only x.f5 ho hn); have h6 := Kd.R_reads' (R_only x.f6 ho hn); have h7 := Kd.R_reads' (R_only x.f7 ho hn); have h8 := Kd.R_reads' (R_only x.f8 ho hn)
  exact ⟨h1.2.2, by rw [← h1.1]; exact h1.2.1, h2.2.2, by rw [← h2.1]; exact h2.2.1, h3.2.2, by rw [← h3.1]; exact h3.2.1, h4.2.2, by rw [← h4.1]; exact h4.2.1, h5.2.2, by rw [← h5.1]; exact h5.2.1, h6.2.2, by rw [← h6.1]; exact h6.2.1, h7.2.2, by rw [← h7.1]; exact h7.2.1, h8.2.2, by rw [← h8.1]; exact h8.2.1⟩
section
variable {P : Program} {ops : Array Oper} {rest : List Oper} {o : Oper} {a : Act} {Q : Exit → Act → World → Prop} {W : World}
/-- *p = T{..}: a block written whole; the world behind it is a letter. -/
theorem store_blk (hgd : o.guard = none) (ty : TypeId) (x y : Operand) (ho : o.op = .store ty x y) (g : Nat) (cells : Array Value) (hx : a.eval x = .pointer (some ⟨g, 0, none⟩)) (hy : a.eval y = .agg cells)
    (t : TypeId) (old : Array Value) (hg : W.heap[g]? = some (.cells old t (0, 0))) (hi : (P.info? ty).map (·.size) = some cells.size) (hold : old.size = cells.size) (h1 : cells.all (·.oneCell') = true)
    (h : ∀ w', w'.heap[g]? = some (.cells cells t (0, 0)) → Only g W w' → wpList P ops Q rest (a.put o.dst undef) w') : wpList P ops Q (o :: rest) a W :=
  wpList_store_row hgd ty x y ho g cells hx hy t old hg hi hold h1 (h _ (setRow_heap _ _ _ _ _ _ hg) (Only.row _))
end
theorem no_bytes (w : World) : RdS w ⟨none, 0, none, 0, none, 0, none, 0, none, 0, none, 0, none, 0, none, 0⟩ st0 := ⟨Kd.C_nil _ _, Nat.le_refl _, Kd.C_nil _ _, Nat.le_refl _, Kd.C_nil _ _, Nat.le_refl _, Kd.C_nil _ _, Nat.le_refl _, Kd.C_nil _ _, Nat.le_refl _, Kd.C_nil _ _, Nat.le_refl _, Kd.C_nil _ _, Nat.le_refl _, Kd.C_nil _ _, Nat.le_refl _⟩
theorem hd9 (b : List Int) : (hd b).length = 9 := jsL_len 9 b
set_option maxHeartbeats 8000000 in
set_option maxRecDepth 100000 in
theorem snapRead (A : Option Addr) (c : Nat) (b : List Int) (w : World) (hr : Kd.C (Kd.int .u8) w A b.length b) (hc : b.length ≤ c) (hb : IsB b) (hl : b.length ≤ 10000000000) :
    Calls Try.prog 9 #[.slice A b.length c] w fun e w' => ∃ h : Sh, e = .returned (.tuple #[.agg #[.int .i64 (sRead b).tick, .slice h.A1 (sRead b).accts.length h.c1, .slice h.A2 (sRead b).bil.length h.c2, .slice h.A3 (sRead b).mul.length h.c3, .slice h.A4 (sRead b).pos.length h.c4, .slice h.A5 (sRead b).prices.length h.c5, .slice h.A6 (sRead b).holds.length h.c6, .slice h.A7 (sRead b).pays.length h.c7, .slice h.A8 (sRead b).ids.length h.c8, .int .i64 (sRead b).total, .bool (sRead b).over], .bool (sOk b)]) ∧ RdS w' h (sRead b) ∧ Below w.heap.size w w' := by
  have HC := Aside0.mk hr
  have HI := Aside0.mk hb
  have HK := Aside0.mk hc
  have HL := Aside0.mk hl
  clear hr hb hc
  go_enter Try.func9, Try.ntmps9
  go_upto_region 2 with fail
  have HZ := Aside0.mk (blk_alloc (blk_new w (.cells #[.int .i64 0, .slice none 0 0, .slice none 0 0, .slice none 0 0, .slice none 0 0, .slice none 0 0, .slice none 0 0, .slice none 0 0, .slice none 0 0, .int .i64 0, .bool false] 29)) (.cells #[.slice A b.length c, .bool false] 47))
  have HB := Aside0.mk (below_alloc (below_alloc (Below.refl w.heap.size w) (.cells #[.int .i64 0, .slice none 0 0, .slice none 0 0, .slice none 0 0, .slice none 0 0, .slice none 0 0, .slice none 0 0, .slice none 0 0, .slice none 0 0, .int .i64 0, .bool false] 29)) (.cells #[.slice A b.length c, .bool false] 47))
  have HG := blk_new (w.alloc (.cells #[.int .i64 0, .slice none 0 0, .slice none 0 0, .slice none 0 0, .slice none 0 0, .slice none 0 0, .slice none 0 0, .slice none 0 0, .slice none 0 0, .int .i64 0, .bool false] 29)) (.cells #[.slice A b.length c, .bool false] 47)
  rw [show (w.alloc (.cells #[.int .i64 0, .slice none 0 0, .slice none 0 0, .slice none 0 0, .slice none 0 0, .slice none 0 0, .slice none 0 0, .slice none 0 0, .slice none 0 0, .int .i64 0, .bool false] 29)).heap.size = w.heap.size + 1 by simp] at HG
  have HRB := Aside0.mk (show RB 47 w _ (w.heap.size + 1) b false from ⟨⟨A, c, HG, HC.out, HK.out⟩, HI.out, by omega, Nat.le_succ _, HB.out⟩)
  clear HG
  have HSZ := Aside0.mk (show w.heap.size + 2 = ((w.alloc (.cells #[.int .i64 0, .slice none 0 0, .slice none 0 0, .slice none 0 0, .slice none 0 0, .slice none 0 0, .slice none 0 0, .slice none 0 0, .slice none 0 0, .int .i64 0, .bool false] 29)).alloc (.cells #[.slice A b.length c, .bool false] 47)).heap.size by simp)
  generalize (w.alloc (.cells #[.int .i64 0, .slice none 0 0, .slice none 0 0, .slice none 0 0, .slice none 0 0, .slice none 0 0, .slice none 0 0, .slice none 0 0, .slice none 0 0, .int .i64 0, .bool false] 29)).alloc (.cells #[.slice A b.length c, .bool false] 47) = W1 at *
  generalize hgr : w.heap.size + 1 = gr at *
  go_upto_region 3 with (first | ((with_reducible refine gate_dst (N := 15) rfl ?_); (try (refine gate_guard (by rfl) ?_; dsimp only)); refine goesL_ (some 15) rfl rfl Try.func17 (by kernel_rfl) rfl #[.pointer (some ⟨gr, 0, none⟩), .int .i64 9] rfl (by (try simp only [List.map_toArray, List.map_cons, List.map_nil]); first | done | rfl | (simp only [List.length_drop, List.length_take]; rfl)) ?_; refine (sJust w gr b false 9 _ HRB.out (by decide)).mono ?_; rintro e w2 ⟨v2, rfl, ho, hR, hF⟩; refine ⟨_, rfl, ?_⟩; have HO := Aside0.mk ho; have HR2 := Aside0.mk hR; have HF := Aside0.mk hF; clear ho hR hF HRB; obtain ⟨gh, ch, e2, _, hlt9, _⟩ := Kd.R_form HO.out (by rw [jsL_len]; decide); subst e2))

  have q9 : 9 ≤ (jsL 9 b).length ∧ (jsL 9 b).length ≤ 9 := by rw [jsL_len]; exact ⟨Nat.le_refl _, Nat.le_refl _⟩
  obtain ⟨H, hH⟩ : ∃ H, jsL 9 b = H := ⟨_, rfl⟩
  rw [hH] at HO q9 ⊢
  have HH := Aside0.mk (show hd b = H from hH)
  clear hH
  have HK3 := Aside0.mk (show w2.cell? ⟨gh, 0, none⟩ = some (.int .i64 (rd H 0)) ∧ w2.cell? ⟨gh, 1, none⟩ = some (.int .i64 (rd H 1)) ∧ w2.cell? ⟨gh, 2, none⟩ = some (.int .i64 (rd H 2)) from ⟨(Kd.R_celln 0 HO.out 0 (by decide) (by omega)).1, (Kd.R_celln 0 HO.out 1 (by decide) (by omega)).1, (Kd.R_celln 0 HO.out 2 (by decide) (by omega)).1⟩)
  have i0 : (0 : Nat) < H.length := by omega
  have i1 : 1 < H.length := by omega
  have i2 : 2 < H.length := by omega
  have e1 : (1 : Int) < (H.length : Int) := by omega
  have e2 : (2 : Int) < (H.length : Int) := by omega
  have hsz1 : w.heap.size + 2 = W1.heap.size := HSZ.out
  have HF9 := Aside0.mk (show Below w.heap.size w w2 from Fr.below' HF.out HB.out (fun k hk => by rw [hk, ← hgr]; omega))
  have HZ9 := Aside0.mk ((HF.out.2.2.2.2 w.heap.size (by omega) (by omega)).trans HZ.out)
  have HSI := Aside0.mk (fun tk tt ov => (si_start (w := w) (W1 := W1) (W2 := w2) (gr := gr) (gz := w.heap.size) (v0 := .slice (some ⟨gh, 0, none⟩) H.length ch) (H := H) tk tt ov HZ9.out HF9.out HO.out (by omega) (by omega) (by omega) (Nat.le_refl _) (by omega) HF.out.size))
  go_cut [6] (fun v6 wx => ∃ gs : Nat, v6 = .pointer (some ⟨gs, 0, none⟩) ∧ Aside0 (SI w wx gs gr w.heap.size (.slice (some ⟨gh, 0, none⟩) H.length ch) (.slice none 0 0) (.slice none 0 0) (.slice none 0 0) (.slice none 0 0) (.slice none 0 0) (.slice none 0 0) (.slice none 0 0) (.slice none 0 0) H ⟨rd H 0, [], [], [], [], [], [], [], [], rd H 1, rd H 2 == 1⟩) ∧ Aside0 (RB 47 w wx gr (nextR b) (jsB 9 b false)))
  case first =>
    go_region_held (fun w' => w'.cell? ⟨gh, 0, none⟩ = some (.int .i64 (rd H 0)) ∧ w'.cell? ⟨gh, 1, none⟩ = some (.int .i64 (rd H 1)) ∧ w'.cell? ⟨gh, 2, none⟩ = some (.int .i64 (rd H 2))) (first | exact keep3 (by repeat (first | exact Below.refl _ _ | refine below_drew ?_ | refine below_alloc ?_ _ | refine pw_below_drewN ?_ _)) HK3.out) (first | fail)
    all_goals (go_wp2_with fail; go_meet; exact ⟨_, rfl, ⟨HSI.out _ _ _⟩, ⟨HR2.out.below (below_drew (below_alloc (Below.refl _ _) _))⟩⟩)
  case rest =>
    obtain ⟨gs, rfl, HX, HRB⟩ := hcut
    clear HSI HZ9 HF9 HK3 HO HR2 HF HZ HB

    have HP1 := Aside0.mk (show (p1 b) = (nextR b, jsB 9 b false) from rfl)
    obtain ⟨P1, hP1⟩ : ∃ P, p1 b = P := ⟨_, rfl⟩
    rw [show RB 47 w wc gr (nextR b) (jsB 9 b false) = RB 47 w wc gr P1.1 P1.2 by rw [← hP1]; rfl] at HRB
    have hP1l : P1.1.length ≤ b.length := by rw [← hP1]; exact p1_le b
    have HP1 := Aside0.mk hP1
    clear hP1
    obtain ⟨L1, hL1⟩ : ∃ L, itA (rd H 3) P1 = L := ⟨_, rfl⟩
    have HL1 := Aside0.mk hL1
    have HL1q := Aside0.mk hL1
    have HZ1 := Aside0.mk (show Fz (P1.1.length + 2) P1.1 P1.2 from ⟨by omega, fun _ => Nat.le_refl _⟩)
    have HPAL := Aside0.mk (show L1.2.1.length ≤ b.length by rw [← hL1]; exact Nat.le_trans (its_left _ _ _ _ _ _).1 hP1l)
    clear hL1
    have i3 : 3 < H.length := by omega
    have HBD := Aside0.mk (show ∀ i : Int, -9223372036854775808 ≤ rd H i ∧ rd H i < 9223372036854775808 from fun i => by rw [← HH.out]; exact hd_bd b i)
    have k3 := (Kd.R_celln 0 HX.out.f0 3 (by decide) (by omega)).1
    rw [show ((3 : Int)).toNat = 3 from rfl] at k3
    go_upto_block 0 with fail
    go_cut [] (fun wx => ∃ v1 : Value, Aside0 (SI w wx gs gr w.heap.size (.slice (some ⟨gh, 0, none⟩) H.length ch) v1 (.slice none 0 0) (.slice none 0 0) (.slice none 0 0) (.slice none 0 0) (.slice none 0 0) (.slice none 0 0) (.slice none 0 0) H ⟨rd H 0, L1.1, [], [], [], [], [], [], [], rd H 1, rd H 2 == 1⟩) ∧ Aside0 (RB 47 w wx gr L1.2.1 L1.2.2))
    case first =>
      go_wp2
      go_loopg [7, 8] (P1.1.length + 2) (fun kq v7 v8 w' => ∃ (m : Int) (b' : List Int) (bad' : Bool) (acc : List S41) (v1 : Value), v7 = .int .i64 m ∧ Aside0 (-9223372036854775808 ≤ m ∧ m < 9223372036854775808) ∧ acc.length + kq ≤ b.length + 2 ∧ Aside0 (Fz kq b' bad') ∧ Aside0 (acc ++ (its mkA (jsB 3) kq m b' bad').1 = L1.1 ∧ (its mkA (jsB 3) kq m b' bad').2 = L1.2) ∧ Aside0 (RB 47 w w' gr b' bad') ∧ Aside0 (SI w w' gs gr w.heap.size (.slice (some ⟨gh, 0, none⟩) H.length ch) v1 (.slice none 0 0) (.slice none 0 0) (.slice none 0 0) (.slice none 0 0) (.slice none 0 0) (.slice none 0 0) (.slice none 0 0) H ⟨rd H 0, acc, [], [], [], [], [], [], [], rd H 1, rd H 2 == 1⟩))
      case atStart => exact ⟨rd H 3, P1.1, P1.2, [], .slice none 0 0, rfl, ⟨HBD.out 3⟩, by simp; omega, HZ1, ⟨HL1.out ▸ rfl, HL1.out ▸ rfl⟩, HRB, HX⟩
      case round =>
        clear HRB HX HL1 HZ1 k3
        obtain ⟨m, b', bad', acc, v1, rfl, HM, hacc, HZ, HL1, HRB, HX⟩ := hrel
        obtain ⟨f, hf⟩ : ∃ f, gk = f + 1 := ⟨gk - 1, by have := HZ.out.1; omega⟩
        obtain ⟨A1, c1, hG, _⟩ := HRB.out.blk
        obtain ⟨z0, z1, zf0, zf1⟩ := cells2 hG
        clear hG
        by_cases cgo : 0 < m ∧ bad' = false
        · obtain ⟨cm, cbf⟩ := cgo
          subst cbf
          have cmb : decide (0 < m) = true := decide_eq_true cm
          have hwr : wrap64 (m - 1) = m - 1 := by have := HM.out; unfold wrap64; omega
          have HL2 := HL1.out
          rw [hf, its_go mkA (jsB 3) cm rfl] at HL2
          have HLN := Aside0.mk (show (acc ++ [mkA b']) ++ (its mkA (jsB 3) f (m - 1) (nextR b') (jsB 3 b' false)).1 = L1.1 ∧ (its mkA (jsB 3) f (m - 1) (nextR b') (jsB 3 b' false)).2 = L1.2 from ⟨by rw [← HL2.1, List.append_assoc]; rfl, HL2.2⟩)
          have HZN := Aside0.mk (Fz.step (bad' := jsB 3 b' false) (by rw [← hf]; exact HZ.out) rfl jsB_ok)
          clear HL2 HL1 HZ
          go_upto_region 8 with (first | ((with_reducible refine gate_dst (N := 42) rfl ?_); (try (refine gate_guard (by rfl) ?_; dsimp only)); refine goesL_ (some 42) rfl rfl Try.func17 (by kernel_rfl) rfl #[.pointer (some ⟨gr, 0, none⟩), .int .i64 3] rfl (by (try simp only [List.map_toArray, List.map_cons, List.map_nil]); first | done | rfl | (simp only [List.length_drop, List.length_take]; rfl)) ?_; refine (sJust w gr b' false 3 _ HRB.out (by decide)).mono ?_; rintro e w2 ⟨v2, rfl, ho, hR, hF⟩; refine ⟨_, rfl, ?_⟩; have HO := Aside0.mk ho; have HX_ := Aside0.mk (HX.out.fg hF); have HX9 := Aside0.mk (HX.out.new HRB.out.lt ho); clear HX HRB hF z0 z1 zf0 zf1; have HX := HX_; have HRB := Aside0.mk hR; clear ho hR HX_; obtain ⟨ga, ca, e2, _, hlta, _⟩ := Kd.R_form HO.out (by rw [jsL_len]; decide); subst e2))
          have q3 : 3 ≤ (jsL 3 b').length ∧ (jsL 3 b').length ≤ 3 := by rw [jsL_len]; exact ⟨Nat.le_refl _, Nat.le_refl _⟩
          have HMK := Aside0.mk (show mkA b' = ⟨rd (jsL 3 b') 0, rd (jsL 3 b') 1, rd (jsL 3 b') 2⟩ from rfl)
          generalize jsL 3 b' = X at *
          have HK3 := Aside0.mk (show w2.cell? ⟨ga, 0, none⟩ = some (.int .i64 (rd X 0)) ∧ w2.cell? ⟨ga, 1, none⟩ = some (.int .i64 (rd X 1)) ∧ w2.cell? ⟨ga, 2, none⟩ = some (.int .i64 (rd X 2)) from ⟨(Kd.R_celln 0 HO.out 0 (by decide) (by omega)).1, (Kd.R_celln 0 HO.out 1 (by decide) (by omega)).1, (Kd.R_celln 0 HO.out 2 (by decide) (by omega)).1⟩)
          have j0 : (0 : Nat) < X.length := by omega
          have j1 : 1 < X.length := by omega
          have j2 : 2 < X.length := by omega
          have e1 : (1 : Int) < (X.length : Int) := by omega
          have e2 : (2 : Int) < (X.length : Int) := by omega
          have y1 : w2.cell? ⟨gs, 1, none⟩ = some v1 := (blk_cell HX.out.blk 1).trans rfl
          have yo : ∀ o : Obj, (w2.alloc o).cell? ⟨gs, 1, none⟩ = some v1 := fun o => pw_cell_below (below_alloc (Below.refl _ _) o) y1
          have yd : ∀ o : Obj, (w2.alloc o).drew.cell? ⟨gs, 1, none⟩ = some v1 := yo
          have HMB := Aside0.mk (show acc.length + 1 ≤ 20000000000 by omega)
          obtain ⟨ac2, hac2⟩ : ∃ Z, acc ++ [(⟨rd X 0, rd X 1, rd X 2⟩ : S41)] = Z := ⟨_, rfl⟩
          have HAC := Aside0.mk hac2
          clear hac2
          refine wp_region_held_drew (S := fun w' => w'.cell? ⟨ga, 0, none⟩ = some (.int .i64 (rd X 0)) ∧ w'.cell? ⟨ga, 1, none⟩ = some (.int .i64 (rd X 1)) ∧ w'.cell? ⟨ga, 2, none⟩ = some (.int .i64 (rd X 2))) (by kernel_rfl) (keep3 (by repeat (first | exact Below.refl _ _ | refine below_drew ?_ | refine below_alloc ?_ _ | refine pw_below_drewN ?_ _)) HK3.out) (fun hHeld => ?_)
          refine wpAnyH_take (i := 0) (v := ?v1) rfl (by kernel_rfl) (by kernel_rfl) (by kernel_rfl) (fun _ _ _ h => h) (Or.inl ⟨by rfl, ?hy1⟩) (by assumption) ?rest1
          case hy1 => (intro w' hSw; (try dsimp only at hSw); go_simp; try with_reducible rfl)
          try simp only [Act.put, List.setIfInBounds_toArray, List.set_cons_zero, List.set_cons_succ]
          refine wpAnyH_take (i := 1) (v := ?v2) rfl (by kernel_rfl) (by kernel_rfl) (by kernel_rfl) (fun _ _ _ h => h) (Or.inl ⟨by rfl, ?hy2⟩) (by assumption) ?rest2
          case hy2 => (intro w' hSw; (try dsimp only at hSw); go_simp; try with_reducible rfl)
          try simp only [Act.put, List.setIfInBounds_toArray, List.set_cons_zero, List.set_cons_succ]
          refine wpAnyH_take (i := 3) (v := ?v3) rfl (by kernel_rfl) (by kernel_rfl) (by kernel_rfl) (fun _ _ _ h => h) (Or.inl ⟨by rfl, ?hy3⟩) (by assumption) ?rest3
          case hy3 => (intro w' hSw; (try dsimp only at hSw); go_simp; try with_reducible rfl)
          try simp only [Act.put, List.setIfInBounds_toArray, List.set_cons_zero, List.set_cons_succ]
          refine wpAnyH_take (i := 4) (v := ?v4) rfl (by kernel_rfl) (by kernel_rfl) (by kernel_rfl) (fun _ _ _ h => h) (Or.inl ⟨by rfl, ?hy4⟩) (by assumption) ?rest4
          case hy4 => (intro w' hSw; (try dsimp only at hSw); go_simp; try with_reducible rfl)
          try simp only [Act.put, List.setIfInBounds_toArray, List.set_cons_zero, List.set_cons_succ]
          refine wpAnyH_take (i := 5) (v := ?v5) rfl (by kernel_rfl) (by kernel_rfl) (by kernel_rfl) (fun _ _ _ h => h) (Or.inl ⟨by rfl, ?hy5⟩) (by assumption) ?rest5
          case hy5 => (intro w' hSw; (try dsimp only at hSw); go_simp; try with_reducible rfl)
          try simp only [Act.put, List.setIfInBounds_toArray, List.set_cons_zero, List.set_cons_succ]
          refine wpAnyH_take (i := 6) (v := ?v6) rfl (by kernel_rfl) (by kernel_rfl) (by kernel_rfl) (fun _ _ _ h => h) (Or.inl ⟨by rfl, ?hy6⟩) (by assumption) ?rest6
          case hy6 => (intro w' hSw; (try dsimp only at hSw); go_simp; try with_reducible rfl)
          try simp only [Act.put, List.setIfInBounds_toArray, List.set_cons_zero, List.set_cons_succ]
          refine wpAnyH_take (i := 7) (v := ?v7) rfl (by kernel_rfl) (by kernel_rfl) (by kernel_rfl) (fun _ _ _ h => h) (Or.inl ⟨by rfl, ?hy7⟩) (by assumption) ?rest7
          case hy7 => (intro w' hSw; (try dsimp only at hSw); go_simp; try with_reducible rfl)
          try simp only [Act.put, List.setIfInBounds_toArray, List.set_cons_zero, List.set_cons_succ]
          refine wpAnyH_take (i := 8) (v := ?v8) rfl (by kernel_rfl) (by kernel_rfl) (by kernel_rfl) (fun _ _ _ h => h) (Or.inl ⟨by rfl, ?hy8⟩) (by assumption) ?rest8
          case hy8 => (intro w' hSw; (try dsimp only at hSw); go_simp; try with_reducible rfl)
          try simp only [Act.put, List.setIfInBounds_toArray, List.set_cons_zero, List.set_cons_succ]
          refine wpAnyH_take (i := 9) (v := ?v9) rfl (by kernel_rfl) (by kernel_rfl) (by kernel_rfl) (fun _ _ _ h => h) (Or.inl ⟨by rfl, ?hy9⟩) (by assumption) ?rest9
          case hy9 => (intro w' hSw; (try dsimp only at hSw); go_simp; try with_reducible rfl)
          try simp only [Act.put, List.setIfInBounds_toArray, List.set_cons_zero, List.set_cons_succ]
          refine wpAnyH_take (i := 10) (v := ?v10) rfl (by kernel_rfl) (by kernel_rfl) (by kernel_rfl) (fun _ _ _ h => h) (Or.inl ⟨by rfl, ?hy10⟩) (by assumption) ?rest10
          case hy10 => (intro w' hSw; (try dsimp only at hSw); go_simp; try with_reducible rfl)
          try simp only [Act.put, List.setIfInBounds_toArray, List.set_cons_zero, List.set_cons_succ]
          refine wpAnyH_take (i := 11) (v := ?v11) rfl (by kernel_rfl) (by kernel_rfl) (by kernel_rfl) (fun _ _ _ h => h) (Or.inl ⟨by rfl, ?hy11⟩) (by assumption) ?rest11
          case hy11 => (intro w' hSw; (try dsimp only at hSw); go_simp; try with_reducible rfl)
          try simp only [Act.put, List.setIfInBounds_toArray, List.set_cons_zero, List.set_cons_succ]
          refine wpAnyH_take (i := 12) (v := ?v12) rfl (by kernel_rfl) (by kernel_rfl) (by kernel_rfl) (fun _ _ _ h => h) (Or.inl ⟨by rfl, ?hy12⟩) (by assumption) ?rest12
          case hy12 => (intro w' hSw; (try dsimp only at hSw); go_simp; try with_reducible rfl)
          try simp only [Act.put, List.setIfInBounds_toArray, List.set_cons_zero, List.set_cons_succ]
          refine wpAnyH_ready (rs := [2, 13]) (by kernel_rfl) (by simp) (AllReadyH.cons rfl (fun K hK => ?_) (AllReadyH.cons rfl (fun K hK => ?_) AllReadyH.nil))
          · go_simp
            refine hK.out _ _ (by exact keep3 (by repeat (first | exact Below.refl _ _ | refine below_drew ?_ | refine below_alloc ?_ _ | refine pw_below_drewN ?_ _)) HK3.out) (fun hHeld => ?_)
            clear hK K
            refine wpAnyH_ready (rs := [13]) (by kernel_rfl) (by simp) (AllReadyH.cons rfl (fun K hK => ?_) AllReadyH.nil)
            go_simp
            refine hK.out _ _ (by exact keep3 (by repeat (first | exact Below.refl _ _ | refine below_drew ?_ | refine below_alloc ?_ _ | refine pw_below_drewN ?_ _)) HK3.out) (fun hHeld => ?_)
            clear hK K
            refine wpAnyH_ready (rs := [14]) (by kernel_rfl) (by simp) (AllReadyH.cons rfl (fun K hK => ?_) AllReadyH.nil)
            (refine acct_step (w := w) (gs := gs) (gr := gr) (gz := w.heap.size) (g := w2.heap.size) (by rfl) (.tmp 45) (.tmp 56) rfl v1 acc ⟨rd X 0, rd X 1, rd X 2⟩ rfl rfl (by first | exact blk_drew (blk_new w2 _) | exact blk_new w2 _) (Kd.R_below HX.out.f1 (by repeat (first | exact Below.refl _ _ | refine below_drew ?_ | refine below_alloc ?_ _))) (below_step HX.out.base (by repeat (first | exact Below.refl _ _ | refine below_drew ?_ | refine below_alloc ?_ _))) (by have := blk_lt HX.out.blk; simp; omega) (by have := HRB.out.lt; simp; omega) (by have := blk_lt HX.out.z; simp; omega) (by have := HMB.out; omega) ?_; intro v6 w6 ho6 hb6 hg6; rw [HAC.out] at ho6; obtain ⟨A6, c6, e6⟩ := Kd.R_slice ho6; subst e6; have HXW := HX.out.below (W1 := _) (by first | exact (show Below w2.heap.size w2 _ from below_drew (below_alloc (Below.refl _ _) (.cells #[.int .i64 (rd X 0), .int .i64 (rd X 1), .int .i64 (rd X 2)] 41)))); have HBK6 := Aside0.mk (HXW.far1 hg6); have y6 := (blk_cell HBK6.out 1).trans (show _ = some v1 from rfl); have y6f := blk_frozen HBK6.out 1; have HS6 := Aside0.mk (fun (W2 : World) (hg2 : W2.heap[gs]? = some (.cells #[.int .i64 (rd H 0), .slice A6 ac2.length c6, .slice none 0 0, .slice none 0 0, .slice none 0 0, .slice none 0 0, .slice none 0 0, .slice none 0 0, .slice none 0 0, .int .i64 (rd H 1), .bool (rd H 2 == 1)] 29 (0, 0))) (ho : Only gs w6 W2) => And.intro (HXW.app1 ho6 hb6 hg6 hg2 ho) (HXW.rb1 (HRB.out.below (show Below w2.heap.size w2 _ from below_drew (below_alloc (Below.refl _ _) (.cells #[.int .i64 (rd X 0), .int .i64 (rd X 1), .int .i64 (rd X 2)] 41)))) (by decide) hg6 ho)); have HK6 := Aside0.mk (fun (W2 : World) (ho : Only gs w6 W2) => (show W2.cell? ⟨ga, 0, none⟩ = some (.int .i64 (rd X 0)) ∧ W2.cell? ⟨ga, 1, none⟩ = some (.int .i64 (rd X 1)) ∧ W2.cell? ⟨ga, 2, none⟩ = some (.int .i64 (rd X 2)) from ⟨far_cells (Kd.R_below HX9.out (show Below w2.heap.size w2 _ from below_drew (below_alloc (Below.refl _ _) (.cells #[.int .i64 (rd X 0), .int .i64 (rd X 1), .int .i64 (rd X 2)] 41)))) HXW.f1 (by decide) hg6 ho 0 j0, far_cells (Kd.R_below HX9.out (show Below w2.heap.size w2 _ from below_drew (below_alloc (Below.refl _ _) (.cells #[.int .i64 (rd X 0), .int .i64 (rd X 1), .int .i64 (rd X 2)] 41)))) HXW.f1 (by decide) hg6 ho 1 j1, far_cells (Kd.R_below HX9.out (show Below w2.heap.size w2 _ from below_drew (below_alloc (Below.refl _ _) (.cells #[.int .i64 (rd X 0), .int .i64 (rd X 1), .int .i64 (rd X 2)] 41)))) HXW.f1 (by decide) hg6 ho 2 j2⟩)); clear HXW ho6 hb6 hg6)
            refine hK.out _ _ (HK6.out _ (Only.refl _ _)) (fun hHeld => ?_)
            clear hK K
            refine wpAnyH_take (i := 15) (v := ?v13) rfl (by kernel_rfl) (by kernel_rfl) (by kernel_rfl) (fun _ _ _ h => h) (Or.inl ⟨by rfl, ?hy13⟩) (by assumption) ?rest13
            case hy13 => (intro w' hSw; (try dsimp only at hSw); go_simp; try with_reducible rfl)
            try simp only [Act.put, List.setIfInBounds_toArray, List.set_cons_zero, List.set_cons_succ]
            refine wpAnyH_take (i := 16) (v := ?v14) rfl (by kernel_rfl) (by kernel_rfl) (by kernel_rfl) (fun _ _ _ h => h) (Or.inl ⟨by rfl, ?hy14⟩) (by assumption) ?rest14
            case hy14 => (intro w' hSw; (try dsimp only at hSw); go_simp; try with_reducible rfl)
            try simp only [Act.put, List.setIfInBounds_toArray, List.set_cons_zero, List.set_cons_succ]
            refine wpAnyH_ready (rs := [17]) (by kernel_rfl) (by simp) (AllReadyH.cons rfl (fun K hK => ?_) AllReadyH.nil)
            go_simp
            refine hK.out _ _ (by first | exact HK6.out _ (Only.set _ _ _ _) | exact HK6.out _ (Only.trans (Only.set _ _ _ _) (Only.drew _ _))) (fun hHeld => ?_)
            clear hK K
            refine wpAnyH_done (by kernel_rfl) ?_ _
            go_wp2_with fail
            go_roundg f
            case measure => omega
            case rel => exact ⟨m - 1, nextR b', jsB 3 b' false, ac2, .slice A6 ac2.length c6, by first | rw [hwr] | (simp only [hwr]; done) | go_num, ⟨by have := HM.out; omega⟩, by rw [← HAC.out, List.length_append]; simp; omega, HZN, ⟨by rw [← HAC.out, ← HMK.out]; exact HLN.out.1, HLN.out.2⟩, ⟨(HS6.out _ (by first | exact blk_drew (by rw [blk_set HBK6.out 1 _]; rfl) | (rw [blk_set HBK6.out 1 _]; rfl)) (by first | exact Only.set _ _ _ _ | exact Only.trans (Only.set _ _ _ _) (Only.drew _ _))).2⟩, ⟨(HS6.out _ (by first | exact blk_drew (by rw [blk_set HBK6.out 1 _]; rfl) | (rw [blk_set HBK6.out 1 _]; rfl)) (by first | exact Only.set _ _ _ _ | exact Only.trans (Only.set _ _ _ _) (Only.drew _ _))).1⟩⟩
          · go_simp
            refine hK.out _ _ (by exact keep3 (by repeat (first | exact Below.refl _ _ | refine below_drew ?_ | refine below_alloc ?_ _ | refine pw_below_drewN ?_ _)) HK3.out) (fun hHeld => ?_)
            clear hK K
            refine wpAnyH_ready (rs := [2]) (by kernel_rfl) (by simp) (AllReadyH.cons rfl (fun K hK => ?_) AllReadyH.nil)
            go_simp
            refine hK.out _ _ (by exact keep3 (by repeat (first | exact Below.refl _ _ | refine below_drew ?_ | refine below_alloc ?_ _ | refine pw_below_drewN ?_ _)) HK3.out) (fun hHeld => ?_)
            clear hK K
            refine wpAnyH_ready (rs := [14]) (by kernel_rfl) (by simp) (AllReadyH.cons rfl (fun K hK => ?_) AllReadyH.nil)
            (refine acct_step (w := w) (gs := gs) (gr := gr) (gz := w.heap.size) (g := w2.heap.size) (by rfl) (.tmp 45) (.tmp 56) rfl v1 acc ⟨rd X 0, rd X 1, rd X 2⟩ rfl rfl (by first | exact blk_drew (blk_new w2 _) | exact blk_new w2 _) (Kd.R_below HX.out.f1 (by repeat (first | exact Below.refl _ _ | refine below_drew ?_ | refine below_alloc ?_ _))) (below_step HX.out.base (by repeat (first | exact Below.refl _ _ | refine below_drew ?_ | refine below_alloc ?_ _))) (by have := blk_lt HX.out.blk; simp; omega) (by have := HRB.out.lt; simp; omega) (by have := blk_lt HX.out.z; simp; omega) (by have := HMB.out; omega) ?_; intro v6 w6 ho6 hb6 hg6; rw [HAC.out] at ho6; obtain ⟨A6, c6, e6⟩ := Kd.R_slice ho6; subst e6; have HXW := HX.out.below (W1 := _) (by first | exact (show Below w2.heap.size w2 _ from below_drew (below_alloc (Below.refl _ _) (.cells #[.int .i64 (rd X 0), .int .i64 (rd X 1), .int .i64 (rd X 2)] 41)))); have HBK6 := Aside0.mk (HXW.far1 hg6); have y6 := (blk_cell HBK6.out 1).trans (show _ = some v1 from rfl); have y6f := blk_frozen HBK6.out 1; have HS6 := Aside0.mk (fun (W2 : World) (hg2 : W2.heap[gs]? = some (.cells #[.int .i64 (rd H 0), .slice A6 ac2.length c6, .slice none 0 0, .slice none 0 0, .slice none 0 0, .slice none 0 0, .slice none 0 0, .slice none 0 0, .slice none 0 0, .int .i64 (rd H 1), .bool (rd H 2 == 1)] 29 (0, 0))) (ho : Only gs w6 W2) => And.intro (HXW.app1 ho6 hb6 hg6 hg2 ho) (HXW.rb1 (HRB.out.below (show Below w2.heap.size w2 _ from below_drew (below_alloc (Below.refl _ _) (.cells #[.int .i64 (rd X 0), .int .i64 (rd X 1), .int .i64 (rd X 2)] 41)))) (by decide) hg6 ho)); have HK6 := Aside0.mk (fun (W2 : World) (ho : Only gs w6 W2) => (show W2.cell? ⟨ga, 0, none⟩ = some (.int .i64 (rd X 0)) ∧ W2.cell? ⟨ga, 1, none⟩ = some (.int .i64 (rd X 1)) ∧ W2.cell? ⟨ga, 2, none⟩ = some (.int .i64 (rd X 2)) from ⟨far_cells (Kd.R_below HX9.out (show Below w2.heap.size w2 _ from below_drew (below_alloc (Below.refl _ _) (.cells #[.int .i64 (rd X 0), .int .i64 (rd X 1), .int .i64 (rd X 2)] 41)))) HXW.f1 (by decide) hg6 ho 0 j0, far_cells (Kd.R_below HX9.out (show Below w2.heap.size w2 _ from below_drew (below_alloc (Below.refl _ _) (.cells #[.int .i64 (rd X 0), .int .i64 (rd X 1), .int .i64 (rd X 2)] 41)))) HXW.f1 (by decide) hg6 ho 1 j1, far_cells (Kd.R_below HX9.out (show Below w2.heap.size w2 _ from below_drew (below_alloc (Below.refl _ _) (.cells #[.int .i64 (rd X 0), .int .i64 (rd X 1), .int .i64 (rd X 2)] 41)))) HXW.f1 (by decide) hg6 ho 2 j2⟩)); clear HXW ho6 hb6 hg6)
            refine hK.out _ _ (HK6.out _ (Only.refl _ _)) (fun hHeld => ?_)
            clear hK K
            refine wpAnyH_take (i := 15) (v := ?v15) rfl (by kernel_rfl) (by kernel_rfl) (by kernel_rfl) (fun _ _ _ h => h) (Or.inl ⟨by rfl, ?hy15⟩) (by assumption) ?rest15
            case hy15 => (intro w' hSw; (try dsimp only at hSw); go_simp; try with_reducible rfl)
            try simp only [Act.put, List.setIfInBounds_toArray, List.set_cons_zero, List.set_cons_succ]
            refine wpAnyH_take (i := 16) (v := ?v16) rfl (by kernel_rfl) (by kernel_rfl) (by kernel_rfl) (fun _ _ _ h => h) (Or.inl ⟨by rfl, ?hy16⟩) (by assumption) ?rest16
            case hy16 => (intro w' hSw; (try dsimp only at hSw); go_simp; try with_reducible rfl)
            try simp only [Act.put, List.setIfInBounds_toArray, List.set_cons_zero, List.set_cons_succ]
            refine wpAnyH_ready (rs := [17]) (by kernel_rfl) (by simp) (AllReadyH.cons rfl (fun K hK => ?_) AllReadyH.nil)
            go_simp
            refine hK.out _ _ (by first | exact HK6.out _ (Only.set _ _ _ _) | exact HK6.out _ (Only.trans (Only.set _ _ _ _) (Only.drew _ _))) (fun hHeld => ?_)
            clear hK K
            refine wpAnyH_done (by kernel_rfl) ?_ _
            go_wp2_with fail
            go_roundg f
            case measure => omega
            case rel => exact ⟨m - 1, nextR b', jsB 3 b' false, ac2, .slice A6 ac2.length c6, by first | rw [hwr] | (simp only [hwr]; done) | go_num, ⟨by have := HM.out; omega⟩, by rw [← HAC.out, List.length_append]; simp; omega, HZN, ⟨by rw [← HAC.out, ← HMK.out]; exact HLN.out.1, HLN.out.2⟩, ⟨(HS6.out _ (by first | exact blk_drew (by rw [blk_set HBK6.out 1 _]; rfl) | (rw [blk_set HBK6.out 1 _]; rfl)) (by first | exact Only.set _ _ _ _ | exact Only.trans (Only.set _ _ _ _) (Only.drew _ _))).2⟩, ⟨(HS6.out _ (by first | exact blk_drew (by rw [blk_set HBK6.out 1 _]; rfl) | (rw [blk_set HBK6.out 1 _]; rfl)) (by first | exact Only.set _ _ _ _ | exact Only.trans (Only.set _ _ _ _) (Only.drew _ _))).1⟩⟩
        · have HL2 := HL1.out
          rw [hf, its_end mkA (jsB 3) cgo] at HL2
          have hacc : acc = L1.1 := by rw [← HL2.1]; simp
          have hpb : (b', bad') = L1.2 := HL2.2
          have HE := Aside0.mk (And.intro hacc hpb)
          clear HL2 HL1 HZ hacc hpb
          by_cases cm : 0 < m
          · have cmb : decide (0 < m) = true := decide_eq_true cm
            cases bad' with
            | false => exact absurd ⟨cm, rfl⟩ cgo
            | true =>
              go_wp2_with fail
              go_meet
              exact ⟨v1, by rw [← HE.out.1]; exact HX, by rw [← HE.out.2]; exact HRB⟩
          · have cmb : decide (0 < m) = false := decide_eq_false cm
            go_wp2_with fail
            go_meet
            exact ⟨v1, by rw [← HE.out.1]; exact HX, by rw [← HE.out.2]; exact HRB⟩
    case rest =>
      clear HX HRB HL1 HZ1 k3
      obtain ⟨v1, HX, HRB⟩ := hcut
      have hL1l := HPAL.out
      obtain ⟨L2, hL2⟩ : ∃ L, itR (rd H 4) L1.2 = L := ⟨_, rfl⟩
      have HL2 := Aside0.mk (show its nextL rowB (L1.2.1.length + 2) (rd H 4) L1.2.1 L1.2.2 = L2 from hL2)
      have hL2l : L2.2.1.length ≤ b.length := by rw [← hL2]; exact Nat.le_trans (its_left _ _ _ _ _ _).1 (by omega)
      have HL2q := Aside0.mk hL2
      clear hL2
      have i4 : 4 < H.length := by omega
      have e4 : (4 : Int) < (H.length : Int) := by omega
      have k4 := (show _ = some (Value.int .i64 (rd H 4)) from (Kd.R_celln 0 HX.out.f0 4 (by decide) (by omega)).1)
      rw [show ((4 : Int)).toNat = 4 from rfl] at k4
      go_upto_region 10 with (first | ((with_reducible refine gate_dst (N := 64) rfl ?_); (try (refine gate_guard (by rfl) ?_; dsimp only)); refine goesL_ (some 64) rfl rfl Try.func18 (by kernel_rfl) rfl #[.pointer (some ⟨gr, 0, none⟩), .int .i64 (rd H 4)] rfl (by (try simp only [List.map_toArray, List.map_cons, List.map_nil]); first | done | rfl | (simp only [List.length_drop, List.length_take]; rfl)) ?_; refine (sMany w gr L1.2.1 L1.2.2 (rd H 4) _ HRB.out (by omega) (HBD.out 4).1 (HBD.out 4).2).mono ?_; rintro e w2 ⟨v2, rfl, ho, hR, hF⟩; refine ⟨_, rfl, ?_⟩; rw [show its nextL rowB (L1.2.1.length + 2) (rd H 4) L1.2.1 L1.2.2 = L2 from HL2.out] at ho hR; have HX_ := Aside0.mk (HX.out.fg hF); have HU := Aside0.mk (HX.out.new HRB.out.lt ho); clear HX HRB hF; have HX := HX_; have HRB := Aside0.mk hR; clear ho hR HX_; obtain ⟨B2, d2, e2⟩ := Kd.R_slice HU.out; subst e2) | ((with_reducible refine gate_none rfl ?_); refine store_only rfl 23 (.tmp 66) (.tmp 64) rfl gs 2 (.slice B2 L2.1.length d2) rfl rfl 29 _ #[.int .i64 (rd H 0), v1, .slice B2 L2.1.length d2, .slice none 0 0, .slice none 0 0, .slice none 0 0, .slice none 0 0, .slice none 0 0, .slice none 0 0, .int .i64 (rd H 1), .bool (rd H 2 == 1)] HX.out.blk (by kernel_rfl) (show 2 < 11 by decide) rfl rfl rfl ?_; intro w3 hg3 ho3; have HX_ := Aside0.mk (HX.out.set2 HU.out hg3 ho3); have HRB_ := Aside0.mk (HX.out.rb HRB.out ho3); clear HX HRB HU hg3 ho3; have HX := HX_; have HRB := HRB_; clear HX_ HRB_))
      clear k4
      obtain ⟨X3, hX3⟩ : ∃ X, nextL L2.2.1 = X := ⟨_, rfl⟩
      have HX3 := Aside0.mk hX3
      obtain ⟨P3, hP3⟩ : ∃ Q, nx L2.2 = Q := ⟨_, rfl⟩
      have HP3 := Aside0.mk hP3
      have hP3l : P3.1.length ≤ b.length := by rw [← hP3]; exact Nat.le_trans (nextR_len _) (by omega)
      go_upto_region 11 with (first | ((with_reducible refine gate_dst (N := 68) rfl ?_); (try (refine gate_guard (by rfl) ?_; dsimp only)); refine goesL_ (some 68) rfl rfl Try.func19 (by kernel_rfl) rfl #[.pointer (some ⟨gr, 0, none⟩)] rfl (by (try simp only [List.map_toArray, List.map_cons, List.map_nil]); first | done | rfl | (simp only [List.length_drop, List.length_take]; rfl)) ?_; refine (sRow w gr L2.2.1 L2.2.2 _ HRB.out).mono ?_; rintro e w2 ⟨v2, rfl, ho, hR, hF⟩; refine ⟨_, rfl, ?_⟩; rw [HX3.out] at ho; have HX_ := Aside0.mk (HX.out.fg hF); have HU := Aside0.mk (HX.out.new HRB.out.lt ho); clear HX HRB hF; have HX := HX_; have HRB := Aside0.mk hR; clear ho hR HX_; obtain ⟨B3, d3, e2⟩ := Kd.R_slice HU.out; subst e2) | ((with_reducible refine gate_none rfl ?_); refine store_only rfl 24 (.tmp 70) (.tmp 68) rfl gs 3 (.slice B3 X3.length d3) rfl rfl 29 _ #[.int .i64 (rd H 0), v1, .slice B2 L2.1.length d2, .slice B3 X3.length d3, .slice none 0 0, .slice none 0 0, .slice none 0 0, .slice none 0 0, .slice none 0 0, .int .i64 (rd H 1), .bool (rd H 2 == 1)] HX.out.blk (by kernel_rfl) (show 3 < 11 by decide) rfl rfl rfl ?_; intro w3 hg3 ho3; have HX_ := Aside0.mk (HX.out.set3 HU.out hg3 ho3); have HRB_ := Aside0.mk (HX.out.rb HRB.out ho3); clear HX HRB HU hg3 ho3; have HX := HX_; have HRB := HRB_; clear HX_ HRB_))
      rw [show (nextR L2.2.1) = P3.1 by rw [← hP3]; rfl, show (rowB L2.2.1 L2.2.2) = P3.2 by rw [← hP3]; rfl] at HRB
      clear hX3 hP3
      obtain ⟨L4, hL4⟩ : ∃ L, itR (rd H 6) P3 = L := ⟨_, rfl⟩
      have HL4 := Aside0.mk (show its nextL rowB (P3.1.length + 2) (rd H 6) P3.1 P3.2 = L4 from hL4)
      have hL4l : L4.2.1.length ≤ b.length := by rw [← hL4]; exact Nat.le_trans (its_left _ _ _ _ _ _).1 (by omega)
      have HL4q := Aside0.mk hL4
      clear hL4
      have i6 : 6 < H.length := by omega
      have e6 : (6 : Int) < (H.length : Int) := by omega
      have k6 := (show _ = some (Value.int .i64 (rd H 6)) from (Kd.R_celln 0 HX.out.f0 6 (by decide) (by omega)).1)
      rw [show ((6 : Int)).toNat = 6 from rfl] at k6
      go_upto_region 12 with (first | ((with_reducible refine gate_dst (N := 75) rfl ?_); (try (refine gate_guard (by rfl) ?_; dsimp only)); refine goesL_ (some 75) rfl rfl Try.func18 (by kernel_rfl) rfl #[.pointer (some ⟨gr, 0, none⟩), .int .i64 (rd H 6)] rfl (by (try simp only [List.map_toArray, List.map_cons, List.map_nil]); first | done | rfl | (simp only [List.length_drop, List.length_take]; rfl)) ?_; refine (sMany w gr P3.1 P3.2 (rd H 6) _ HRB.out (by omega) (HBD.out 6).1 (HBD.out 6).2).mono ?_; rintro e w2 ⟨v2, rfl, ho, hR, hF⟩; refine ⟨_, rfl, ?_⟩; rw [show its nextL rowB (P3.1.length + 2) (rd H 6) P3.1 P3.2 = L4 from HL4.out] at ho hR; have HX_ := Aside0.mk (HX.out.fg hF); have HU := Aside0.mk (HX.out.new HRB.out.lt ho); clear HX HRB hF; have HX := HX_; have HRB := Aside0.mk hR; clear ho hR HX_; obtain ⟨B4, d4, e2⟩ := Kd.R_slice HU.out; subst e2) | ((with_reducible refine gate_none rfl ?_); refine store_only rfl 23 (.tmp 77) (.tmp 75) rfl gs 4 (.slice B4 L4.1.length d4) rfl rfl 29 _ #[.int .i64 (rd H 0), v1, .slice B2 L2.1.length d2, .slice B3 X3.length d3, .slice B4 L4.1.length d4, .slice none 0 0, .slice none 0 0, .slice none 0 0, .slice none 0 0, .int .i64 (rd H 1), .bool (rd H 2 == 1)] HX.out.blk (by kernel_rfl) (show 4 < 11 by decide) rfl rfl rfl ?_; intro w3 hg3 ho3; have HX_ := Aside0.mk (HX.out.set4 HU.out hg3 ho3); have HRB_ := Aside0.mk (HX.out.rb HRB.out ho3); clear HX HRB HU hg3 ho3; have HX := HX_; have HRB := HRB_; clear HX_ HRB_))
      clear k6
      obtain ⟨X5, hX5⟩ : ∃ X, nextL L4.2.1 = X := ⟨_, rfl⟩
      have HX5 := Aside0.mk hX5
      obtain ⟨P5, hP5⟩ : ∃ Q, nx L4.2 = Q := ⟨_, rfl⟩
      have HP5 := Aside0.mk hP5
      have hP5l : P5.1.length ≤ b.length := by rw [← hP5]; exact Nat.le_trans (nextR_len _) (by omega)
      go_upto_region 13 with (first | ((with_reducible refine gate_dst (N := 79) rfl ?_); (try (refine gate_guard (by rfl) ?_; dsimp only)); refine goesL_ (some 79) rfl rfl Try.func19 (by kernel_rfl) rfl #[.pointer (some ⟨gr, 0, none⟩)] rfl (by (try simp only [List.map_toArray, List.map_cons, List.map_nil]); first | done | rfl | (simp only [List.length_drop, List.length_take]; rfl)) ?_; refine (sRow w gr L4.2.1 L4.2.2 _ HRB.out).mono ?_; rintro e w2 ⟨v2, rfl, ho, hR, hF⟩; refine ⟨_, rfl, ?_⟩; rw [HX5.out] at ho; have HX_ := Aside0.mk (HX.out.fg hF); have HU := Aside0.mk (HX.out.new HRB.out.lt ho); clear HX HRB hF; have HX := HX_; have HRB := Aside0.mk hR; clear ho hR HX_; obtain ⟨B5, d5, e2⟩ := Kd.R_slice HU.out; subst e2) | ((with_reducible refine gate_none rfl ?_); refine store_only rfl 24 (.tmp 80) (.tmp 79) rfl gs 5 (.slice B5 X5.length d5) rfl rfl 29 _ #[.int .i64 (rd H 0), v1, .slice B2 L2.1.length d2, .slice B3 X3.length d3, .slice B4 L4.1.length d4, .slice B5 X5.length d5, .slice none 0 0, .slice none 0 0, .slice none 0 0, .int .i64 (rd H 1), .bool (rd H 2 == 1)] HX.out.blk (by kernel_rfl) (show 5 < 11 by decide) rfl rfl rfl ?_; intro w3 hg3 ho3; have HX_ := Aside0.mk (HX.out.set5 HU.out hg3 ho3); have HRB_ := Aside0.mk (HX.out.rb HRB.out ho3); clear HX HRB HU hg3 ho3; have HX := HX_; have HRB := HRB_; clear HX_ HRB_))
      rw [show (nextR L4.2.1) = P5.1 by rw [← hP5]; rfl, show (rowB L4.2.1 L4.2.2) = P5.2 by rw [← hP5]; rfl] at HRB
      clear hX5 hP5
      obtain ⟨L6, hL6⟩ : ∃ L, itR (rd H 7) P5 = L := ⟨_, rfl⟩
      have HL6 := Aside0.mk (show its nextL rowB (P5.1.length + 2) (rd H 7) P5.1 P5.2 = L6 from hL6)
      have hL6l : L6.2.1.length ≤ b.length := by rw [← hL6]; exact Nat.le_trans (its_left _ _ _ _ _ _).1 (by omega)
      have HL6q := Aside0.mk hL6
      clear hL6
      have i7 : 7 < H.length := by omega
      have e7 : (7 : Int) < (H.length : Int) := by omega
      have k7 := (show _ = some (Value.int .i64 (rd H 7)) from (Kd.R_celln 0 HX.out.f0 7 (by decide) (by omega)).1)
      rw [show ((7 : Int)).toNat = 7 from rfl] at k7
      go_upto_region 14 with (first | ((with_reducible refine gate_dst (N := 85) rfl ?_); (try (refine gate_guard (by rfl) ?_; dsimp only)); refine goesL_ (some 85) rfl rfl Try.func18 (by kernel_rfl) rfl #[.pointer (some ⟨gr, 0, none⟩), .int .i64 (rd H 7)] rfl (by (try simp only [List.map_toArray, List.map_cons, List.map_nil]); first | done | rfl | (simp only [List.length_drop, List.length_take]; rfl)) ?_; refine (sMany w gr P5.1 P5.2 (rd H 7) _ HRB.out (by omega) (HBD.out 7).1 (HBD.out 7).2).mono ?_; rintro e w2 ⟨v2, rfl, ho, hR, hF⟩; refine ⟨_, rfl, ?_⟩; rw [show its nextL rowB (P5.1.length + 2) (rd H 7) P5.1 P5.2 = L6 from HL6.out] at ho hR; have HX_ := Aside0.mk (HX.out.fg hF); have HU := Aside0.mk (HX.out.new HRB.out.lt ho); clear HX HRB hF; have HX := HX_; have HRB := Aside0.mk hR; clear ho hR HX_; obtain ⟨B6, d6, e2⟩ := Kd.R_slice HU.out; subst e2) | ((with_reducible refine gate_none rfl ?_); refine store_only rfl 23 (.tmp 86) (.tmp 85) rfl gs 6 (.slice B6 L6.1.length d6) rfl rfl 29 _ #[.int .i64 (rd H 0), v1, .slice B2 L2.1.length d2, .slice B3 X3.length d3, .slice B4 L4.1.length d4, .slice B5 X5.length d5, .slice B6 L6.1.length d6, .slice none 0 0, .slice none 0 0, .int .i64 (rd H 1), .bool (rd H 2 == 1)] HX.out.blk (by kernel_rfl) (show 6 < 11 by decide) rfl rfl rfl ?_; intro w3 hg3 ho3; have HX_ := Aside0.mk (HX.out.set6 HU.out hg3 ho3); have HRB_ := Aside0.mk (HX.out.rb HRB.out ho3); clear HX HRB HU hg3 ho3; have HX := HX_; have HRB := HRB_; clear HX_ HRB_))
      clear k7
      have i8 : 8 < H.length := by omega
      have e8 : (8 : Int) < (H.length : Int) := by omega
      have k8 := (show _ = some (Value.int .i64 (rd H 8)) from (Kd.R_celln 0 HX.out.f0 8 (by decide) (by omega)).1)
      rw [show ((8 : Int)).toNat = 8 from rfl] at k8
      go_upto_block 2 with fail
      have HX_ := Aside0.mk (show SI w _ gs gr w.heap.size (.slice (some ⟨gh, 0, none⟩) H.length ch) v1 (.slice B2 L2.1.length d2) (.slice B3 X3.length d3) (.slice B4 L4.1.length d4) (.slice B5 X5.length d5) (.slice B6 L6.1.length d6) (.slice none 0 0) (.slice none 0 0) H ⟨rd H 0, L1.1, L2.1, X3, L4.1, X5, L6.1, [], [], rd H 1, rd H 2 == 1⟩ from HX.out)
      clear HX
      have HX := HX_
      clear HX_
      obtain ⟨L7, hL7⟩ : ∃ L, itP (rd H 8) L6.2 = L := ⟨_, rfl⟩
      have HL7 := Aside0.mk hL7
      have HL7q := Aside0.mk hL7
      have HPAL7 := Aside0.mk (show L7.2.1.length ≤ b.length by rw [← hL7]; exact Nat.le_trans (its_left _ _ _ _ _ _).1 hL6l)
      have HZ7 := Aside0.mk (show Fz (L6.2.1.length + 2) L6.2.1 L6.2.2 from ⟨by omega, fun _ => Nat.le_refl _⟩)
      clear hL7
      go_cut [] (fun wx => ∃ v7 : Value, Aside0 (SI w wx gs gr w.heap.size (.slice (some ⟨gh, 0, none⟩) H.length ch) v1 (.slice B2 L2.1.length d2) (.slice B3 X3.length d3) (.slice B4 L4.1.length d4) (.slice B5 X5.length d5) (.slice B6 L6.1.length d6) v7 (.slice none 0 0) H ⟨rd H 0, L1.1, L2.1, X3, L4.1, X5, L6.1, L7.1, [], rd H 1, rd H 2 == 1⟩) ∧ Aside0 (RB 47 w wx gr L7.2.1 L7.2.2))
      case first =>
        go_wp2
        go_loopg [9, 10] (L6.2.1.length + 2) (fun kq v9 v10 w' => ∃ (m : Int) (b' : List Int) (bad' : Bool) (acc : List S43) (v7 : Value), v9 = .int .i64 m ∧ Aside0 (-9223372036854775808 ≤ m ∧ m < 9223372036854775808) ∧ acc.length + kq ≤ b.length + 2 ∧ Aside0 (Fz kq b' bad') ∧ Aside0 (acc ++ (its mkP (jsB 7) kq m b' bad').1 = L7.1 ∧ (its mkP (jsB 7) kq m b' bad').2 = L7.2) ∧ Aside0 (RB 47 w w' gr b' bad') ∧ Aside0 (SI w w' gs gr w.heap.size (.slice (some ⟨gh, 0, none⟩) H.length ch) v1 (.slice B2 L2.1.length d2) (.slice B3 X3.length d3) (.slice B4 L4.1.length d4) (.slice B5 X5.length d5) (.slice B6 L6.1.length d6) v7 (.slice none 0 0) H ⟨rd H 0, L1.1, L2.1, X3, L4.1, X5, L6.1, acc, [], rd H 1, rd H 2 == 1⟩))
        case atStart => exact ⟨rd H 8, L6.2.1, L6.2.2, [], .slice none 0 0, rfl, ⟨HBD.out 8⟩, by simp; omega, HZ7, ⟨HL7.out ▸ rfl, HL7.out ▸ rfl⟩, HRB, HX⟩
        case round =>
          clear HRB HX HL7 HZ7 k8
          obtain ⟨m, b', bad', acc, v7, rfl, HM, hacc, HZ, HL1, HRB, HX⟩ := hrel
          obtain ⟨f, hf⟩ : ∃ f, gk = f + 1 := ⟨gk - 1, by have := HZ.out.1; omega⟩
          obtain ⟨A1, c1, hG, _⟩ := HRB.out.blk
          obtain ⟨z0, z1, zf0, zf1⟩ := cells2 hG
          clear hG
          by_cases cgo : 0 < m ∧ bad' = false
          · obtain ⟨cm, cbf⟩ := cgo
            subst cbf
            have cmb : decide (0 < m) = true := decide_eq_true cm
            have hwr : wrap64 (m - 1) = m - 1 := by have := HM.out; unfold wrap64; omega
            have HL2 := HL1.out
            rw [hf, its_go mkP (jsB 7) cm rfl] at HL2
            have HLN := Aside0.mk (show (acc ++ [mkP b']) ++ (its mkP (jsB 7) f (m - 1) (nextR b') (jsB 7 b' false)).1 = L7.1 ∧ (its mkP (jsB 7) f (m - 1) (nextR b') (jsB 7 b' false)).2 = L7.2 from ⟨by rw [← HL2.1, List.append_assoc]; rfl, HL2.2⟩)
            have HZN := Aside0.mk (Fz.step (bad' := jsB 7 b' false) (by rw [← hf]; exact HZ.out) rfl jsB_ok)
            clear HL2 HL1 HZ
            go_upto_region 18 with (first | ((with_reducible refine gate_dst (N := 102) rfl ?_); (try (refine gate_guard (by rfl) ?_; dsimp only)); refine goesL_ (some 102) rfl rfl Try.func17 (by kernel_rfl) rfl #[.pointer (some ⟨gr, 0, none⟩), .int .i64 7] rfl (by (try simp only [List.map_toArray, List.map_cons, List.map_nil]); first | done | rfl | (simp only [List.length_drop, List.length_take]; rfl)) ?_; refine (sJust w gr b' false 7 _ HRB.out (by decide)).mono ?_; rintro e w2 ⟨v2, rfl, ho, hR, hF⟩; refine ⟨_, rfl, ?_⟩; have HO := Aside0.mk ho; have HX_ := Aside0.mk (HX.out.fg hF); have HX9 := Aside0.mk (HX.out.new HRB.out.lt ho); clear HX HRB hF z0 z1 zf0 zf1; have HX := HX_; have HRB := Aside0.mk hR; clear ho hR HX_; obtain ⟨ga, ca, e2, _, hlta, _⟩ := Kd.R_form HO.out (by rw [jsL_len]; decide); subst e2))
            have q3 : 7 ≤ (jsL 7 b').length ∧ (jsL 7 b').length ≤ 7 := by rw [jsL_len]; exact ⟨Nat.le_refl _, Nat.le_refl _⟩
            have HMK := Aside0.mk (show mkP b' = ⟨rd (jsL 7 b') 0, rd (jsL 7 b') 1, rd (jsL 7 b') 2, rd (jsL 7 b') 3, rd (jsL 7 b') 4, rd (jsL 7 b') 5, rd (jsL 7 b') 6⟩ from rfl)
            generalize jsL 7 b' = X at *
            have HK3 := Aside0.mk (show w2.cell? ⟨ga, 0, none⟩ = some (.int .i64 (rd X 0)) ∧ w2.cell? ⟨ga, 1, none⟩ = some (.int .i64 (rd X 1)) ∧ w2.cell? ⟨ga, 2, none⟩ = some (.int .i64 (rd X 2)) ∧ w2.cell? ⟨ga, 3, none⟩ = some (.int .i64 (rd X 3)) ∧ w2.cell? ⟨ga, 4, none⟩ = some (.int .i64 (rd X 4)) ∧ w2.cell? ⟨ga, 5, none⟩ = some (.int .i64 (rd X 5)) ∧ w2.cell? ⟨ga, 6, none⟩ = some (.int .i64 (rd X 6)) from ⟨(Kd.R_celln 0 HO.out 0 (by decide) (by omega)).1, (Kd.R_celln 0 HO.out 1 (by decide) (by omega)).1, (Kd.R_celln 0 HO.out 2 (by decide) (by omega)).1, (Kd.R_celln 0 HO.out 3 (by decide) (by omega)).1, (Kd.R_celln 0 HO.out 4 (by decide) (by omega)).1, (Kd.R_celln 0 HO.out 5 (by decide) (by omega)).1, (Kd.R_celln 0 HO.out 6 (by decide) (by omega)).1⟩)
            have j0 : (0 : Nat) < X.length := by omega
            have j1 : 1 < X.length := by omega
            have j2 : 2 < X.length := by omega
            have e1 : (1 : Int) < (X.length : Int) := by omega
            have e2 : (2 : Int) < (X.length : Int) := by omega
            have j3 : 3 < X.length := by omega
            have e3 : (3 : Int) < (X.length : Int) := by omega
            have j4 : 4 < X.length := by omega
            have e4 : (4 : Int) < (X.length : Int) := by omega
            have j5 : 5 < X.length := by omega
            have e5 : (5 : Int) < (X.length : Int) := by omega
            have j6 : 6 < X.length := by omega
            have e6 : (6 : Int) < (X.length : Int) := by omega
            have y1 : w2.cell? ⟨gs, 7, none⟩ = some v7 := (blk_cell HX.out.blk 7).trans rfl
            have yo : ∀ o : Obj, (w2.alloc o).cell? ⟨gs, 7, none⟩ = some v7 := fun o => pw_cell_below (below_alloc (Below.refl _ _) o) y1
            have yd : ∀ o : Obj, (w2.alloc o).drew.cell? ⟨gs, 7, none⟩ = some v7 := yo
            have HMB := Aside0.mk (show acc.length + 1 ≤ 20000000000 by omega)
            obtain ⟨ac2, hac2⟩ : ∃ Z, acc ++ [(⟨rd X 0, rd X 1, rd X 2, rd X 3, rd X 4, rd X 5, rd X 6⟩ : S43)] = Z := ⟨_, rfl⟩
            have HAC := Aside0.mk hac2
            clear hac2
            refine wp_region_held_drew (S := fun w' => w'.cell? ⟨ga, 0, none⟩ = some (.int .i64 (rd X 0)) ∧ w'.cell? ⟨ga, 1, none⟩ = some (.int .i64 (rd X 1)) ∧ w'.cell? ⟨ga, 2, none⟩ = some (.int .i64 (rd X 2)) ∧ w'.cell? ⟨ga, 3, none⟩ = some (.int .i64 (rd X 3)) ∧ w'.cell? ⟨ga, 4, none⟩ = some (.int .i64 (rd X 4)) ∧ w'.cell? ⟨ga, 5, none⟩ = some (.int .i64 (rd X 5)) ∧ w'.cell? ⟨ga, 6, none⟩ = some (.int .i64 (rd X 6))) (by kernel_rfl) (keep7 (by repeat (first | exact Below.refl _ _ | refine below_drew ?_ | refine below_alloc ?_ _ | refine pw_below_drewN ?_ _)) HK3.out) (fun hHeld => ?_)
            refine wpAnyH_take (i := 0) (v := ?v17) rfl (by kernel_rfl) (by kernel_rfl) (by kernel_rfl) (fun _ _ _ h => h) (Or.inl ⟨by rfl, ?hy17⟩) (by assumption) ?rest17
            case hy17 => (intro w' hSw; (try dsimp only at hSw); go_simp; try with_reducible rfl)
            try simp only [Act.put, List.setIfInBounds_toArray, List.set_cons_zero, List.set_cons_succ]
            refine wpAnyH_take (i := 2) (v := ?v18) rfl (by kernel_rfl) (by kernel_rfl) (by kernel_rfl) (fun _ _ _ h => h) (Or.inl ⟨by rfl, ?hy18⟩) (by assumption) ?rest18
            case hy18 => (intro w' hSw; (try dsimp only at hSw); go_simp; try with_reducible rfl)
            try simp only [Act.put, List.setIfInBounds_toArray, List.set_cons_zero, List.set_cons_succ]
            refine wpAnyH_take (i := 3) (v := ?v19) rfl (by kernel_rfl) (by kernel_rfl) (by kernel_rfl) (fun _ _ _ h => h) (Or.inl ⟨by rfl, ?hy19⟩) (by assumption) ?rest19
            case hy19 => (intro w' hSw; (try dsimp only at hSw); go_simp; try with_reducible rfl)
            try simp only [Act.put, List.setIfInBounds_toArray, List.set_cons_zero, List.set_cons_succ]
            refine wpAnyH_take (i := 4) (v := ?v20) rfl (by kernel_rfl) (by kernel_rfl) (by kernel_rfl) (fun _ _ _ h => h) (Or.inl ⟨by rfl, ?hy20⟩) (by assumption) ?rest20
            case hy20 => (intro w' hSw; (try dsimp only at hSw); go_simp; try with_reducible rfl)
            try simp only [Act.put, List.setIfInBounds_toArray, List.set_cons_zero, List.set_cons_succ]
            refine wpAnyH_take (i := 5) (v := ?v21) rfl (by kernel_rfl) (by kernel_rfl) (by kernel_rfl) (fun _ _ _ h => h) (Or.inl ⟨by rfl, ?hy21⟩) (by assumption) ?rest21
            case hy21 => (intro w' hSw; (try dsimp only at hSw); go_simp; try with_reducible rfl)
            try simp only [Act.put, List.setIfInBounds_toArray, List.set_cons_zero, List.set_cons_succ]
            refine wpAnyH_take (i := 6) (v := ?v22) rfl (by kernel_rfl) (by kernel_rfl) (by kernel_rfl) (fun _ _ _ h => h) (Or.inl ⟨by rfl, ?hy22⟩) (by assumption) ?rest22
            case hy22 => (intro w' hSw; (try dsimp only at hSw); go_simp; try with_reducible rfl)
            try simp only [Act.put, List.setIfInBounds_toArray, List.set_cons_zero, List.set_cons_succ]
            refine wpAnyH_take (i := 7) (v := ?v23) rfl (by kernel_rfl) (by kernel_rfl) (by kernel_rfl) (fun _ _ _ h => h) (Or.inl ⟨by rfl, ?hy23⟩) (by assumption) ?rest23
            case hy23 => (intro w' hSw; (try dsimp only at hSw); go_simp; try with_reducible rfl)
            try simp only [Act.put, List.setIfInBounds_toArray, List.set_cons_zero, List.set_cons_succ]
            refine wpAnyH_take (i := 8) (v := ?v24) rfl (by kernel_rfl) (by kernel_rfl) (by kernel_rfl) (fun _ _ _ h => h) (Or.inl ⟨by rfl, ?hy24⟩) (by assumption) ?rest24
            case hy24 => (intro w' hSw; (try dsimp only at hSw); go_simp; try with_reducible rfl)
            try simp only [Act.put, List.setIfInBounds_toArray, List.set_cons_zero, List.set_cons_succ]
            refine wpAnyH_take (i := 9) (v := ?v25) rfl (by kernel_rfl) (by kernel_rfl) (by kernel_rfl) (fun _ _ _ h => h) (Or.inl ⟨by rfl, ?hy25⟩) (by assumption) ?rest25
            case hy25 => (intro w' hSw; (try dsimp only at hSw); go_simp; try with_reducible rfl)
            try simp only [Act.put, List.setIfInBounds_toArray, List.set_cons_zero, List.set_cons_succ]
            refine wpAnyH_take (i := 10) (v := ?v26) rfl (by kernel_rfl) (by kernel_rfl) (by kernel_rfl) (fun _ _ _ h => h) (Or.inl ⟨by rfl, ?hy26⟩) (by assumption) ?rest26
            case hy26 => (intro w' hSw; (try dsimp only at hSw); go_simp; try with_reducible rfl)
            try simp only [Act.put, List.setIfInBounds_toArray, List.set_cons_zero, List.set_cons_succ]
            refine wpAnyH_take (i := 11) (v := ?v27) rfl (by kernel_rfl) (by kernel_rfl) (by kernel_rfl) (fun _ _ _ h => h) (Or.inl ⟨by rfl, ?hy27⟩) (by assumption) ?rest27
            case hy27 => (intro w' hSw; (try dsimp only at hSw); go_simp; try with_reducible rfl)
            try simp only [Act.put, List.setIfInBounds_toArray, List.set_cons_zero, List.set_cons_succ]
            refine wpAnyH_take (i := 12) (v := ?v28) rfl (by kernel_rfl) (by kernel_rfl) (by kernel_rfl) (fun _ _ _ h => h) (Or.inl ⟨by rfl, ?hy28⟩) (by assumption) ?rest28
            case hy28 => (intro w' hSw; (try dsimp only at hSw); go_simp; try with_reducible rfl)
            try simp only [Act.put, List.setIfInBounds_toArray, List.set_cons_zero, List.set_cons_succ]
            refine wpAnyH_take (i := 13) (v := ?v29) rfl (by kernel_rfl) (by kernel_rfl) (by kernel_rfl) (fun _ _ _ h => h) (Or.inl ⟨by rfl, ?hy29⟩) (by assumption) ?rest29
            case hy29 => (intro w' hSw; (try dsimp only at hSw); go_simp; try with_reducible rfl)
            try simp only [Act.put, List.setIfInBounds_toArray, List.set_cons_zero, List.set_cons_succ]
            refine wpAnyH_take (i := 14) (v := ?v30) rfl (by kernel_rfl) (by kernel_rfl) (by kernel_rfl) (fun _ _ _ h => h) (Or.inl ⟨by rfl, ?hy30⟩) (by assumption) ?rest30
            case hy30 => (intro w' hSw; (try dsimp only at hSw); go_simp; try with_reducible rfl)
            try simp only [Act.put, List.setIfInBounds_toArray, List.set_cons_zero, List.set_cons_succ]
            refine wpAnyH_take (i := 15) (v := ?v31) rfl (by kernel_rfl) (by kernel_rfl) (by kernel_rfl) (fun _ _ _ h => h) (Or.inl ⟨by rfl, ?hy31⟩) (by assumption) ?rest31
            case hy31 => (intro w' hSw; (try dsimp only at hSw); go_simp; try with_reducible rfl)
            try simp only [Act.put, List.setIfInBounds_toArray, List.set_cons_zero, List.set_cons_succ]
            refine wpAnyH_take (i := 16) (v := ?v32) rfl (by kernel_rfl) (by kernel_rfl) (by kernel_rfl) (fun _ _ _ h => h) (Or.inl ⟨by rfl, ?hy32⟩) (by assumption) ?rest32
            case hy32 => (intro w' hSw; (try dsimp only at hSw); go_simp; try with_reducible rfl)
            try simp only [Act.put, List.setIfInBounds_toArray, List.set_cons_zero, List.set_cons_succ]
            refine wpAnyH_take (i := 17) (v := ?v33) rfl (by kernel_rfl) (by kernel_rfl) (by kernel_rfl) (fun _ _ _ h => h) (Or.inl ⟨by rfl, ?hy33⟩) (by assumption) ?rest33
            case hy33 => (intro w' hSw; (try dsimp only at hSw); go_simp; try with_reducible rfl)
            try simp only [Act.put, List.setIfInBounds_toArray, List.set_cons_zero, List.set_cons_succ]
            refine wpAnyH_take (i := 18) (v := ?v34) rfl (by kernel_rfl) (by kernel_rfl) (by kernel_rfl) (fun _ _ _ h => h) (Or.inl ⟨by rfl, ?hy34⟩) (by assumption) ?rest34
            case hy34 => (intro w' hSw; (try dsimp only at hSw); go_simp; try with_reducible rfl)
            try simp only [Act.put, List.setIfInBounds_toArray, List.set_cons_zero, List.set_cons_succ]
            refine wpAnyH_take (i := 19) (v := ?v35) rfl (by kernel_rfl) (by kernel_rfl) (by kernel_rfl) (fun _ _ _ h => h) (Or.inl ⟨by rfl, ?hy35⟩) (by assumption) ?rest35
            case hy35 => (intro w' hSw; (try dsimp only at hSw); go_simp; try with_reducible rfl)
            try simp only [Act.put, List.setIfInBounds_toArray, List.set_cons_zero, List.set_cons_succ]
            refine wpAnyH_take (i := 20) (v := ?v36) rfl (by kernel_rfl) (by kernel_rfl) (by kernel_rfl) (fun _ _ _ h => h) (Or.inl ⟨by rfl, ?hy36⟩) (by assumption) ?rest36
            case hy36 => (intro w' hSw; (try dsimp only at hSw); go_simp; try with_reducible rfl)
            try simp only [Act.put, List.setIfInBounds_toArray, List.set_cons_zero, List.set_cons_succ]
            refine wpAnyH_take (i := 21) (v := ?v37) rfl (by kernel_rfl) (by kernel_rfl) (by kernel_rfl) (fun _ _ _ h => h) (Or.inl ⟨by rfl, ?hy37⟩) (by assumption) ?rest37
            case hy37 => (intro w' hSw; (try dsimp only at hSw); go_simp; try with_reducible rfl)
            try simp only [Act.put, List.setIfInBounds_toArray, List.set_cons_zero, List.set_cons_succ]
            refine wpAnyH_take (i := 22) (v := ?v38) rfl (by kernel_rfl) (by kernel_rfl) (by kernel_rfl) (fun _ _ _ h => h) (Or.inl ⟨by rfl, ?hy38⟩) (by assumption) ?rest38
            case hy38 => (intro w' hSw; (try dsimp only at hSw); go_simp; try with_reducible rfl)
            try simp only [Act.put, List.setIfInBounds_toArray, List.set_cons_zero, List.set_cons_succ]
            refine wpAnyH_take (i := 23) (v := ?v39) rfl (by kernel_rfl) (by kernel_rfl) (by kernel_rfl) (fun _ _ _ h => h) (Or.inl ⟨by rfl, ?hy39⟩) (by assumption) ?rest39
            case hy39 => (intro w' hSw; (try dsimp only at hSw); go_simp; try with_reducible rfl)
            try simp only [Act.put, List.setIfInBounds_toArray, List.set_cons_zero, List.set_cons_succ]
            refine wpAnyH_ready (rs := [1, 24]) (by kernel_rfl) (by simp) (AllReadyH.cons rfl (fun K hK => ?_) (AllReadyH.cons rfl (fun K hK => ?_) AllReadyH.nil))
            · go_simp
              refine hK.out _ _ (by exact keep7 (by repeat (first | exact Below.refl _ _ | refine below_drew ?_ | refine below_alloc ?_ _ | refine pw_below_drewN ?_ _)) HK3.out) (fun hHeld => ?_)
              clear hK K
              refine wpAnyH_ready (rs := [24]) (by kernel_rfl) (by simp) (AllReadyH.cons rfl (fun K hK => ?_) AllReadyH.nil)
              go_simp
              refine hK.out _ _ (by exact keep7 (by repeat (first | exact Below.refl _ _ | refine below_drew ?_ | refine below_alloc ?_ _ | refine pw_below_drewN ?_ _)) HK3.out) (fun hHeld => ?_)
              clear hK K
              refine wpAnyH_ready (rs := [25]) (by kernel_rfl) (by simp) (AllReadyH.cons rfl (fun K hK => ?_) AllReadyH.nil)
              (refine pay_step (w := w) (gs := gs) (gr := gr) (gz := w.heap.size) (g := w2.heap.size) (by rfl) (.tmp 104) (.tmp 127) rfl v7 acc ⟨rd X 0, rd X 1, rd X 2, rd X 3, rd X 4, rd X 5, rd X 6⟩ rfl rfl (by first | exact blk_drew (blk_new w2 _) | exact blk_new w2 _) (Kd.R_below HX.out.f7 (by repeat (first | exact Below.refl _ _ | refine below_drew ?_ | refine below_alloc ?_ _))) (below_step HX.out.base (by repeat (first | exact Below.refl _ _ | refine below_drew ?_ | refine below_alloc ?_ _))) (by have := blk_lt HX.out.blk; simp; omega) (by have := HRB.out.lt; simp; omega) (by have := blk_lt HX.out.z; simp; omega) (by have := HMB.out; omega) ?_; intro v6 w6 ho6 hb6 hg6; rw [HAC.out] at ho6; obtain ⟨A6, c6, e6⟩ := Kd.R_slice ho6; subst e6; have HXW := HX.out.below (W1 := _) (show Below w2.heap.size w2 _ from below_drew (below_alloc (Below.refl _ _) (.cells #[.int .i64 (rd X 0), .int .i64 (rd X 1), .int .i64 (rd X 2), .int .i64 (rd X 3), .int .i64 (rd X 4), .int .i64 (rd X 5), .int .i64 (rd X 6)] 43))); have HBK6 := Aside0.mk (HXW.far7 hg6); have y6 := (blk_cell HBK6.out 7).trans (show _ = some v7 from rfl); have y6f := blk_frozen HBK6.out 7; have HS6 := Aside0.mk (fun (W2 : World) (hg2 : W2.heap[gs]? = some (.cells #[.int .i64 (rd H 0), v1, .slice B2 L2.1.length d2, .slice B3 X3.length d3, .slice B4 L4.1.length d4, .slice B5 X5.length d5, .slice B6 L6.1.length d6, .slice A6 ac2.length c6, .slice none 0 0, .int .i64 (rd H 1), .bool (rd H 2 == 1)] 29 (0, 0))) (ho : Only gs w6 W2) => And.intro (HXW.app7 ho6 hb6 hg6 hg2 ho) (HXW.rb7 (HRB.out.below (show Below w2.heap.size w2 _ from below_drew (below_alloc (Below.refl _ _) (.cells #[.int .i64 (rd X 0), .int .i64 (rd X 1), .int .i64 (rd X 2), .int .i64 (rd X 3), .int .i64 (rd X 4), .int .i64 (rd X 5), .int .i64 (rd X 6)] 43)))) (by decide) hg6 ho)); have HK6 := Aside0.mk (fun (W2 : World) (ho : Only gs w6 W2) => (show W2.cell? ⟨ga, 0, none⟩ = some (.int .i64 (rd X 0)) ∧ W2.cell? ⟨ga, 1, none⟩ = some (.int .i64 (rd X 1)) ∧ W2.cell? ⟨ga, 2, none⟩ = some (.int .i64 (rd X 2)) ∧ W2.cell? ⟨ga, 3, none⟩ = some (.int .i64 (rd X 3)) ∧ W2.cell? ⟨ga, 4, none⟩ = some (.int .i64 (rd X 4)) ∧ W2.cell? ⟨ga, 5, none⟩ = some (.int .i64 (rd X 5)) ∧ W2.cell? ⟨ga, 6, none⟩ = some (.int .i64 (rd X 6)) from ⟨far_cells (Kd.R_below HX9.out (show Below w2.heap.size w2 _ from below_drew (below_alloc (Below.refl _ _) (.cells #[.int .i64 (rd X 0), .int .i64 (rd X 1), .int .i64 (rd X 2), .int .i64 (rd X 3), .int .i64 (rd X 4), .int .i64 (rd X 5), .int .i64 (rd X 6)] 43)))) HXW.f7 (by decide) hg6 ho 0 j0, far_cells (Kd.R_below HX9.out (show Below w2.heap.size w2 _ from below_drew (below_alloc (Below.refl _ _) (.cells #[.int .i64 (rd X 0), .int .i64 (rd X 1), .int .i64 (rd X 2), .int .i64 (rd X 3), .int .i64 (rd X 4), .int .i64 (rd X 5), .int .i64 (rd X 6)] 43)))) HXW.f7 (by decide) hg6 ho 1 j1, far_cells (Kd.R_below HX9.out (show Below w2.heap.size w2 _ from below_drew (below_alloc (Below.refl _ _) (.cells #[.int .i64 (rd X 0), .int .i64 (rd X 1), .int .i64 (rd X 2), .int .i64 (rd X 3), .int .i64 (rd X 4), .int .i64 (rd X 5), .int .i64 (rd X 6)] 43)))) HXW.f7 (by decide) hg6 ho 2 j2, far_cells (Kd.R_below HX9.out (show Below w2.heap.size w2 _ from below_drew (below_alloc (Below.refl _ _) (.cells #[.int .i64 (rd X 0), .int .i64 (rd X 1), .int .i64 (rd X 2), .int .i64 (rd X 3), .int .i64 (rd X 4), .int .i64 (rd X 5), .int .i64 (rd X 6)] 43)))) HXW.f7 (by decide) hg6 ho 3 j3, far_cells (Kd.R_below HX9.out (show Below w2.heap.size w2 _ from below_drew (below_alloc (Below.refl _ _) (.cells #[.int .i64 (rd X 0), .int .i64 (rd X 1), .int .i64 (rd X 2), .int .i64 (rd X 3), .int .i64 (rd X 4), .int .i64 (rd X 5), .int .i64 (rd X 6)] 43)))) HXW.f7 (by decide) hg6 ho 4 j4, far_cells (Kd.R_below HX9.out (show Below w2.heap.size w2 _ from below_drew (below_alloc (Below.refl _ _) (.cells #[.int .i64 (rd X 0), .int .i64 (rd X 1), .int .i64 (rd X 2), .int .i64 (rd X 3), .int .i64 (rd X 4), .int .i64 (rd X 5), .int .i64 (rd X 6)] 43)))) HXW.f7 (by decide) hg6 ho 5 j5, far_cells (Kd.R_below HX9.out (show Below w2.heap.size w2 _ from below_drew (below_alloc (Below.refl _ _) (.cells #[.int .i64 (rd X 0), .int .i64 (rd X 1), .int .i64 (rd X 2), .int .i64 (rd X 3), .int .i64 (rd X 4), .int .i64 (rd X 5), .int .i64 (rd X 6)] 43)))) HXW.f7 (by decide) hg6 ho 6 j6⟩)); clear HXW ho6 hb6 hg6)
              refine hK.out _ _ (HK6.out _ (Only.refl _ _)) (fun hHeld => ?_)
              clear hK K
              refine wpAnyH_take (i := 26) (v := ?v40) rfl (by kernel_rfl) (by kernel_rfl) (by kernel_rfl) (fun _ _ _ h => h) (Or.inl ⟨by rfl, ?hy40⟩) (by assumption) ?rest40
              case hy40 => (intro w' hSw; (try dsimp only at hSw); go_simp; try with_reducible rfl)
              try simp only [Act.put, List.setIfInBounds_toArray, List.set_cons_zero, List.set_cons_succ]
              refine wpAnyH_ready (rs := [27]) (by kernel_rfl) (by simp) (AllReadyH.cons rfl (fun K hK => ?_) AllReadyH.nil)
              go_simp
              refine hK.out _ _ (by first | exact HK6.out _ (Only.set _ _ _ _) | exact HK6.out _ (Only.trans (Only.set _ _ _ _) (Only.drew _ _))) (fun hHeld => ?_)
              clear hK K
              refine wpAnyH_done (by kernel_rfl) ?_ _
              go_wp2_with fail
              go_roundg f
              case measure => omega
              case rel => exact ⟨m - 1, nextR b', jsB 7 b' false, ac2, .slice A6 ac2.length c6, by first | rw [hwr] | (simp only [hwr]; done) | go_num, ⟨by have := HM.out; omega⟩, by rw [← HAC.out, List.length_append]; simp; omega, HZN, ⟨by rw [← HAC.out, ← HMK.out]; exact HLN.out.1, HLN.out.2⟩, ⟨(HS6.out _ (by first | exact blk_drew (by rw [blk_set HBK6.out 7 _]; rfl) | (rw [blk_set HBK6.out 7 _]; rfl)) (by first | exact Only.set _ _ _ _ | exact Only.trans (Only.set _ _ _ _) (Only.drew _ _))).2⟩, ⟨(HS6.out _ (by first | exact blk_drew (by rw [blk_set HBK6.out 7 _]; rfl) | (rw [blk_set HBK6.out 7 _]; rfl)) (by first | exact Only.set _ _ _ _ | exact Only.trans (Only.set _ _ _ _) (Only.drew _ _))).1⟩⟩
            · go_simp
              refine hK.out _ _ (by exact keep7 (by repeat (first | exact Below.refl _ _ | refine below_drew ?_ | refine below_alloc ?_ _ | refine pw_below_drewN ?_ _)) HK3.out) (fun hHeld => ?_)
              clear hK K
              refine wpAnyH_ready (rs := [1]) (by kernel_rfl) (by simp) (AllReadyH.cons rfl (fun K hK => ?_) AllReadyH.nil)
              go_simp
              refine hK.out _ _ (by exact keep7 (by repeat (first | exact Below.refl _ _ | refine below_drew ?_ | refine below_alloc ?_ _ | refine pw_below_drewN ?_ _)) HK3.out) (fun hHeld => ?_)
              clear hK K
              refine wpAnyH_ready (rs := [25]) (by kernel_rfl) (by simp) (AllReadyH.cons rfl (fun K hK => ?_) AllReadyH.nil)
              (refine pay_step (w := w) (gs := gs) (gr := gr) (gz := w.heap.size) (g := w2.heap.size) (by rfl) (.tmp 104) (.tmp 127) rfl v7 acc ⟨rd X 0, rd X 1, rd X 2, rd X 3, rd X 4, rd X 5, rd X 6⟩ rfl rfl (by first | exact blk_drew (blk_new w2 _) | exact blk_new w2 _) (Kd.R_below HX.out.f7 (by repeat (first | exact Below.refl _ _ | refine below_drew ?_ | refine below_alloc ?_ _))) (below_step HX.out.base (by repeat (first | exact Below.refl _ _ | refine below_drew ?_ | refine below_alloc ?_ _))) (by have := blk_lt HX.out.blk; simp; omega) (by have := HRB.out.lt; simp; omega) (by have := blk_lt HX.out.z; simp; omega) (by have := HMB.out; omega) ?_; intro v6 w6 ho6 hb6 hg6; rw [HAC.out] at ho6; obtain ⟨A6, c6, e6⟩ := Kd.R_slice ho6; subst e6; have HXW := HX.out.below (W1 := _) (show Below w2.heap.size w2 _ from below_drew (below_alloc (Below.refl _ _) (.cells #[.int .i64 (rd X 0), .int .i64 (rd X 1), .int .i64 (rd X 2), .int .i64 (rd X 3), .int .i64 (rd X 4), .int .i64 (rd X 5), .int .i64 (rd X 6)] 43))); have HBK6 := Aside0.mk (HXW.far7 hg6); have y6 := (blk_cell HBK6.out 7).trans (show _ = some v7 from rfl); have y6f := blk_frozen HBK6.out 7; have HS6 := Aside0.mk (fun (W2 : World) (hg2 : W2.heap[gs]? = some (.cells #[.int .i64 (rd H 0), v1, .slice B2 L2.1.length d2, .slice B3 X3.length d3, .slice B4 L4.1.length d4, .slice B5 X5.length d5, .slice B6 L6.1.length d6, .slice A6 ac2.length c6, .slice none 0 0, .int .i64 (rd H 1), .bool (rd H 2 == 1)] 29 (0, 0))) (ho : Only gs w6 W2) => And.intro (HXW.app7 ho6 hb6 hg6 hg2 ho) (HXW.rb7 (HRB.out.below (show Below w2.heap.size w2 _ from below_drew (below_alloc (Below.refl _ _) (.cells #[.int .i64 (rd X 0), .int .i64 (rd X 1), .int .i64 (rd X 2), .int .i64 (rd X 3), .int .i64 (rd X 4), .int .i64 (rd X 5), .int .i64 (rd X 6)] 43)))) (by decide) hg6 ho)); have HK6 := Aside0.mk (fun (W2 : World) (ho : Only gs w6 W2) => (show W2.cell? ⟨ga, 0, none⟩ = some (.int .i64 (rd X 0)) ∧ W2.cell? ⟨ga, 1, none⟩ = some (.int .i64 (rd X 1)) ∧ W2.cell? ⟨ga, 2, none⟩ = some (.int .i64 (rd X 2)) ∧ W2.cell? ⟨ga, 3, none⟩ = some (.int .i64 (rd X 3)) ∧ W2.cell? ⟨ga, 4, none⟩ = some (.int .i64 (rd X 4)) ∧ W2.cell? ⟨ga, 5, none⟩ = some (.int .i64 (rd X 5)) ∧ W2.cell? ⟨ga, 6, none⟩ = some (.int .i64 (rd X 6)) from ⟨far_cells (Kd.R_below HX9.out (show Below w2.heap.size w2 _ from below_drew (below_alloc (Below.refl _ _) (.cells #[.int .i64 (rd X 0), .int .i64 (rd X 1), .int .i64 (rd X 2), .int .i64 (rd X 3), .int .i64 (rd X 4), .int .i64 (rd X 5), .int .i64 (rd X 6)] 43)))) HXW.f7 (by decide) hg6 ho 0 j0, far_cells (Kd.R_below HX9.out (show Below w2.heap.size w2 _ from below_drew (below_alloc (Below.refl _ _) (.cells #[.int .i64 (rd X 0), .int .i64 (rd X 1), .int .i64 (rd X 2), .int .i64 (rd X 3), .int .i64 (rd X 4), .int .i64 (rd X 5), .int .i64 (rd X 6)] 43)))) HXW.f7 (by decide) hg6 ho 1 j1, far_cells (Kd.R_below HX9.out (show Below w2.heap.size w2 _ from below_drew (below_alloc (Below.refl _ _) (.cells #[.int .i64 (rd X 0), .int .i64 (rd X 1), .int .i64 (rd X 2), .int .i64 (rd X 3), .int .i64 (rd X 4), .int .i64 (rd X 5), .int .i64 (rd X 6)] 43)))) HXW.f7 (by decide) hg6 ho 2 j2, far_cells (Kd.R_below HX9.out (show Below w2.heap.size w2 _ from below_drew (below_alloc (Below.refl _ _) (.cells #[.int .i64 (rd X 0), .int .i64 (rd X 1), .int .i64 (rd X 2), .int .i64 (rd X 3), .int .i64 (rd X 4), .int .i64 (rd X 5), .int .i64 (rd X 6)] 43)))) HXW.f7 (by decide) hg6 ho 3 j3, far_cells (Kd.R_below HX9.out (show Below w2.heap.size w2 _ from below_drew (below_alloc (Below.refl _ _) (.cells #[.int .i64 (rd X 0), .int .i64 (rd X 1), .int .i64 (rd X 2), .int .i64 (rd X 3), .int .i64 (rd X 4), .int .i64 (rd X 5), .int .i64 (rd X 6)] 43)))) HXW.f7 (by decide) hg6 ho 4 j4, far_cells (Kd.R_below HX9.out (show Below w2.heap.size w2 _ from below_drew (below_alloc (Below.refl _ _) (.cells #[.int .i64 (rd X 0), .int .i64 (rd X 1), .int .i64 (rd X 2), .int .i64 (rd X 3), .int .i64 (rd X 4), .int .i64 (rd X 5), .int .i64 (rd X 6)] 43)))) HXW.f7 (by decide) hg6 ho 5 j5, far_cells (Kd.R_below HX9.out (show Below w2.heap.size w2 _ from below_drew (below_alloc (Below.refl _ _) (.cells #[.int .i64 (rd X 0), .int .i64 (rd X 1), .int .i64 (rd X 2), .int .i64 (rd X 3), .int .i64 (rd X 4), .int .i64 (rd X 5), .int .i64 (rd X 6)] 43)))) HXW.f7 (by decide) hg6 ho 6 j6⟩)); clear HXW ho6 hb6 hg6)
              refine hK.out _ _ (HK6.out _ (Only.refl _ _)) (fun hHeld => ?_)
              clear hK K
              refine wpAnyH_take (i := 26) (v := ?v41) rfl (by kernel_rfl) (by kernel_rfl) (by kernel_rfl) (fun _ _ _ h => h) (Or.inl ⟨by rfl, ?hy41⟩) (by assumption) ?rest41
              case hy41 => (intro w' hSw; (try dsimp only at hSw); go_simp; try with_reducible rfl)
              try simp only [Act.put, List.setIfInBounds_toArray, List.set_cons_zero, List.set_cons_succ]
              refine wpAnyH_ready (rs := [27]) (by kernel_rfl) (by simp) (AllReadyH.cons rfl (fun K hK => ?_) AllReadyH.nil)
              go_simp
              refine hK.out _ _ (by first | exact HK6.out _ (Only.set _ _ _ _) | exact HK6.out _ (Only.trans (Only.set _ _ _ _) (Only.drew _ _))) (fun hHeld => ?_)
              clear hK K
              refine wpAnyH_done (by kernel_rfl) ?_ _
              go_wp2_with fail
              go_roundg f
              case measure => omega
              case rel => exact ⟨m - 1, nextR b', jsB 7 b' false, ac2, .slice A6 ac2.length c6, by first | rw [hwr] | (simp only [hwr]; done) | go_num, ⟨by have := HM.out; omega⟩, by rw [← HAC.out, List.length_append]; simp; omega, HZN, ⟨by rw [← HAC.out, ← HMK.out]; exact HLN.out.1, HLN.out.2⟩, ⟨(HS6.out _ (by first | exact blk_drew (by rw [blk_set HBK6.out 7 _]; rfl) | (rw [blk_set HBK6.out 7 _]; rfl)) (by first | exact Only.set _ _ _ _ | exact Only.trans (Only.set _ _ _ _) (Only.drew _ _))).2⟩, ⟨(HS6.out _ (by first | exact blk_drew (by rw [blk_set HBK6.out 7 _]; rfl) | (rw [blk_set HBK6.out 7 _]; rfl)) (by first | exact Only.set _ _ _ _ | exact Only.trans (Only.set _ _ _ _) (Only.drew _ _))).1⟩⟩
          · have HL2 := HL1.out
            rw [hf, its_end mkP (jsB 7) cgo] at HL2
            have hacc : acc = L7.1 := by rw [← HL2.1]; simp
            have hpb : (b', bad') = L7.2 := HL2.2
            have HE := Aside0.mk (And.intro hacc hpb)
            clear HL2 HL1 HZ hacc hpb
            by_cases cm : 0 < m
            · have cmb : decide (0 < m) = true := decide_eq_true cm
              cases bad' with
              | false => exact absurd ⟨cm, rfl⟩ cgo
              | true =>
                go_wp2_with fail
                go_meet
                exact ⟨v7, by rw [← HE.out.1]; exact HX, by rw [← HE.out.2]; exact HRB⟩
            · have cmb : decide (0 < m) = false := decide_eq_false cm
              go_wp2_with fail
              go_meet
              exact ⟨v7, by rw [← HE.out.1]; exact HX, by rw [← HE.out.2]; exact HRB⟩
      case rest =>
        clear HX HRB HL7 HZ7 k8
        obtain ⟨v7, HX, HRB⟩ := hcut
        have hL7l := HPAL7.out
        obtain ⟨X8, hX8⟩ : ∃ X, nextL L7.2.1 = X := ⟨_, rfl⟩
        have HX8 := Aside0.mk hX8
        obtain ⟨P8, hP8⟩ : ∃ Q, nx L7.2 = Q := ⟨_, rfl⟩
        have HP8 := Aside0.mk hP8
        have hP8l : P8.1.length ≤ b.length := by rw [← hP8]; exact Nat.le_trans (nextR_len _) (by omega)
        go_upto_region 20 with (first | ((with_reducible refine gate_dst (N := 131) rfl ?_); (try (refine gate_guard (by rfl) ?_; dsimp only)); refine goesL_ (some 131) rfl rfl Try.func19 (by kernel_rfl) rfl #[.pointer (some ⟨gr, 0, none⟩)] rfl (by (try simp only [List.map_toArray, List.map_cons, List.map_nil]); first | done | rfl | (simp only [List.length_drop, List.length_take]; rfl)) ?_; refine (sRow w gr L7.2.1 L7.2.2 _ HRB.out).mono ?_; rintro e w2 ⟨v2, rfl, ho, hR, hF⟩; refine ⟨_, rfl, ?_⟩; rw [HX8.out] at ho; have HX_ := Aside0.mk (HX.out.fg hF); have HU := Aside0.mk (HX.out.new HRB.out.lt ho); clear HX HRB hF; have HX := HX_; have HRB := Aside0.mk hR; clear ho hR HX_; obtain ⟨B8, d8, e2⟩ := Kd.R_slice HU.out; subst e2) | ((with_reducible refine gate_none rfl ?_); refine store_only rfl 24 (.tmp 132) (.tmp 131) rfl gs 8 (.slice B8 X8.length d8) rfl rfl 29 _ #[.int .i64 (rd H 0), v1, .slice B2 L2.1.length d2, .slice B3 X3.length d3, .slice B4 L4.1.length d4, .slice B5 X5.length d5, .slice B6 L6.1.length d6, v7, .slice B8 X8.length d8, .int .i64 (rd H 1), .bool (rd H 2 == 1)] HX.out.blk (by kernel_rfl) (show 8 < 11 by decide) rfl rfl rfl ?_; intro w3 hg3 ho3; have HX_ := Aside0.mk (HX.out.set8 HU.out hg3 ho3); have HRB_ := Aside0.mk (HX.out.rb HRB.out ho3); clear HX HRB HU hg3 ho3; have HX := HX_; have HRB := HRB_; clear HX_ HRB_))
        rw [show (nextR L7.2.1) = P8.1 by rw [← hP8]; rfl, show (rowB L7.2.1 L7.2.2) = P8.2 by rw [← hP8]; rfl] at HRB
        clear hX8 hP8
        have hS : sSt b = (⟨rd H 0, L1.1, L2.1, X3, L4.1, X5, L6.1, L7.1, X8, rd H 1, rd H 2 == 1⟩ : St) ∧ pI b = P8 := by
          have eA : itA (rd (hd b) 3) (p1 b) = L1 := by rw [HH.out, HP1.out]; exact HL1q.out
          have eA2 : pA b = L1.2 := by unfold pA; rw [eA]
          have eB : itR (rd (hd b) 4) (pA b) = L2 := by rw [HH.out, eA2]; exact HL2q.out
          have eB2 : pB b = L2.2 := by unfold pB; rw [eB]
          have e3 : nextL (pB b).1 = X3 := by rw [eB2]; exact HX3.out
          have eM : pM b = P3 := by unfold pM; rw [eB2]; exact HP3.out
          have eS : itR (rd (hd b) 6) (pM b) = L4 := by rw [HH.out, eM]; exact HL4q.out
          have eS2 : pS b = L4.2 := by unfold pS; rw [eS]
          have e5 : nextL (pS b).1 = X5 := by rw [eS2]; exact HX5.out
          have eC : pC b = P5 := by unfold pC; rw [eS2]; exact HP5.out
          have eH : itR (rd (hd b) 7) (pC b) = L6 := by rw [HH.out, eC]; exact HL6q.out
          have eH2 : pH b = L6.2 := by unfold pH; rw [eH]
          have eP : itP (rd (hd b) 8) (pH b) = L7 := by rw [HH.out, eH2]; exact HL7q.out
          have eP2 : pP b = L7.2 := by unfold pP; rw [eP]
          have e8 : nextL (pP b).1 = X8 := by rw [eP2]; exact HX8.out
          have eI : pI b = P8 := by unfold pI; rw [eP2]; exact HP8.out
          exact ⟨by unfold sSt; rw [eA, eB, e3, eS, e5, eH, eP, e8, HH.out], eI⟩
        have HS := Aside0.mk hS
        have HBd := Aside0.mk (show St.Bd (b.length + 2) (⟨rd H 0, L1.1, L2.1, X3, L4.1, X5, L6.1, L7.1, X8, rd H 1, rd H 2 == 1⟩ : St) by rw [← hS.1]; exact sSt_bd b)
        clear hS
        have HX_ := Aside0.mk (show SI w _ gs gr w.heap.size (.slice (some ⟨gh, 0, none⟩) H.length ch) v1 (.slice B2 L2.1.length d2) (.slice B3 X3.length d3) (.slice B4 L4.1.length d4) (.slice B5 X5.length d5) (.slice B6 L6.1.length d6) v7 (.slice B8 X8.length d8) H ⟨rd H 0, L1.1, L2.1, X3, L4.1, X5, L6.1, L7.1, X8, rd H 1, rd H 2 == 1⟩ from HX.out)
        clear HX
        have HX := HX_
        clear HX_
        obtain ⟨B1, d1, e1_⟩ := Kd.R_slice HX.out.f1
        subst e1_
        obtain ⟨B7, d7, e7_⟩ := Kd.R_slice HX.out.f7
        subst e7_
        have hz11 := bk11 HX.out.blk
        obtain ⟨t0, t1, t2, t3, t4, t5, t6, t7, t8, t9, t10⟩ := hz11
        obtain ⟨A9, c9, hG9, _⟩ := HRB.out.blk
        obtain ⟨z0, z1, zf0, zf1⟩ := cells2 hG9
        clear hG9
        obtain ⟨SB, hSB⟩ : ∃ x, sbytes (⟨rd H 0, L1.1, L2.1, X3, L4.1, X5, L6.1, L7.1, X8, rd H 1, rd H 2 == 1⟩ : St) = x := ⟨_, rfl⟩
        have HSB := Aside0.mk hSB
        have HSI8 := Aside0.mk (show IsB SB by rw [← hSB]; exact sbytes_bytes _)
        clear hSB
        cases hf8 : P8.2 with
        | true =>
          have hno : sOk b = false := by unfold sOk; rw [HS.out.2, hf8]; rfl
          have HNO := Aside0.mk hno
          rw [hf8] at z1
          clear hno
          go_wp2_with (first | ((with_reducible refine gate_none rfl ?_); refine store_blk rfl 29 (.tmp 2) (.tmp 144) rfl w.heap.size #[.int .i64 0, .slice none 0 0, .slice none 0 0, .slice none 0 0, .slice none 0 0, .slice none 0 0, .slice none 0 0, .slice none 0 0, .slice none 0 0, .int .i64 0, .bool false] rfl rfl 29 _ HX.out.z (by kernel_rfl) rfl (by first | rfl | (simp [Value.oneCell']; done)) ?_; intro w8 hg8 ho8; have HG8 := Aside0.mk hg8; have HB8 := Aside0.mk ((Only.fr (ok := fun k => k = w.heap.size) ho8 rfl).below' HX.out.base (fun k hk => by rw [hk]; exact Nat.le_refl _)); clear hg8 ho8 HX))
          refine bodyPost_ret (results_ct rfl _ _ w.heap.size 29 _ (0, 0) _ rfl HG8.out Try.underlying29 rfl (by kernel_rfl)) rfl ?_
          exact ⟨⟨none, 0, none, 0, none, 0, none, 0, none, 0, none, 0, none, 0, none, 0⟩, by unfold sRead; rw [HNO.out]; rfl, by unfold sRead; rw [HNO.out]; exact no_bytes _, HB8.out⟩
        | false =>
          have HF8 := Aside0.mk hf8
          rw [hf8] at z1
          clear hf8
          by_cases hq : SB = b
          · have HEQ := Aside0.mk (decide_eq_true hq)
            have HYES := Aside0.mk (show sOk b = true by unfold sOk; rw [HS.out.2, HF8.out, HS.out.1, HSB.out]; exact decide_eq_true hq)
            clear hq
            go_wp2_with (first | ((with_reducible refine gate_dst (N := 139) rfl ?_); (try (refine gate_guard (by rfl) ?_; dsimp only)); refine goesL_ (some 139) rfl rfl Try.func8 (by kernel_rfl) rfl #[.agg #[.int .i64 (rd H 0), .slice B1 L1.1.length d1, .slice B2 L2.1.length d2, .slice B3 X3.length d3, .slice B4 L4.1.length d4, .slice B5 X5.length d5, .slice B6 L6.1.length d6, .slice B7 L7.1.length d7, .slice B8 X8.length d8, .int .i64 (rd H 1), .bool (rd H 2 == 1)]] rfl (by (try simp only [List.map_toArray, List.map_cons, List.map_nil]); first | done | rfl | (simp only [List.length_drop, List.length_take]; rfl)) ?_; refine (snapBytes ⟨B1, d1, B2, d2, B3, d3, B4, d4, B5, d5, B6, d6, B7, d7, B8, d8⟩ (⟨rd H 0, L1.1, L2.1, X3, L4.1, X5, L6.1, L7.1, X8, rd H 1, rd H 2 == 1⟩ : St) (b.length + 2) _ HX.out.reads HBd.out (by omega) (by have := read_len (b := b) (by rw [HS.out.2]; exact HF8.out); rw [HS.out.1] at this; omega)).mono ?_; rintro e w2 ⟨v2, rfl, ho, hbl⟩; refine ⟨_, rfl, ?_⟩; have HO := Aside0.mk ho; have HX_ := Aside0.mk (HX.out.below hbl); clear HX t0 t1 t2 t3 t4 t5 t6 t7 t8 t9 t10 z0 z1 zf0 zf1; have HX := HX_; clear HX_; obtain ⟨t0, t1, t2, t3, t4, t5, t6, t7, t8, t9, t10⟩ := bk11 HX.out.blk; rw [HSB.out] at HO; clear ho hbl; obtain ⟨A5, c5, e5⟩ := Kd.R_slice HO.out; subst e5) | ((with_reducible refine gate_dst (N := 141) rfl ?_); (try (refine gate_guard (by rfl) ?_; dsimp only)); refine goesL_ (some 141) rfl rfl Try.func20 (by kernel_rfl) rfl #[.slice A5 SB.length c5, .slice A b.length c] rfl (by (try simp only [List.map_toArray, List.map_cons, List.map_nil]); first | done | rfl | (simp only [List.length_drop, List.length_take]; rfl)) ?_; refine (bytes_Equal.calls A5 c5 SB A c b (decide (SB = b)) _ (Kd.R_reads' HO.out).2.2 (Kd.R_reads' HO.out).2.1 (Kd.C_below HC.out HX.out.base) HK.out (by show some _ = some _; rw [str_beq HSI8.out HI.out])).mono ?_; rintro e w4 ⟨rfl, hdr⟩; refine ⟨_, rfl, ?_⟩; rw [HEQ.out]; have HX_ := Aside0.mk (HX.out.below (drawn_below hdr)); clear HX t0 t1 t2 t3 t4 t5 t6 t7 t8 t9 t10 hdr; have HX := HX_; clear HX_; obtain ⟨t0, t1, t2, t3, t4, t5, t6, t7, t8, t9, t10⟩ := bk11 HX.out.blk) | ((with_reducible refine gate_none rfl ?_); refine store_blk rfl 29 (.tmp 2) (.tmp 145) rfl w.heap.size #[.int .i64 (rd H 0), .slice B1 L1.1.length d1, .slice B2 L2.1.length d2, .slice B3 X3.length d3, .slice B4 L4.1.length d4, .slice B5 X5.length d5, .slice B6 L6.1.length d6, .slice B7 L7.1.length d7, .slice B8 X8.length d8, .int .i64 (rd H 1), .bool (rd H 2 == 1)] rfl rfl 29 _ HX.out.z (by kernel_rfl) rfl (by first | rfl | (simp [Value.oneCell']; done)) ?_; intro w8 hg8 ho8; have HG8 := Aside0.mk hg8; have HB8 := Aside0.mk ((Only.fr (ok := fun k => k = w.heap.size) ho8 rfl).below' HX.out.base (fun k hk => by rw [hk]; exact Nat.le_refl _)); have HR8 := Aside0.mk (HX.out.reads8 hg8 ho8); clear hg8 ho8 HX))
            refine bodyPost_ret (results_ct rfl _ _ w.heap.size 29 _ (0, 0) _ rfl HG8.out Try.underlying29 rfl (by kernel_rfl)) rfl ?_
            exact ⟨⟨B1, d1, B2, d2, B3, d3, B4, d4, B5, d5, B6, d6, B7, d7, B8, d8⟩, by unfold sRead; rw [HYES.out, if_pos rfl, HS.out.1]; rfl, by unfold sRead; rw [HYES.out, if_pos rfl, HS.out.1]; exact HR8.out, HB8.out⟩
          · have HEQ := Aside0.mk (decide_eq_false hq)
            have HNO := Aside0.mk (show sOk b = false by unfold sOk; rw [HS.out.2, HF8.out, HS.out.1, HSB.out]; exact decide_eq_false hq)
            clear hq
            go_wp2_with (first | ((with_reducible refine gate_dst (N := 139) rfl ?_); (try (refine gate_guard (by rfl) ?_; dsimp only)); refine goesL_ (some 139) rfl rfl Try.func8 (by kernel_rfl) rfl #[.agg #[.int .i64 (rd H 0), .slice B1 L1.1.length d1, .slice B2 L2.1.length d2, .slice B3 X3.length d3, .slice B4 L4.1.length d4, .slice B5 X5.length d5, .slice B6 L6.1.length d6, .slice B7 L7.1.length d7, .slice B8 X8.length d8, .int .i64 (rd H 1), .bool (rd H 2 == 1)]] rfl (by (try simp only [List.map_toArray, List.map_cons, List.map_nil]); first | done | rfl | (simp only [List.length_drop, List.length_take]; rfl)) ?_; refine (snapBytes ⟨B1, d1, B2, d2, B3, d3, B4, d4, B5, d5, B6, d6, B7, d7, B8, d8⟩ (⟨rd H 0, L1.1, L2.1, X3, L4.1, X5, L6.1, L7.1, X8, rd H 1, rd H 2 == 1⟩ : St) (b.length + 2) _ HX.out.reads HBd.out (by omega) (by have := read_len (b := b) (by rw [HS.out.2]; exact HF8.out); rw [HS.out.1] at this; omega)).mono ?_; rintro e w2 ⟨v2, rfl, ho, hbl⟩; refine ⟨_, rfl, ?_⟩; have HO := Aside0.mk ho; have HX_ := Aside0.mk (HX.out.below hbl); clear HX t0 t1 t2 t3 t4 t5 t6 t7 t8 t9 t10 z0 z1 zf0 zf1; have HX := HX_; clear HX_; obtain ⟨t0, t1, t2, t3, t4, t5, t6, t7, t8, t9, t10⟩ := bk11 HX.out.blk; rw [HSB.out] at HO; clear ho hbl; obtain ⟨A5, c5, e5⟩ := Kd.R_slice HO.out; subst e5) | ((with_reducible refine gate_dst (N := 141) rfl ?_); (try (refine gate_guard (by rfl) ?_; dsimp only)); refine goesL_ (some 141) rfl rfl Try.func20 (by kernel_rfl) rfl #[.slice A5 SB.length c5, .slice A b.length c] rfl (by (try simp only [List.map_toArray, List.map_cons, List.map_nil]); first | done | rfl | (simp only [List.length_drop, List.length_take]; rfl)) ?_; refine (bytes_Equal.calls A5 c5 SB A c b (decide (SB = b)) _ (Kd.R_reads' HO.out).2.2 (Kd.R_reads' HO.out).2.1 (Kd.C_below HC.out HX.out.base) HK.out (by show some _ = some _; rw [str_beq HSI8.out HI.out])).mono ?_; rintro e w4 ⟨rfl, hdr⟩; refine ⟨_, rfl, ?_⟩; rw [HEQ.out]; have HX_ := Aside0.mk (HX.out.below (drawn_below hdr)); clear HX t0 t1 t2 t3 t4 t5 t6 t7 t8 t9 t10 hdr; have HX := HX_; clear HX_; obtain ⟨t0, t1, t2, t3, t4, t5, t6, t7, t8, t9, t10⟩ := bk11 HX.out.blk) | ((with_reducible refine gate_none rfl ?_); refine store_blk rfl 29 (.tmp 2) (.tmp 144) rfl w.heap.size #[.int .i64 0, .slice none 0 0, .slice none 0 0, .slice none 0 0, .slice none 0 0, .slice none 0 0, .slice none 0 0, .slice none 0 0, .slice none 0 0, .int .i64 0, .bool false] rfl rfl 29 _ HX.out.z (by kernel_rfl) rfl (by first | rfl | (simp [Value.oneCell']; done)) ?_; intro w8 hg8 ho8; have HG8 := Aside0.mk hg8; have HB8 := Aside0.mk ((Only.fr (ok := fun k => k = w.heap.size) ho8 rfl).below' HX.out.base (fun k hk => by rw [hk]; exact Nat.le_refl _)); clear hg8 ho8 HX))
            refine bodyPost_ret (results_ct rfl _ _ w.heap.size 29 _ (0, 0) _ rfl HG8.out Try.underlying29 rfl (by kernel_rfl)) rfl ?_
            exact ⟨⟨none, 0, none, 0, none, 0, none, 0, none, 0, none, 0, none, 0, none, 0⟩, by unfold sRead; rw [HNO.out]; rfl, by unfold sRead; rw [HNO.out]; exact no_bytes _, HB8.out⟩
end Go.Proofs.Ytpcfceodbemooaa.B
