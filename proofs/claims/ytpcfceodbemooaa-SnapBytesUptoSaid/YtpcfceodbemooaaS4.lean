/- Snap: snap.rows, snap.Bytes: walks. -/
import Derived.Test.YtpcfceodbemooaaS3
namespace Go.Proofs.Ytpcfceodbemooaa.B
open Go.RowKit Go.Proofs.YtpcfceodbemooaaW.PrintWords Go.Proofs.YtpcfceodbemooaaW.PrintLast Go.Proofs.YtpcfceodbemooaaW.PrintMore Go.Proofs.Ytpcfceodbemooaa.PSnapBytes
attribute [local go_sem] max2_int min2_int max_two min_two max_three min_three max_four min_four
set_option linter.unusedVariables false
set_option linter.unusedSimpArgs false

theorem info24 : (Try.prog.info? 24).map (fun i => (i.zero, i.size, i.bytes)) = some (some (.slice none 0 0), 1, 24) := by kernel_rfl
theorem rows_take (l : List (List Int)) (i : Nat) (hi : i < l.length) : rows (l.take (i + 1)) = rows (l.take i) ++ row (rd_L2 l i) := by
  rw [List.take_succ_eq_append_getElem hi, rows_append, rows_one]; unfold rd_L2; rw [Int.toNat_natCast, List.getD_eq_getElem?_getD, List.getElem?_eq_getElem hi, Option.getD_some]
theorem rows_take_le (l : List (List Int)) (i : Nat) : (rows (l.take i)).length ≤ (rows l).length := by
  conv => rhs; rw [← List.take_append_drop i l]
  rw [rows_append, List.length_append]; omega
set_option maxHeartbeats 2000000 in
theorem wrows (A : Option Addr) (c : Nat) (l : List (List Int)) (M : Nat) (w : World) (hr : Kd.C (Kd.slice 2 (Kd.int .i64)) w A l.length l) (hl : l.length ≤ M) (hlr : ∀ r ∈ l, r.length ≤ M) (hM : M ≤ 1000000000000) (hs : (rows l).length < 140737488355328) :
    Calls Try.prog 16 #[.slice A l.length c] w fun e w' => ∃ v : Value, e = .returned v ∧ Kd.R (Kd.int .u8) 5 w' w.heap.size (fun _ => True) v (rows l) ∧ Below w.heap.size w w' := by
  have HR := Aside0.mk hr
  have HL := Aside0.mk hlr
  have HS := Aside0.mk hs
  clear hr hlr hs
  have HB := Aside0.mk (Below.refl w.heap.size w)
  go_enter Try.func16, Try.ntmps16
  go_wp2
  go_loopg [3, 5, 8] l.length (fun kq v3 v5 v8 w' => ∃ i : Nat, v8 = .int .i64 (i : Int) ∧ i ≤ l.length ∧ Aside0 (kq + i = l.length) ∧ Aside0 (Kd.R (Kd.int .u8) 5 w' w.heap.size (fun _ => True) v3 (rows (l.take i))) ∧ Aside0 (Below w.heap.size w w'))
  case atStart => exact ⟨0, rfl, Nat.zero_le _, ⟨rfl⟩, ⟨Kd.R_nil _ _ _ _ _⟩, HB⟩
  case round =>
    clear HB
    obtain ⟨i, rfl, hi, HK, HO, HB⟩ := hrel
    by_cases c4 : i < l.length
    · obtain ⟨ad0, A2, c2, e0, hx0, hl2, hC2⟩ := at_L2 (Kd.C_below HR.out HB.out) i (by omega) (by exact_mod_cast c4)
      cases e0
      rw [Int.toNat_natCast] at hx0
      have HC2 := Aside0.mk hC2
      have c4b : decide ((i : Int) < (l.length : Int)) = true := decide_eq_true (by exact_mod_cast c4)
      have HT := Aside0.mk (rows_take l i c4)
      have hle := Aside0.mk (rows_take_le l (i + 1))
      have hxl : (rd_L2 l i).length ≤ M := by
        unfold rd_L2; rw [Int.toNat_natCast, List.getD_eq_getElem?_getD, List.getElem?_eq_getElem c4]
        exact HL.out _ (List.getElem_mem _)
      generalize rd_L2 l i = x at *
      obtain ⟨Y, hY⟩ : ∃ Y, Y = rows (l.take i) := ⟨_, rfl⟩
      rw [← hY] at HO HT
      clear hY hC2
      obtain ⟨Ao, co, eo⟩ := Kd.R_slice HO.out
      subst eo
      go_wp2_with (first | ((with_reducible refine gate_dst (N := 14) rfl ?_); (try (refine gate_guard (by rfl) ?_; dsimp only)); refine goesL_ (some 14) rfl rfl Try.func34 (by kernel_rfl) rfl #[.slice A2 x.length c2] rfl (by (try simp only [List.map_toArray, List.map_cons, List.map_nil]); first | done | rfl | (simp only [List.length_drop, List.length_take]; rfl)) ?_; refine (wrow A2 c2 x _ HC2.out (by omega)).mono ?_; rintro e w2 ⟨v2, rfl, ho, hb⟩; refine ⟨_, rfl, ?_⟩; have HO2 := Aside0.mk (Kd.R_below HO.out hb); have HO3 := Aside0.mk (Kd.R_lower ho HB.out.size); have HB2 := Aside0.mk (below_step HB.out hb); clear ho hb HB HO; have HB := HB2; clear HB2; obtain ⟨A3, c3, e3⟩ := Kd.R_slice HO3.out; subst e3) | ((with_reducible refine gate_dst (N := 15) rfl ?_); refine Kd.R_append_row (Value.int .u8) 0 (h1 := fun _ => rfl) (w0 := w) w.heap.size rfl _ _ 31 5 (.int .u8 0) 1 rfl Try.underlying31 info5 rfl (by decide) (.slice Ao Y.length co) Y (row x) A3 (row x).length c3 (fun _ => True) rfl rfl (fun _ _ => trivial) HO2.out (Kd.R_reads' HO3.out).2.2 HB.out HB.out.size (by have := HT.out; have := hle.out; have := HS.out; have h3 := congrArg List.length HT.out; rw [List.length_append] at h3; omega) ?_; intro v5 w5 ho hb hg_ hnew_; clear hg_ hnew_ HB; have HO := Aside0.mk ho; have HB := Aside0.mk hb; clear ho hb))
      go_roundg (l.length - (i + 1))
      case measure => have := HK.out; omega
      case rel => exact ⟨i + 1, by go_num, by omega, ⟨by omega⟩, ⟨by rw [HT.out]; exact HO.out⟩, HB⟩
    · have HT := Aside0.mk (show rows (l.take i) = rows l by rw [List.take_of_length_le (by omega)])
      have c4b : decide ((i : Int) < (l.length : Int)) = false := decide_eq_false (by omega)
      go_wp2
      go_ret
      exact ⟨_, rfl, by rw [← HT.out]; exact HO.out, HB.out⟩

theorem cells15 {w : World} {g1 g2 t1 t2 : Nat} {v0 v1 v2 v3 v4 v5 v6 v7 v8 v9 v10 v11 v12 v13 v14 : Value} (h1 : w.heap[g1]? = some (.cells #[v0, v1, v2, v3, v4, v5, v6, v7, v8, v9, v10] t1 (0, 0))) (h2 : w.heap[g2]? = some (.cells #[v11, v12, v13, v14] t2 (0, 0))) : w.cell? ⟨g1, 0, none⟩ = some v0 ∧ w.cell? ⟨g1, 1, none⟩ = some v1 ∧ w.cell? ⟨g1, 2, none⟩ = some v2 ∧ w.cell? ⟨g1, 3, none⟩ = some v3 ∧ w.cell? ⟨g1, 4, none⟩ = some v4 ∧ w.cell? ⟨g1, 5, none⟩ = some v5 ∧ w.cell? ⟨g1, 6, none⟩ = some v6 ∧ w.cell? ⟨g1, 7, none⟩ = some v7 ∧ w.cell? ⟨g1, 8, none⟩ = some v8 ∧ w.cell? ⟨g1, 9, none⟩ = some v9 ∧ w.cell? ⟨g1, 10, none⟩ = some v10 ∧ w.cell? ⟨g2, 0, none⟩ = some v11 ∧ w.cell? ⟨g2, 1, none⟩ = some v12 ∧ w.cell? ⟨g2, 2, none⟩ = some v13 ∧ w.cell? ⟨g2, 3, none⟩ = some v14 := by
  obtain ⟨z0, z1, z2, z3, z4, z5, z6, z7, z8, z9, z10⟩ := bk11 h1
  obtain ⟨y0, y1, y2, y3⟩ := bk4 h2
  exact ⟨z0, z1, z2, z3, z4, z5, z6, z7, z8, z9, z10, y0, y1, y2, y3⟩
theorem keep15 {w w' : World} {g1 g2 : Nat} {v0 v1 v2 v3 v4 v5 v6 v7 v8 v9 v10 v11 v12 v13 v14 : Value} (hb : Below w.heap.size w w') (h : w.cell? ⟨g1, 0, none⟩ = some v0 ∧ w.cell? ⟨g1, 1, none⟩ = some v1 ∧ w.cell? ⟨g1, 2, none⟩ = some v2 ∧ w.cell? ⟨g1, 3, none⟩ = some v3 ∧ w.cell? ⟨g1, 4, none⟩ = some v4 ∧ w.cell? ⟨g1, 5, none⟩ = some v5 ∧ w.cell? ⟨g1, 6, none⟩ = some v6 ∧ w.cell? ⟨g1, 7, none⟩ = some v7 ∧ w.cell? ⟨g1, 8, none⟩ = some v8 ∧ w.cell? ⟨g1, 9, none⟩ = some v9 ∧ w.cell? ⟨g1, 10, none⟩ = some v10 ∧ w.cell? ⟨g2, 0, none⟩ = some v11 ∧ w.cell? ⟨g2, 1, none⟩ = some v12 ∧ w.cell? ⟨g2, 2, none⟩ = some v13 ∧ w.cell? ⟨g2, 3, none⟩ = some v14) : w'.cell? ⟨g1, 0, none⟩ = some v0 ∧ w'.cell? ⟨g1, 1, none⟩ = some v1 ∧ w'.cell? ⟨g1, 2, none⟩ = some v2 ∧ w'.cell? ⟨g1, 3, none⟩ = some v3 ∧ w'.cell? ⟨g1, 4, none⟩ = some v4 ∧ w'.cell? ⟨g1, 5, none⟩ = some v5 ∧ w'.cell? ⟨g1, 6, none⟩ = some v6 ∧ w'.cell? ⟨g1, 7, none⟩ = some v7 ∧ w'.cell? ⟨g1, 8, none⟩ = some v8 ∧ w'.cell? ⟨g1, 9, none⟩ = some v9 ∧ w'.cell? ⟨g1, 10, none⟩ = some v10 ∧ w'.cell? ⟨g2, 0, none⟩ = some v11 ∧ w'.cell? ⟨g2, 1, none⟩ = some v12 ∧ w'.cell? ⟨g2, 2, none⟩ = some v13 ∧ w'.cell? ⟨g2, 3, none⟩ = some v14 := by
  obtain ⟨z0, z1, z2, z3, z4, z5, z6, z7, z8, z9, z10, y0, y1, y2, y3⟩ := h
  exact ⟨pw_cell_below hb z0, pw_cell_below hb z1, pw_cell_below hb z2, pw_cell_below hb z3, pw_cell_below hb z4, pw_cell_below hb z5, pw_cell_below hb z6, pw_cell_below hb z7, pw_cell_below hb z8, pw_cell_below hb z9, pw_cell_below hb z10, pw_cell_below hb y0, pw_cell_below hb y1, pw_cell_below hb y2, pw_cell_below hb y3⟩

/-- Rows that came in, or that are made. -/
def MX (w : World) : Kd (List Int) := Kd.mix 2 (Kd.int .i64) (Kd.int .i64) w
theorem lit_nums : ∀ (l : List Int), Reps (fun (x : Int) (cs : List Value) => cs = [Value.int .i64 x]) 1 l (l.map (Value.int .i64))
  | [] => Reps.none _ _
  | n :: l => Reps.one (rfl : [Value.int .i64 n] = [Value.int .i64 n]) (lit_nums l)

theorem int_lit (V : World) (xs : List Int) (base : Nat) (hb : base ≤ V.heap.size) (hl : xs.length ≤ 1000) : Kd.R (Kd.int .i64) 2 (V.alloc (.cells (xs.map (Value.int .i64)).toArray 2)) base (fun k => k = V.heap.size) (.slice (some ⟨V.heap.size, 0, none⟩) xs.length xs.length) xs := by
  have h2 := World.ownsRow_lit (base := base) (e := 2) (size := 1) V (xs.map (Value.int .i64)).toArray xs.length hb (by unfold maxLen; omega) (by simp)
  rw [List.toList_toArray] at h2
  exact ⟨fun k hk => by simpa [Value.ownBlock] using hk.symm, _, h2, lit_nums xs⟩
theorem one_row (w V : World) (xs : List Int) (hb : w.heap.size ≤ V.heap.size) (hl : xs.length ≤ 1000) :
    (MX w).R 24 ((V.alloc (.cells (xs.map (Value.int .i64)).toArray 2)).alloc (.cells #[.slice (some ⟨V.heap.size, 0, none⟩) xs.length xs.length] 24)) w.heap.size (fun _ => True) (.slice (some ⟨V.heap.size + 1, 0, none⟩) 1 1) [xs] := by
  have h1 := int_lit V xs w.heap.size hb hl
  have hs : (V.alloc (.cells (xs.map (Value.int .i64)).toArray 2)).heap.size = V.heap.size + 1 := by simp
  generalize hV2 : (V.alloc (.cells (xs.map (Value.int .i64)).toArray 2)) = V2 at *
  have h2 := World.ownsRow_lit (base := w.heap.size) (e := 24) (size := 1) V2 #[.slice (some ⟨V.heap.size, 0, none⟩) xs.length xs.length] 1 (by omega) (by decide) rfl
  rw [hs] at h2
  refine ⟨fun k hk => trivial, _, h2, Reps.one (cs := []) ?_ (Reps.none _ _)⟩
  refine Kd.mix_made (Kd.R_mono (Kd.R_below h1 (below_alloc (Below.refl _ _) _)) (fun k hk => ⟨trivial, ?_⟩))
  subst hk
  simp [Value.ownBlock]
/-- What holds while the rows are gathered. -/
structure BI (w W : World) (g1 g2 : Nat) (cs bs : Array Value) (v : Value) (acc : List (List Int)) : Prop where
  row : (MX w).R 24 W w.heap.size (fun _ => True) v acc
  base : Below w.heap.size w W
  b1 : W.heap[g1]? = some (.cells cs 29 (0, 0))
  b2 : W.heap[g2]? = some (.cells bs 26 (0, 0))
section
variable {w W w1 : World} {g1 g2 : Nat} {cs bs : Array Value} {v v1 : Value} {acc acc' : List (List Int)}
theorem BI.below (x : BI w W g1 g2 cs bs v acc) (hb : Below W.heap.size W w1) : BI w w1 g1 g2 cs bs v acc := ⟨Kd.R_below x.row hb, below_step x.base hb, blk_below x.b1 hb, blk_below x.b2 hb⟩
theorem BI.lit (x : BI w W g1 g2 cs bs v acc) (hb : Below w.heap.size w w1) (hg : W.grownBy w1 none) : BI w w1 g1 g2 cs bs v acc :=
  ⟨Kd.R_grown x.row hg (fun k _ e => by cases e), hb, (hg.block g1 (blk_lt x.b1) (fun e => by cases e)).trans x.b1, (hg.block g2 (blk_lt x.b2) (fun e => by cases e)).trans x.b2⟩
theorem BI.grow (x : BI w W g1 g2 cs bs v acc) (ho : (MX w).R 24 w1 w.heap.size (fun _ => True) v1 acc') (hb : Below w.heap.size w w1) (hg : W.grownBy w1 v.ownBlock) : BI w w1 g1 g2 cs bs v1 acc' :=
  ⟨ho, hb, (hg.block g1 (blk_lt x.b1) (Kd.R_ne x.row x.b1 (by decide))).trans x.b1, (hg.block g2 (blk_lt x.b2) (Kd.R_ne x.row x.b2 (by decide))).trans x.b2⟩
end
section
variable {ops : Array Oper} {rest : List Oper} {o : Oper} {a : Act} {Q : Exit → Act → World → Prop} {w W : World} {g1 g2 : Nat} {cs bs : Array Value} {v u : Value} {acc : List (List Int)} {p : List Int}
/-- A row that was made is put behind. -/
theorem bi_made {ok : Nat → Prop} (hgd : o.guard = none) (s x : Operand) (ho : o.op = .call { callee := .builtin .append, args := #[s, x], argTypes := #[23, 23] }) (hs : a.eval s = v) (hx : a.eval x = .slice (some ⟨W.heap.size, 0, none⟩) 1 1)
    (hBI : BI w W g1 g2 cs bs v acc) (hu : (Kd.int .i64).R 2 W w.heap.size ok u p) (hne : ∀ k, u.ownBlock = some k → some k ≠ v.ownBlock) (hl : (acc.length + 1) * 24 ≤ 140737488355328)
    (k : ∀ v1 w1, BI w w1 g1 g2 cs bs v1 (acc ++ [p]) → wpList Try.prog ops Q rest (a.put o.dst v1) w1) : wpList Try.prog ops Q (o :: rest) a (W.alloc (.cells #[u] 24)) := by
  refine Kd.R_append (MX w) (w0 := w) w.heap.size hgd s x 23 24 (.slice none 0 0) 24 ho Try.underlying23 info24 rfl (show 0 < 1 by decide) (by decide) v acc p [u] (fun _ => True) (fun k => some k = u.ownBlock) hs hx (Kd.mix_made (Kd.R_tight rfl hu)) (fun k hk => ⟨trivial, hne k hk.symm⟩) (fun _ _ => trivial) hBI.row hBI.base hBI.base.size hl ?_
  intro v1 w1 h1 h2 h3 _
  exact k v1 w1 (hBI.grow h1 h2 h3)
/-- A row that came in is put behind. -/
theorem bi_came {A : Option Addr} {c : Nat} (hgd : o.guard = none) (s x : Operand) (ho : o.op = .call { callee := .builtin .append, args := #[s, x], argTypes := #[23, 23] }) (hs : a.eval s = v) (hx : a.eval x = .slice (some ⟨W.heap.size, 0, none⟩) 1 1)
    (hBI : BI w W g1 g2 cs bs v acc) (hp : (Kd.int .i64).C w A p.length p) (hc : p.length ≤ c) (hl : (acc.length + 1) * 24 ≤ 140737488355328)
    (k : ∀ v1 w1, BI w w1 g1 g2 cs bs v1 (acc ++ [p]) → wpList Try.prog ops Q rest (a.put o.dst v1) w1) : wpList Try.prog ops Q (o :: rest) a (W.alloc (.cells #[.slice A p.length c] 24)) := by
  refine Kd.R_append (MX w) (w0 := w) w.heap.size hgd s x 23 24 (.slice none 0 0) 24 ho Try.underlying23 info24 rfl (show 0 < 1 by decide) (by decide) v acc p [.slice A p.length c] (fun _ => True) (fun _ => False) hs hx (Kd.mix_came hc hp) (fun k hk => hk.elim) (fun _ _ => trivial) hBI.row hBI.base hBI.base.size hl ?_
  intro v1 w1 h1 h2 h3 _
  exact k v1 w1 (hBI.grow h1 h2 h3)
/-- Rows that came in are put behind. -/
theorem bi_rows {A : Option Addr} {c : Nat} {ys : List (List Int)} (hgd : o.guard = none) (s x : Operand) (ho : o.op = .call { callee := .builtin .append, args := #[s, x], argTypes := #[23, 23] }) (hs : a.eval s = v) (hx : a.eval x = .slice A ys.length c)
    (hBI : BI w W g1 g2 cs bs v acc) (hy : (Kd.slice 2 (Kd.int .i64)).C w A ys.length ys) (hl : (acc.length + ys.length) * 24 ≤ 140737488355328)
    (k : ∀ v1 w1, BI w w1 g1 g2 cs bs v1 (acc ++ ys) → wpList Try.prog ops Q rest (a.put o.dst v1) w1) : wpList Try.prog ops Q (o :: rest) a W := by
  have hR : ReadsRow ((Kd.slice 2 (Kd.int .i64)).K w) (MX w).sz W A ys.length ys := by
    have h1 : ((Kd.slice 2 (Kd.int .i64)).fixed w).C w A ys.length ys := hy
    exact Kd.C_below h1 hBI.base
  refine Kd.R_append_rows (MX w) (w0 := w) w.heap.size hgd s x 23 24 (.slice none 0 0) 24 ho Try.underlying23 info24 rfl (show 0 < 1 by decide) (by decide) v acc ys A ys.length c (fun _ => True) (fun _ => False) hs hx hBI.row hR (fun x cs hp => .inl hp) (fun k hk => hk.elim) (fun _ _ => trivial) hBI.base hBI.base.size hl ?_
  intro v1 w1 h1 h2 h3 _
  exact k v1 w1 (hBI.grow h1 h2 h3)
end
theorem BI.reads {w W : World} {g1 g2 : Nat} {cs bs : Array Value} {acc : List (List Int)} {A : Option Addr} {n c : Nat} (x : BI w W g1 g2 cs bs (.slice A n c) acc) : n = acc.length ∧ (Kd.slice 2 (Kd.int .i64)).C W A acc.length acc := by
  obtain ⟨h1, h2, h3⟩ := Kd.R_reads' x.row
  refine ⟨h1, Kd.C_read (d := Kd.slice 2 (Kd.int .i64)) (dm := MX w) rfl ?_ h3⟩
  intro y cs hp
  obtain ⟨A', c', e, hl, hC⟩ := Kd.mix_read rfl (fun _ _ hh => hh) x.base hp
  exact ⟨A', c', e, hl, hC⟩

theorem bi_start {w wb : World} {g1 g2 : Nat} {cs bs : Array Value} (hb : Below w.heap.size w wb) (b1 : wb.heap[g1]? = some (.cells cs 29 (0, 0))) (b2 : wb.heap[g2]? = some (.cells bs 26 (0, 0))) (m : Nat) (xs : List Int) (hl : xs.length ≤ 1000) :
    BI w (((wb.drewN m).alloc (.cells (xs.map (Value.int .i64)).toArray 2)).alloc (.cells #[.slice (some ⟨wb.heap.size, 0, none⟩) xs.length xs.length] 24)) g1 g2 cs bs (.slice (some ⟨wb.heap.size + 1, 0, none⟩) 1 1) [xs] :=
  ⟨one_row w (wb.drewN m) xs hb.size hl, below_alloc (below_alloc (pw_below_drewN hb m) _) _, blk_alloc (blk_alloc (blk_drewN b1 m) _) _, blk_alloc (blk_alloc (blk_drewN b2 m) _) _⟩
theorem BI.ne {w W : World} {g1 g2 : Nat} {cs bs : Array Value} {v u : Value} {acc : List (List Int)} (x : BI w W g1 g2 cs bs v acc) (hu : ∃ b, u.ownBlock = some b ∧ W.heap.size ≤ b) : ∀ k, u.ownBlock = some k → some k ≠ v.ownBlock := by
  obtain ⟨b, hb, hl⟩ := hu
  intro k hk he
  have h1 := Kd.R_lt x.row k he.symm
  rw [hb] at hk
  have h2 := Option.some.inj hk
  omega
theorem bk3 {w : World} {g t : Nat} {v0 v1 v2 : Value} (h : w.heap[g]? = some (.cells #[v0, v1, v2] t (0, 0))) : w.cell? ⟨g, 0, none⟩ = some v0 ∧ w.cell? ⟨g, 1, none⟩ = some v1 ∧ w.cell? ⟨g, 2, none⟩ = some v2 := ⟨(blk_cell h 0).trans rfl, (blk_cell h 1).trans rfl, (blk_cell h 2).trans rfl⟩
theorem bk7 {w : World} {g t : Nat} {v0 v1 v2 v3 v4 v5 v6 : Value} (h : w.heap[g]? = some (.cells #[v0, v1, v2, v3, v4, v5, v6] t (0, 0))) : w.cell? ⟨g, 0, none⟩ = some v0 ∧ w.cell? ⟨g, 1, none⟩ = some v1 ∧ w.cell? ⟨g, 2, none⟩ = some v2 ∧ w.cell? ⟨g, 3, none⟩ = some v3 ∧ w.cell? ⟨g, 4, none⟩ = some v4 ∧ w.cell? ⟨g, 5, none⟩ = some v5 ∧ w.cell? ⟨g, 6, none⟩ = some v6 := ⟨(blk_cell h 0).trans rfl, (blk_cell h 1).trans rfl, (blk_cell h 2).trans rfl, (blk_cell h 3).trans rfl, (blk_cell h 4).trans rfl, (blk_cell h 5).trans rfl, (blk_cell h 6).trans rfl⟩
theorem amap_take (l : List S41) (i : Nat) (hi : i < l.length) : (l.take (i + 1)).map aN = (l.take i).map aN ++ [aN (rd_T41 l i)] := by
  rw [List.take_succ_eq_append_getElem hi, List.map_append]; unfold rd_T41; rw [Int.toNat_natCast, List.getD_eq_getElem?_getD, List.getElem?_eq_getElem hi, Option.getD_some]; rfl
theorem pmap_take (l : List S43) (i : Nat) (hi : i < l.length) : (l.take (i + 1)).map pN = (l.take i).map pN ++ [pN (rd_T43 l i)] := by
  rw [List.take_succ_eq_append_getElem hi, List.map_append]; unfold rd_T43; rw [Int.toNat_natCast, List.getD_eq_getElem?_getD, List.getElem?_eq_getElem hi, Option.getD_some]; rfl
theorem rowsOf_len {s : St} {M : Nat} (h : s.Bd M) : (rowsOf s).length ≤ 5 * M + 4 := by
  have h1 := h.accts; have h2 := h.bil; have h3 := h.pos; have h4 := h.holds; have h5 := h.pays
  unfold rowsOf
  simp only [List.length_append, List.length_map, List.length_cons, List.length_nil]
  omega
theorem rowsOf_le {s : St} {M : Nat} (h : s.Bd M) : ∀ r ∈ rowsOf s, r.length ≤ M + 9 := by
  intro r hr
  unfold rowsOf at hr
  simp only [List.mem_append, List.mem_singleton, List.mem_map] at hr
  rcases hr with (((((((hr | ⟨a, _, hr⟩) | hr) | hr) | hr) | hr) | hr) | ⟨a, _, hr⟩) | hr
  · rw [hr]; simp [hdr]
  · rw [← hr]; simp [aN]
  · have := h.bils r hr; omega
  · have := h.mul; rw [hr]; omega
  · have := h.poss r hr; omega
  · have := h.prices; rw [hr]; omega
  · have := h.holdss r hr; omega
  · rw [← hr]; simp [pN]
  · have := h.ids; rw [hr]; omega
theorem bit_f (b : Bool) : snap_bit.f b = some (bitN b) := by cases b <;> rfl
set_option maxHeartbeats 8000000 in
set_option maxRecDepth 100000 in
theorem snapBytes (h : Sh) (s : St) (M : Nat) (w : World) (r : RdS w h s) (hBd : s.Bd M) (hM : M ≤ 100000000000) (hs : (sbytes s).length < 140737488355328) :
    Calls Try.prog 8 #[.agg #[.int .i64 s.tick, .slice h.A1 s.accts.length h.c1, .slice h.A2 s.bil.length h.c2, .slice h.A3 s.mul.length h.c3, .slice h.A4 s.pos.length h.c4, .slice h.A5 s.prices.length h.c5, .slice h.A6 s.holds.length h.c6, .slice h.A7 s.pays.length h.c7, .slice h.A8 s.ids.length h.c8, .int .i64 s.total, .bool s.over]] w fun e w' => ∃ v : Value, e = .returned v ∧ Kd.R (Kd.int .u8) 5 w' w.heap.size (fun _ => True) v (sbytes s) ∧ Below w.heap.size w w' := by
  obtain ⟨A1, c1, A2, c2, A3, c3, A4, c4, A5, c5, A6, c6, A7, c7, A8, c8⟩ := h
  dsimp only
  have hu26 := Try.underlying26
  have HR := Aside0.mk r
  have hb1 := hBd.accts
  have hb2 := hBd.bil
  have hb4 := hBd.pos
  have hb6 := hBd.holds
  have hb7 := hBd.pays
  obtain ⟨Y0, hY0⟩ : ∃ Y, [hdr s] ++ s.accts.map aN = Y := ⟨_, rfl⟩
  obtain ⟨Y1, hY1⟩ : ∃ Y, Y0 ++ s.bil = Y := ⟨_, rfl⟩
  obtain ⟨Y2, hY2⟩ : ∃ Y, Y1 ++ [s.mul] = Y := ⟨_, rfl⟩
  obtain ⟨Y3, hY3⟩ : ∃ Y, Y2 ++ s.pos = Y := ⟨_, rfl⟩
  obtain ⟨Y4, hY4⟩ : ∃ Y, Y3 ++ [s.prices] = Y := ⟨_, rfl⟩
  obtain ⟨Y5, hY5⟩ : ∃ Y, Y4 ++ s.holds = Y := ⟨_, rfl⟩
  obtain ⟨Y6, hY6⟩ : ∃ Y, Y5 ++ s.pays.map pN = Y := ⟨_, rfl⟩
  obtain ⟨Y7, hY7⟩ : ∃ Y, Y6 ++ [s.ids] = Y := ⟨_, rfl⟩
  have hY : Y7 = rowsOf s := by rw [← hY7, ← hY6, ← hY5, ← hY4, ← hY3, ← hY2, ← hY1, ← hY0]; rfl
  have l0 : Y0.length ≤ 1 + M := by rw [← hY0]; simp only [List.length_append, List.length_map, List.length_cons, List.length_nil]; omega
  have l1 : Y1.length ≤ 1 + 2 * M := by rw [← hY1, List.length_append]; omega
  have l2 : Y2.length ≤ 2 + 2 * M := by rw [← hY2, List.length_append, List.length_cons, List.length_nil]; omega
  have l3 : Y3.length ≤ 2 + 3 * M := by rw [← hY3, List.length_append]; omega
  have l4 : Y4.length ≤ 3 + 3 * M := by rw [← hY4, List.length_append, List.length_cons, List.length_nil]; omega
  have l5 : Y5.length ≤ 3 + 4 * M := by rw [← hY5, List.length_append]; omega
  have l6 : Y6.length ≤ 3 + 5 * M := by rw [← hY6, List.length_append, List.length_map]; omega
  have HY0 := Aside0.mk hY0
  have HY1 := Aside0.mk hY1
  have HY2 := Aside0.mk hY2
  have HY3 := Aside0.mk hY3
  have HY4 := Aside0.mk hY4
  have HY5 := Aside0.mk hY5
  have HY6 := Aside0.mk hY6
  have HY7 := Aside0.mk hY7
  have HYall := Aside0.mk hY
  clear hY0 hY1 hY2 hY3 hY4 hY5 hY6 hY7 hY
  replace hBd := Aside0.mk hBd
  have HS := Aside0.mk hs
  have HB := Aside0.mk (Below.refl w.heap.size w)
  clear r hs
  go_enter Try.func8, Try.ntmps8
  go_upto_region 2 with (first | ((with_reducible refine gate_dst (N := 1) rfl ?_); refine box_event (by rfl) (N := 1) (by rfl) (cs := #[.int .i64 s.tick, .slice A1 s.accts.length c1, .slice A2 s.bil.length c2, .slice A3 s.mul.length c3, .slice A4 s.pos.length c4, .slice A5 s.prices.length c5, .slice A6 s.holds.length c6, .slice A7 s.pays.length c7, .slice A8 s.ids.length c8, .int .i64 s.total, .bool s.over]) (t := 29) (by first | (go_simp; done) | (go_simp; rfl)) ?_; intro g1 hg_ wa hbk hb; clear hg_; have B1 := Aside0.mk hbk; have HB_ := Aside0.mk (below_step HB.out hb); clear HB hbk hb; have HB := HB_; clear HB_; obtain ⟨z0, z1, z2, z3, z4, z5, z6, z7, z8, z9, z10⟩ := bk11 B1.out))
  have HQ := Aside0.mk (blk_new wa (.cells #[.slice A1 s.accts.length c1, .slice A2 s.bil.length c2, .slice A3 s.mul.length c3, .slice A4 s.pos.length c4] 26))
  have HB_ := Aside0.mk (below_alloc HB.out (.cells #[.slice A1 s.accts.length c1, .slice A2 s.bil.length c2, .slice A3 s.mul.length c3, .slice A4 s.pos.length c4] 26))
  have B1_ := Aside0.mk (blk_alloc B1.out (.cells #[.slice A1 s.accts.length c1, .slice A2 s.bil.length c2, .slice A3 s.mul.length c3, .slice A4 s.pos.length c4] 26))
  clear HB B1 z0 z1 z2 z3 z4 z5 z6 z7 z8 z9 z10
  have HB := HB_
  have B1 := B1_
  clear HB_ B1_
  generalize wa.alloc (.cells #[.slice A1 s.accts.length c1, .slice A2 s.bil.length c2, .slice A3 s.mul.length c3, .slice A4 s.pos.length c4] 26) = wb at *
  generalize wa.heap.size = g2 at *
  have HC15 := Aside0.mk (cells15 B1.out HQ.out)
  have HBIT := Aside0.mk (bit_f s.over)
  go_region_held (fun w' => w'.cell? ⟨g1, 0, none⟩ = some (.int .i64 s.tick) ∧ w'.cell? ⟨g1, 1, none⟩ = some (.slice A1 s.accts.length c1) ∧ w'.cell? ⟨g1, 2, none⟩ = some (.slice A2 s.bil.length c2) ∧ w'.cell? ⟨g1, 3, none⟩ = some (.slice A3 s.mul.length c3) ∧ w'.cell? ⟨g1, 4, none⟩ = some (.slice A4 s.pos.length c4) ∧ w'.cell? ⟨g1, 5, none⟩ = some (.slice A5 s.prices.length c5) ∧ w'.cell? ⟨g1, 6, none⟩ = some (.slice A6 s.holds.length c6) ∧ w'.cell? ⟨g1, 7, none⟩ = some (.slice A7 s.pays.length c7) ∧ w'.cell? ⟨g1, 8, none⟩ = some (.slice A8 s.ids.length c8) ∧ w'.cell? ⟨g1, 9, none⟩ = some (.int .i64 s.total) ∧ w'.cell? ⟨g1, 10, none⟩ = some (.bool s.over) ∧ w'.cell? ⟨g2, 0, none⟩ = some (.slice A1 s.accts.length c1) ∧ w'.cell? ⟨g2, 1, none⟩ = some (.slice A2 s.bil.length c2) ∧ w'.cell? ⟨g2, 2, none⟩ = some (.slice A3 s.mul.length c3) ∧ w'.cell? ⟨g2, 3, none⟩ = some (.slice A4 s.pos.length c4)) (first | exact keep15 (by repeat (first | exact Below.refl _ _ | refine below_drew ?_ | refine below_alloc ?_ _ | refine pw_below_drewN ?_ _)) HC15.out) (first | (go_at_call 15; refine (snap_bit.calls s.over (bitN s.over) _ HBIT.out).mono ?_; rintro e w9 ⟨rfl, ⟨m1, rfl⟩⟩))
  rename_i Q0 K0 hK hHeld
  refine hK _ _ ?_
  have HI := Aside0.mk (bi_start HB.out B1.out HQ.out (1 + m1) (hdr s) (by simp [hdr]))
  clear hK K0 hHeld HBIT HC15 HB B1 HQ
  have HI_ := Aside0.mk (show BI w (((wb.drewN (1 + m1)).alloc (.cells #[.int .i64 s.tick, .int .i64 s.total, .int .i64 (bitN s.over), .int .i64 (s.accts.length : Int), .int .i64 (s.bil.length : Int), .int .i64 (s.mul.length : Int), .int .i64 (s.pos.length : Int), .int .i64 (s.holds.length : Int), .int .i64 (s.pays.length : Int)] 2)).alloc (.cells #[.slice (some ⟨wb.heap.size, 0, none⟩) 9 9] 24)) g1 g2 #[.int .i64 s.tick, .slice A1 s.accts.length c1, .slice A2 s.bil.length c2, .slice A3 s.mul.length c3, .slice A4 s.pos.length c4, .slice A5 s.prices.length c5, .slice A6 s.holds.length c6, .slice A7 s.pays.length c7, .slice A8 s.ids.length c8, .int .i64 s.total, .bool s.over] #[.slice A1 s.accts.length c1, .slice A2 s.bil.length c2, .slice A3 s.mul.length c3, .slice A4 s.pos.length c4] (.slice (some ⟨wb.heap.size + 1, 0, none⟩) 1 1) [hdr s] from HI.out)
  clear HI
  have HI := HI_
  clear HI_
  generalize (((wb.drewN (1 + m1)).alloc (.cells #[.int .i64 s.tick, .int .i64 s.total, .int .i64 (bitN s.over), .int .i64 (s.accts.length : Int), .int .i64 (s.bil.length : Int), .int .i64 (s.mul.length : Int), .int .i64 (s.pos.length : Int), .int .i64 (s.holds.length : Int), .int .i64 (s.pays.length : Int)] 2)).alloc (.cells #[.slice (some ⟨wb.heap.size, 0, none⟩) 9 9] 24)) = wc at *
  generalize wb.heap.size + 1 = g4 at *
  generalize wb.heap.size = g5 at *
  obtain ⟨z0, z1, z2, z3, z4, z5, z6, z7, z8, z9, z10⟩ := bk11 HI.out.b1
  obtain ⟨y0, y1, y2, y3⟩ := bk4 HI.out.b2
  go_wp2
  go_loopg [4, 6, 41] s.accts.length (fun kq v4 v6 v41 w' => ∃ i : Nat, v41 = .int .i64 (i : Int) ∧ i ≤ s.accts.length ∧ Aside0 (kq + i = s.accts.length) ∧ Aside0 (BI w w' g1 g2 #[.int .i64 s.tick, .slice A1 s.accts.length c1, .slice A2 s.bil.length c2, .slice A3 s.mul.length c3, .slice A4 s.pos.length c4, .slice A5 s.prices.length c5, .slice A6 s.holds.length c6, .slice A7 s.pays.length c7, .slice A8 s.ids.length c8, .int .i64 s.total, .bool s.over] #[.slice A1 s.accts.length c1, .slice A2 s.bil.length c2, .slice A3 s.mul.length c3, .slice A4 s.pos.length c4] v4 ([hdr s] ++ (s.accts.take i).map aN)))
  case atStart => exact ⟨0, rfl, Nat.zero_le _, ⟨rfl⟩, HI⟩
  case round =>
    clear HI z0 z1 z2 z3 z4 z5 z6 z7 z8 z9 z10 y0 y1 y2 y3
    obtain ⟨i, rfl, hi, HK, HI⟩ := hrel
    by_cases ci : i < s.accts.length
    · as_aux_lemma =>
      obtain ⟨ad, e1, hx0, hx1, hx2⟩ := at_T41 (Kd.C_below HR.out.r1 HI.out.base) i (by omega) (by exact_mod_cast ci)
      cases e1
      rw [Int.toNat_natCast] at hx0 hx1 hx2
      have cib : decide ((i : Int) < (s.accts.length : Int)) = true := decide_eq_true (by exact_mod_cast ci)
      have HT := Aside0.mk (show [hdr s] ++ (s.accts.take (i + 1)).map aN = ([hdr s] ++ (s.accts.take i).map aN) ++ [aN (rd_T41 s.accts i)] by rw [amap_take s.accts i ci, List.append_assoc])
      have hlY : ([hdr s] ++ (s.accts.take i).map aN).length ≤ 1 + M := by simp only [List.length_append, List.length_map, List.length_cons, List.length_nil, List.length_take]; omega
      generalize [hdr s] ++ (s.accts.take i).map aN = Y at *
      generalize rd_T41 s.accts i = x at *
      obtain ⟨Ao, co, eo⟩ := Kd.R_slice HI.out.row
      subst eo
      go_upto_region 6 with fail
      have HI_ := Aside0.mk (HI.out.below (below_alloc (Below.refl _ _) (.cells #[.int .i64 x.f0, .int .i64 x.f1, .int .i64 x.f2] 41)))
      obtain ⟨q0, q1, q2⟩ := bk3 (blk_new wr (.cells #[.int .i64 x.f0, .int .i64 x.f1, .int .i64 x.f2] 41))
      clear HI
      have HI := HI_
      clear HI_ hx0 hx1 hx2
      generalize wr.alloc (.cells #[.int .i64 x.f0, .int .i64 x.f1, .int .i64 x.f2] 41) = W2 at *
      generalize wr.heap.size = ga at *
      go_wp2_with (first | ((with_reducible refine gate_dst (N := 52) rfl ?_); refine Kd.R_lit (Kd.int .i64) (w0 := w) w.heap.size 2 rfl (N := 52) rfl (xs := aN x) (inner := [.int .i64 x.f0, .int .i64 x.f1, .int .i64 x.f2]) (ok := fun _ => True) (okp := fun _ => True) (by first | (go_simp; done) | (go_simp; rfl)) (lit_nums (aN x)) (fun _ hk => hk) trivial HI.out.base HI.out.base.size (by simp [aN]) ?_; intro v5 w5 ho hb hg_ hnew_; have HN := Aside0.mk (HI.out.ne hnew_); have HI_ := Aside0.mk (HI.out.lit hb hg_); clear HI hb hg_ hnew_ q0 q1 q2; have HI := HI_; clear HI_; obtain ⟨A9, c9, e9⟩ := Kd.R_slice ho; subst e9; have HU := Aside0.mk ho; clear ho) | ((with_reducible refine gate_dst (N := 54) rfl ?_); refine bi_made rfl _ _ rfl rfl rfl HI.out HU.out HN.out (by omega) ?_; intro v6 w6 hBI; have HI_ := Aside0.mk hBI; clear HI hBI HU HN; have HI := HI_; clear HI_))
      go_roundg (s.accts.length - (i + 1))
      case measure => have := HK.out; omega
      case rel => exact ⟨i + 1, by go_num, by omega, ⟨by omega⟩, ⟨by rw [HT.out]; exact HI.out⟩⟩
    · have cib : decide ((i : Int) < (s.accts.length : Int)) = false := decide_eq_false (by omega)
      have cibn : decide (i < s.accts.length) = false := decide_eq_false ci
      have hT : [hdr s] ++ (s.accts.take i).map aN = Y0 := by rw [List.take_of_length_le (by omega)]; exact HY0.out
      rw [hT] at HI
      clear hT ci
      obtain ⟨Ao, co, eo⟩ := Kd.R_slice HI.out.row
      subst eo
      obtain ⟨z0, z1, z2, z3, z4, z5, z6, z7, z8, z9, z10⟩ := bk11 HI.out.b1
      obtain ⟨y0, y1, y2, y3⟩ := bk4 HI.out.b2
      go_wp2_with (first | ((with_reducible refine gate_dst (N := 59) rfl ?_); refine bi_rows (ys := s.bil) rfl _ _ rfl rfl rfl HI.out HR.out.r2 (by omega) ?_; intro v7 w7 hBI; rw [HY1.out] at hBI; have HI_ := Aside0.mk hBI; clear HI hBI z0 z1 z2 z3 z4 z5 z6 z7 z8 z9 z10 y0 y1 y2 y3; have HI := HI_; clear HI_; obtain ⟨Ao, co, eo⟩ := Kd.R_slice HI.out.row; subst eo; obtain ⟨z0, z1, z2, z3, z4, z5, z6, z7, z8, z9, z10⟩ := bk11 HI.out.b1; obtain ⟨y0, y1, y2, y3⟩ := bk4 HI.out.b2) | ((with_reducible refine gate_dst (N := 64) rfl ?_); refine bi_came (p := s.mul) rfl _ _ rfl rfl rfl HI.out HR.out.r3 HR.out.l3 (by omega) ?_; intro v7 w7 hBI; rw [HY2.out] at hBI; have HI_ := Aside0.mk hBI; clear HI hBI z0 z1 z2 z3 z4 z5 z6 z7 z8 z9 z10 y0 y1 y2 y3; have HI := HI_; clear HI_; obtain ⟨Ao, co, eo⟩ := Kd.R_slice HI.out.row; subst eo; obtain ⟨z0, z1, z2, z3, z4, z5, z6, z7, z8, z9, z10⟩ := bk11 HI.out.b1; obtain ⟨y0, y1, y2, y3⟩ := bk4 HI.out.b2) | ((with_reducible refine gate_dst (N := 68) rfl ?_); refine bi_rows (ys := s.pos) rfl _ _ rfl rfl rfl HI.out HR.out.r4 (by omega) ?_; intro v7 w7 hBI; rw [HY3.out] at hBI; have HI_ := Aside0.mk hBI; clear HI hBI z0 z1 z2 z3 z4 z5 z6 z7 z8 z9 z10 y0 y1 y2 y3; have HI := HI_; clear HI_; obtain ⟨Ao, co, eo⟩ := Kd.R_slice HI.out.row; subst eo; obtain ⟨z0, z1, z2, z3, z4, z5, z6, z7, z8, z9, z10⟩ := bk11 HI.out.b1; obtain ⟨y0, y1, y2, y3⟩ := bk4 HI.out.b2) | ((with_reducible refine gate_dst (N := 73) rfl ?_); refine bi_came (p := s.prices) rfl _ _ rfl rfl rfl HI.out HR.out.r5 HR.out.l5 (by omega) ?_; intro v7 w7 hBI; rw [HY4.out] at hBI; have HI_ := Aside0.mk hBI; clear HI hBI z0 z1 z2 z3 z4 z5 z6 z7 z8 z9 z10 y0 y1 y2 y3; have HI := HI_; clear HI_; obtain ⟨Ao, co, eo⟩ := Kd.R_slice HI.out.row; subst eo; obtain ⟨z0, z1, z2, z3, z4, z5, z6, z7, z8, z9, z10⟩ := bk11 HI.out.b1; obtain ⟨y0, y1, y2, y3⟩ := bk4 HI.out.b2) | ((with_reducible refine gate_dst (N := 77) rfl ?_); refine bi_rows (ys := s.holds) rfl _ _ rfl rfl rfl HI.out HR.out.r6 (by omega) ?_; intro v7 w7 hBI; rw [HY5.out] at hBI; have HI_ := Aside0.mk hBI; clear HI hBI z0 z1 z2 z3 z4 z5 z6 z7 z8 z9 z10 y0 y1 y2 y3; have HI := HI_; clear HI_; obtain ⟨Ao, co, eo⟩ := Kd.R_slice HI.out.row; subst eo; obtain ⟨z0, z1, z2, z3, z4, z5, z6, z7, z8, z9, z10⟩ := bk11 HI.out.b1; obtain ⟨y0, y1, y2, y3⟩ := bk4 HI.out.b2))
      clear cib cibn hi HK
      go_loopg [4, 8, 81] s.pays.length (fun kq v4 v8 v81 w' => ∃ i : Nat, v81 = .int .i64 (i : Int) ∧ i ≤ s.pays.length ∧ Aside0 (kq + i = s.pays.length) ∧ Aside0 (BI w w' g1 g2 #[.int .i64 s.tick, .slice A1 s.accts.length c1, .slice A2 s.bil.length c2, .slice A3 s.mul.length c3, .slice A4 s.pos.length c4, .slice A5 s.prices.length c5, .slice A6 s.holds.length c6, .slice A7 s.pays.length c7, .slice A8 s.ids.length c8, .int .i64 s.total, .bool s.over] #[.slice A1 s.accts.length c1, .slice A2 s.bil.length c2, .slice A3 s.mul.length c3, .slice A4 s.pos.length c4] v4 (Y5 ++ (s.pays.take i).map pN)))
      case atStart => exact ⟨0, rfl, Nat.zero_le _, ⟨rfl⟩, ⟨by rw [List.take_zero, List.map_nil, List.append_nil]; exact HI.out⟩⟩
      case round =>
        clear HI z0 z1 z2 z3 z4 z5 z6 z7 z8 z9 z10 y0 y1 y2 y3
        obtain ⟨j, rfl, hj, HK, HI⟩ := hrel
        by_cases ci : j < s.pays.length
        · obtain ⟨ad, e1, hx0, hx1, hx2, hx3, hx4, hx5, hx6⟩ := at_T43 (Kd.C_below HR.out.r7 HI.out.base) j (by omega) (by exact_mod_cast ci)
          cases e1
          rw [Int.toNat_natCast] at hx0 hx1 hx2 hx3 hx4 hx5 hx6
          have cib : decide ((j : Int) < (s.pays.length : Int)) = true := decide_eq_true (by exact_mod_cast ci)
          have HT := Aside0.mk (show Y5 ++ (s.pays.take (j + 1)).map pN = (Y5 ++ (s.pays.take j).map pN) ++ [pN (rd_T43 s.pays j)] by rw [pmap_take s.pays j ci, List.append_assoc])
          have hlY : (Y5 ++ (s.pays.take j).map pN).length ≤ 3 + 5 * M := by simp only [List.length_append, List.length_map, List.length_take]; omega
          generalize Y5 ++ (s.pays.take j).map pN = Y at *
          generalize rd_T43 s.pays j = x at *
          obtain ⟨Ao, co, eo⟩ := Kd.R_slice HI.out.row
          subst eo
          go_upto_region 16 with fail
          have HI_ := Aside0.mk (HI.out.below (below_alloc (Below.refl _ _) (.cells #[.int .i64 x.f0, .int .i64 x.f1, .int .i64 x.f2, .int .i64 x.f3, .int .i64 x.f4, .int .i64 x.f5, .int .i64 x.f6] 43)))
          obtain ⟨q0, q1, q2, q3, q4, q5, q6⟩ := bk7 (blk_new wr (.cells #[.int .i64 x.f0, .int .i64 x.f1, .int .i64 x.f2, .int .i64 x.f3, .int .i64 x.f4, .int .i64 x.f5, .int .i64 x.f6] 43))
          clear HI
          have HI := HI_
          clear HI_ hx0 hx1 hx2 hx3 hx4 hx5 hx6
          generalize wr.alloc (.cells #[.int .i64 x.f0, .int .i64 x.f1, .int .i64 x.f2, .int .i64 x.f3, .int .i64 x.f4, .int .i64 x.f5, .int .i64 x.f6] 43) = W2 at *
          generalize wr.heap.size = ga at *
          go_wp2_with (first | ((with_reducible refine gate_dst (N := 100) rfl ?_); refine Kd.R_lit (Kd.int .i64) (w0 := w) w.heap.size 2 rfl (N := 100) rfl (xs := pN x) (inner := [.int .i64 x.f0, .int .i64 x.f1, .int .i64 x.f2, .int .i64 x.f3, .int .i64 x.f4, .int .i64 x.f5, .int .i64 x.f6]) (ok := fun _ => True) (okp := fun _ => True) (by first | (go_simp; done) | (go_simp; rfl)) (lit_nums (pN x)) (fun _ hk => hk) trivial HI.out.base HI.out.base.size (by simp [pN]) ?_; intro v5 w5 ho hb hg_ hnew_; have HN := Aside0.mk (HI.out.ne hnew_); have HI_ := Aside0.mk (HI.out.lit hb hg_); clear HI hb hg_ hnew_ q0 q1 q2 q3 q4 q5 q6; have HI := HI_; clear HI_; obtain ⟨A9, c9, e9⟩ := Kd.R_slice ho; subst e9; have HU := Aside0.mk ho; clear ho) | ((with_reducible refine gate_dst (N := 102) rfl ?_); refine bi_made rfl _ _ rfl rfl rfl HI.out HU.out HN.out (by omega) ?_; intro v6 w6 hBI; have HI_ := Aside0.mk hBI; clear HI hBI HU HN; have HI := HI_; clear HI_))
          go_roundg (s.pays.length - (j + 1))
          case measure => have := HK.out; omega
          case rel => exact ⟨j + 1, by go_num, by omega, ⟨by omega⟩, ⟨by rw [HT.out]; exact HI.out⟩⟩
        · as_aux_lemma =>
          have cib : decide ((j : Int) < (s.pays.length : Int)) = false := decide_eq_false (by omega)
          have cibn : decide (j < s.pays.length) = false := decide_eq_false ci
          have hT : Y5 ++ (s.pays.take j).map pN = Y6 := by rw [List.take_of_length_le (by omega)]; exact HY6.out
          rw [hT] at HI
          clear hT ci
          obtain ⟨Ao, co, eo⟩ := Kd.R_slice HI.out.row
          subst eo
          obtain ⟨z0, z1, z2, z3, z4, z5, z6, z7, z8, z9, z10⟩ := bk11 HI.out.b1
          obtain ⟨y0, y1, y2, y3⟩ := bk4 HI.out.b2
          go_wp2_with (first | ((with_reducible refine gate_dst (N := 108) rfl ?_); refine bi_came (p := s.ids) rfl _ _ rfl rfl rfl HI.out HR.out.r8 HR.out.l8 (by omega) ?_; intro v7 w7 hBI; rw [HY7.out] at hBI; have HI_ := Aside0.mk hBI; clear HI hBI z0 z1 z2 z3 z4 z5 z6 z7 z8 z9 z10 y0 y1 y2 y3; have HI := HI_; clear HI_; obtain ⟨Ao, co, eo⟩ := Kd.R_slice HI.out.row; subst eo; obtain ⟨z0, z1, z2, z3, z4, z5, z6, z7, z8, z9, z10⟩ := bk11 HI.out.b1; obtain ⟨y0, y1, y2, y3⟩ := bk4 HI.out.b2) | ((with_reducible refine gate_dst (N := 109) rfl ?_); (try (refine gate_guard (by rfl) ?_; dsimp only)); refine goesL_ (some 109) rfl rfl Try.func16 (by kernel_rfl) rfl #[.slice Ao Y7.length co] rfl (by (try simp only [List.map_toArray, List.map_cons, List.map_nil]); first | done | rfl | (simp only [List.length_drop, List.length_take]; rfl)) ?_; refine (wrows Ao co Y7 (5 * M + 10) _ HI.out.reads.2 (by rw [HYall.out]; have := rowsOf_len hBd.out; omega) (fun r hr => by rw [HYall.out] at hr; have := rowsOf_le hBd.out r hr; omega) (by omega) (by rw [HYall.out]; exact HS.out)).mono ?_; rintro e w9 ⟨v9, rfl, ho, hb⟩; refine ⟨_, rfl, ?_⟩; have HO := Aside0.mk (Kd.R_lower ho HI.out.base.size); have HB := Aside0.mk (below_step HI.out.base hb); clear ho hb))
          go_ret
          exact ⟨_, rfl, by have := HO.out; rw [HYall.out] at this; exact this, HB.out⟩
end Go.Proofs.Ytpcfceodbemooaa.B
