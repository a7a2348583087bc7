/- girolaw3.MsgRest: the walk. -/
import Derived.Test.YtoljpojpncjmoaaMsg5
namespace Go.Proofs.Ytoljpojpncjmoaa.B
open Go.RowKit Go.Proofs.YtoljpojpncjmoaaW.PrintWords Go.Proofs.YtoljpojpncjmoaaW.PrintLast Go.Proofs.YtoljpojpncjmoaaW.PrintMore
attribute [local go_sem] max2_int min2_int max_two min_two max_three min_three max_four min_four
set_option linter.unusedVariables false
set_option linter.unusedSimpArgs false

theorem many_pos {k : Int} (h : 1 ≤ k ∧ k ≤ 23) : 0 ≤ many k := by
  obtain ⟨n, hn, rfl⟩ := int_in (k := k) (by omega)
  have : ∀ n : Nat, n < 24 → 1 ≤ n → 0 ≤ many (n : Int) := by decide +kernel
  exact this n hn (by omega)
def restM (k v : Int) (j : Nat) : Ms := msOf k ((List.replicate j 0) ++ [v])
theorem rest_is {k v : Int} (hk : 1 ≤ k ∧ k ≤ 23) (hv : v ≠ 0) : ∀ j : Nat, j < 6 → isM (restM k v j) = decide ((j : Int) < many k) := by
  have h1 := many_pos hk
  have h2 := (many_bd k).2
  intro j hj
  unfold isM
  rw [show (restM k v j).k = k from rfl]
  obtain ⟨n, hn⟩ : ∃ n : Nat, many k = n := ⟨(many k).toNat, by omega⟩
  rw [hn, Int.toNat_natCast, decide_eq_true (show (0 : Int) ≤ (n : Int) by omega), Bool.true_and]
  have hn6 : n ≤ 6 := by omega
  have hvb : (v == 0) = false := by rw [beq_eq_false_iff_ne]; exact hv
  rw [show decide ((j : Int) < (n : Int)) = decide (j < n) by simp]
  match j, hj with
  | 0, _ => match n, hn6 with
    | 0, _ => simp [restM, msOf, Ms.l, hvb]
    | 1, _ => simp [restM, msOf, Ms.l, hvb]
    | 2, _ => simp [restM, msOf, Ms.l, hvb]
    | 3, _ => simp [restM, msOf, Ms.l, hvb]
    | 4, _ => simp [restM, msOf, Ms.l, hvb]
    | 5, _ => simp [restM, msOf, Ms.l, hvb]
    | 6, _ => simp [restM, msOf, Ms.l, hvb]
    | n + 7, h => omega
  | 1, _ => match n, hn6 with
    | 0, _ => simp [restM, msOf, Ms.l, hvb]
    | 1, _ => simp [restM, msOf, Ms.l, hvb]
    | 2, _ => simp [restM, msOf, Ms.l, hvb]
    | 3, _ => simp [restM, msOf, Ms.l, hvb]
    | 4, _ => simp [restM, msOf, Ms.l, hvb]
    | 5, _ => simp [restM, msOf, Ms.l, hvb]
    | 6, _ => simp [restM, msOf, Ms.l, hvb]
    | n + 7, h => omega
  | 2, _ => match n, hn6 with
    | 0, _ => simp [restM, msOf, Ms.l, hvb]
    | 1, _ => simp [restM, msOf, Ms.l, hvb]
    | 2, _ => simp [restM, msOf, Ms.l, hvb]
    | 3, _ => simp [restM, msOf, Ms.l, hvb]
    | 4, _ => simp [restM, msOf, Ms.l, hvb]
    | 5, _ => simp [restM, msOf, Ms.l, hvb]
    | 6, _ => simp [restM, msOf, Ms.l, hvb]
    | n + 7, h => omega
  | 3, _ => match n, hn6 with
    | 0, _ => simp [restM, msOf, Ms.l, hvb]
    | 1, _ => simp [restM, msOf, Ms.l, hvb]
    | 2, _ => simp [restM, msOf, Ms.l, hvb]
    | 3, _ => simp [restM, msOf, Ms.l, hvb]
    | 4, _ => simp [restM, msOf, Ms.l, hvb]
    | 5, _ => simp [restM, msOf, Ms.l, hvb]
    | 6, _ => simp [restM, msOf, Ms.l, hvb]
    | n + 7, h => omega
  | 4, _ => match n, hn6 with
    | 0, _ => simp [restM, msOf, Ms.l, hvb]
    | 1, _ => simp [restM, msOf, Ms.l, hvb]
    | 2, _ => simp [restM, msOf, Ms.l, hvb]
    | 3, _ => simp [restM, msOf, Ms.l, hvb]
    | 4, _ => simp [restM, msOf, Ms.l, hvb]
    | 5, _ => simp [restM, msOf, Ms.l, hvb]
    | 6, _ => simp [restM, msOf, Ms.l, hvb]
    | n + 7, h => omega
  | 5, _ => match n, hn6 with
    | 0, _ => simp [restM, msOf, Ms.l, hvb]
    | 1, _ => simp [restM, msOf, Ms.l, hvb]
    | 2, _ => simp [restM, msOf, Ms.l, hvb]
    | 3, _ => simp [restM, msOf, Ms.l, hvb]
    | 4, _ => simp [restM, msOf, Ms.l, hvb]
    | 5, _ => simp [restM, msOf, Ms.l, hvb]
    | 6, _ => simp [restM, msOf, Ms.l, hvb]
    | n + 7, h => omega
  | j + 6, h => omega
theorem cmd_is (m : Ms) : decide (0 < ((cmdM 1 m).length : Int)) = isM m := by
  unfold cmdM
  split
  · rename_i h; rw [(bytesM_nil m).1 h]; rfl
  · rename_i h
    have : isM m = true := by rw [← Bool.not_eq_false]; exact fun h' => h ((bytesM_nil m).2 h')
    rw [this, decide_eq_true_iff, List.length_append]
    have : (puts [1]).length = 8 := rfl
    omega
theorem bytes_is (m : Ms) : decide (0 < ((bytesM m).length : Int)) = isM m := by
  cases h : isM m with
  | false => rw [(bytesM_nil m).2 h]; rfl
  | true =>
    rw [decide_eq_true_iff]
    have : bytesM m ≠ [] := fun h' => by rw [(bytesM_nil m).1 h'] at h; cases h
    have := List.length_pos_iff.2 this
    omega
section
variable {P : Program} {ops : Array Oper} {rest : List Oper} {o : Oper} {a : Act} {Q : Exit → Act → World → Prop} {W : World}
/-- *p = u: one cell of a block; the world behind it is a letter. -/
theorem store_cell {w0 : World} {B : Nat} (hgd : o.guard = none) (ty : TypeId) (x y : Operand) (ho : o.op = .store ty x y) (g i : Nat) (u : Value) (hx : a.eval x = .pointer (some ⟨g, i, none⟩)) (hy : a.eval y = u)
    (t : TypeId) (old cells : Array Value) (hg : W.heap[g]? = some (.cells old t (0, 0))) (hi : (P.info? ty).map (·.size) = some 1) (hlt : i < old.size) (hc : old.setIfInBounds i u = cells) (hu : u.cells.toList = [u]) (h1 : u.oneCell' = true) (HB : Below B w0 W) (hBg : B ≤ g)
    (h : ∀ w', w'.heap[g]? = some (.cells cells t (0, 0)) → (∀ k, k ≠ g → w'.heap[k]? = W.heap[k]?) → Below B w0 w' → wpList P ops Q rest (a.put o.dst undef) w') : wpList P ops Q (o :: rest) a W := by
  have hr := run_store_run (P := P) (w := W) (g := g) (o := i) ty u [u] hg hu hi (by show i + 1 ≤ old.size; omega) (by intro q hq; rw [List.mem_singleton.1 hq]; exact h1)
  have e : W.setCells g i [u] = W.setRow g cells := by rw [← hc]; exact setCell_eq_setRow W g i old t (0, 0) u hg
  rw [e] at hr
  refine wpList_plain hgd fun K hK => ?_
  unfold Oper.wp execOp
  simp only [ho, hx, hy, Sem.run_bind, hr, Result.andThen_ok]
  exact hK _ _ (h _ (setRow_heap _ _ _ _ _ _ hg) (fun k hk => setRow_other _ _ _ _ hk) (below_row HB hBg _))
end

set_option maxHeartbeats 1000000 in
theorem lawRest0 (k v : Int) (w : World) (hk : 1 ≤ k ∧ k ≤ 23) (hv : v ≠ 0) : Calls Try.prog 15 #[.int .i64 k, .int .i64 0, .int .i64 v] w fun e w' => e = .returned (.bool true) ∧ Below w.heap.size w w' := by
  have HB := Aside0.mk (Below.refl w.heap.size w)
  obtain ⟨m, hm⟩ : ∃ m, m = many k := ⟨_, rfl⟩
  have HM := Aside0.mk hm
  obtain ⟨ib, hib⟩ : ∃ ib, decide ((0 : Int) < m) = ib := ⟨_, rfl⟩
  have HIS := Aside0.mk (show isM ⟨k, v, 0, 0, 0, 0, 0⟩ = ib by rw [← hib, hm]; exact rest_is hk hv 0 (by omega))
  obtain ⟨b, hb⟩ : ∃ b, b = bytesM ⟨k, v, 0, 0, 0, 0, 0⟩ := ⟨_, rfl⟩
  obtain ⟨d, hd⟩ : ∃ d, d = cmdM 1 ⟨k, v, 0, 0, 0, 0, 0⟩ := ⟨_, rfl⟩
  have HBM := Aside0.mk hb
  have HDM := Aside0.mk hd
  have hb0 : decide (0 < b.length) = ib := by rw [← HIS.out, ← bytes_is, ← hb]; simp
  have hd0 : decide (0 < d.length) = ib := by rw [← HIS.out, ← cmd_is, ← hd]; simp
  have e1 : decide (k < 1) = false := decide_eq_false (by omega)
  have e2 : decide (23 < k) = false := decide_eq_false (by omega)
  have e3 : (v == 0) = false := by rw [beq_eq_false_iff_ne]; exact hv
  clear hm hb hd hk hv
  cases ib <;> (
  go_enter Try.func15, Try.ntmps15
  go_wp2_with (first | ((with_reducible refine gate_store (t := 2) (p := 32) rfl ?_); (refine store_cell (B := w.heap.size) (w0 := w) rfl 2 _ _ rfl w.heap.size 1 (.int .i64 v) rfl rfl 54 _ #[.int .i64 k, .int .i64 v, .int .i64 0, .int .i64 0, .int .i64 0, .int .i64 0, .int .i64 0] (blk_new w _) (by kernel_rfl) (by show 1 < 7; omega) rfl rfl rfl (below_alloc HB.out _) (Nat.le_refl _) ?_; intro w1 hg_ ho_ hb_; have HG := Aside0.mk hg_; clear HB; have HB := Aside0.mk hb_; clear hg_ ho_ hb_)) | ((with_reducible refine gate_dst (N := 37) rfl ?_); (try (refine gate_guard (by rfl) ?_; dsimp only)); (refine wpList_load_row rfl 54 _ rfl w.heap.size rfl 54 _ (0, 0) _ HG.out Try.underlying54 rfl (by kernel_rfl) ?_)) | ((with_reducible refine gate_dst (N := 42) rfl ?_); (try (refine gate_guard (by rfl) ?_; dsimp only)); (refine wpList_load_row rfl 54 _ rfl w.heap.size rfl 54 _ (0, 0) _ HG.out Try.underlying54 rfl (by kernel_rfl) ?_)) | ((with_reducible refine gate_dst (N := 50) rfl ?_); (try (refine gate_guard (by rfl) ?_; dsimp only)); (refine wpList_load_row rfl 54 _ rfl w.heap.size rfl 54 _ (0, 0) _ HG.out Try.underlying54 rfl (by kernel_rfl) ?_)) | ((with_reducible refine gate_dst (N := 35) rfl ?_); (try (refine gate_guard (by rfl) ?_; dsimp only)); refine goesL_ (some 35) rfl rfl Try.func36 (by kernel_rfl) rfl #[.int .i64 k] rfl (by (try simp only [List.map_toArray, List.map_cons, List.map_nil]); first | done | rfl | (simp only [List.length_drop, List.length_take]; rfl)) ?_; refine (mmany3 k _).mono ?_; rintro e w2 ⟨rfl, hbl⟩; refine ⟨_, rfl, ?_⟩; rw [← HM.out]; have HG' := Aside0.mk (blk_below HG.out hbl); have HB2 := Aside0.mk (below_step HB.out hbl); clear HB hbl HG; have HB := HB2; have HG := HG'; clear HB2 HG') | ((with_reducible refine gate_dst (N := 38) rfl ?_); (try (refine gate_guard (by rfl) ?_; dsimp only)); refine goesL_ (some 38) rfl rfl Try.func44 (by kernel_rfl) rfl #[.agg #[.int .i64 k, .int .i64 v, .int .i64 0, .int .i64 0, .int .i64 0, .int .i64 0, .int .i64 0]] rfl (by (try simp only [List.map_toArray, List.map_cons, List.map_nil]); first | done | rfl | (simp only [List.length_drop, List.length_take]; rfl)) ?_; refine (mis k v 0 0 0 0 0 _).mono ?_; rintro e w2 ⟨rfl, hbl⟩; refine ⟨_, rfl, ?_⟩; rw [HIS.out]; have HG' := Aside0.mk (blk_below HG.out hbl); have HB2 := Aside0.mk (below_step HB.out hbl); clear HB hbl HG; have HB := HB2; have HG := HG'; clear HB2 HG') | ((with_reducible refine gate_dst (N := 43) rfl ?_); (try (refine gate_guard (by rfl) ?_; dsimp only)); refine goesL_ (some 43) rfl rfl Try.func38 (by kernel_rfl) rfl #[.agg #[.int .i64 k, .int .i64 v, .int .i64 0, .int .i64 0, .int .i64 0, .int .i64 0, .int .i64 0]] rfl (by (try simp only [List.map_toArray, List.map_cons, List.map_nil]); first | done | rfl | (simp only [List.length_drop, List.length_take]; rfl)) ?_; refine (mbytes k v 0 0 0 0 0 _).mono ?_; rintro e w2 ⟨v2, rfl, ho, hbl⟩; refine ⟨_, rfl, ?_⟩; rw [← HBM.out] at ho; obtain ⟨A1, c1, e1⟩ := Kd.R_slice ho; subst e1; have HG' := Aside0.mk (blk_below HG.out hbl); have HB2 := Aside0.mk (below_step HB.out hbl); clear HB hbl HG; have HB := HB2; have HG := HG'; clear HB2 HG') | ((with_reducible refine gate_dst (N := 52) rfl ?_); (try (refine gate_guard (by rfl) ?_; dsimp only)); refine goesL_ (some 52) rfl rfl Try.func45 (by kernel_rfl) rfl #[.agg #[.int .i64 1, .int .i64 k, .int .i64 v, .int .i64 0, .int .i64 0, .int .i64 0, .int .i64 0, .int .i64 0]] rfl (by (try simp only [List.map_toArray, List.map_cons, List.map_nil]); first | done | rfl | (simp only [List.length_drop, List.length_take]; rfl)) ?_; refine (mcmd 1 k v 0 0 0 0 0 _).mono ?_; rintro e w2 ⟨v2, rfl, ho, hbl⟩; refine ⟨_, rfl, ?_⟩; rw [← HDM.out] at ho; obtain ⟨A1, c1, e1⟩ := Kd.R_slice ho; subst e1; have HG' := Aside0.mk (blk_below HG.out hbl); have HB2 := Aside0.mk (below_step HB.out hbl); clear HB hbl HG; have HB := HB2; have HG := HG'; clear HB2 HG') | ((with_reducible refine gate_dst (N := 59) rfl ?_); (try (refine gate_guard (by rfl) ?_; dsimp only)); refine goesL_ (some 59) rfl rfl Try.func37 (by kernel_rfl) rfl #[] rfl (by (try simp only [List.map_toArray, List.map_cons, List.map_nil]); first | done | rfl | (simp only [List.length_drop, List.length_take]; rfl)) ?_; refine (known3 _).mono ?_; rintro e w2 ⟨rfl, hbl⟩; refine ⟨_, rfl, ?_⟩; have HG' := Aside0.mk (blk_below HG.out hbl); have HB2 := Aside0.mk (below_step HB.out hbl); clear HB hbl HG; have HB := HB2; have HG := HG'; clear HB2 HG'))
  go_ret
  exact ⟨rfl, HB.out⟩)

set_option maxHeartbeats 1000000 in
theorem lawRest1 (k v : Int) (w : World) (hk : 1 ≤ k ∧ k ≤ 23) (hv : v ≠ 0) : Calls Try.prog 15 #[.int .i64 k, .int .i64 1, .int .i64 v] w fun e w' => e = .returned (.bool true) ∧ Below w.heap.size w w' := by
  have HB := Aside0.mk (Below.refl w.heap.size w)
  obtain ⟨m, hm⟩ : ∃ m, m = many k := ⟨_, rfl⟩
  have HM := Aside0.mk hm
  obtain ⟨ib, hib⟩ : ∃ ib, decide ((1 : Int) < m) = ib := ⟨_, rfl⟩
  have HIS := Aside0.mk (show isM ⟨k, 0, v, 0, 0, 0, 0⟩ = ib by rw [← hib, hm]; exact rest_is hk hv 1 (by omega))
  obtain ⟨b, hb⟩ : ∃ b, b = bytesM ⟨k, 0, v, 0, 0, 0, 0⟩ := ⟨_, rfl⟩
  obtain ⟨d, hd⟩ : ∃ d, d = cmdM 1 ⟨k, 0, v, 0, 0, 0, 0⟩ := ⟨_, rfl⟩
  have HBM := Aside0.mk hb
  have HDM := Aside0.mk hd
  have hb0 : decide (0 < b.length) = ib := by rw [← HIS.out, ← bytes_is, ← hb]; simp
  have hd0 : decide (0 < d.length) = ib := by rw [← HIS.out, ← cmd_is, ← hd]; simp
  have e1 : decide (k < 1) = false := decide_eq_false (by omega)
  have e2 : decide (23 < k) = false := decide_eq_false (by omega)
  have e3 : (v == 0) = false := by rw [beq_eq_false_iff_ne]; exact hv
  clear hm hb hd hk hv
  cases ib <;> (
  go_enter Try.func15, Try.ntmps15
  go_wp2_with (first | ((with_reducible refine gate_store (t := 2) (p := 32) rfl ?_); (refine store_cell (B := w.heap.size) (w0 := w) rfl 2 _ _ rfl w.heap.size 2 (.int .i64 v) rfl rfl 54 _ #[.int .i64 k, .int .i64 0, .int .i64 v, .int .i64 0, .int .i64 0, .int .i64 0, .int .i64 0] (blk_new w _) (by kernel_rfl) (by show 2 < 7; omega) rfl rfl rfl (below_alloc HB.out _) (Nat.le_refl _) ?_; intro w1 hg_ ho_ hb_; have HG := Aside0.mk hg_; clear HB; have HB := Aside0.mk hb_; clear hg_ ho_ hb_)) | ((with_reducible refine gate_dst (N := 37) rfl ?_); (try (refine gate_guard (by rfl) ?_; dsimp only)); (refine wpList_load_row rfl 54 _ rfl w.heap.size rfl 54 _ (0, 0) _ HG.out Try.underlying54 rfl (by kernel_rfl) ?_)) | ((with_reducible refine gate_dst (N := 42) rfl ?_); (try (refine gate_guard (by rfl) ?_; dsimp only)); (refine wpList_load_row rfl 54 _ rfl w.heap.size rfl 54 _ (0, 0) _ HG.out Try.underlying54 rfl (by kernel_rfl) ?_)) | ((with_reducible refine gate_dst (N := 50) rfl ?_); (try (refine gate_guard (by rfl) ?_; dsimp only)); (refine wpList_load_row rfl 54 _ rfl w.heap.size rfl 54 _ (0, 0) _ HG.out Try.underlying54 rfl (by kernel_rfl) ?_)) | ((with_reducible refine gate_dst (N := 35) rfl ?_); (try (refine gate_guard (by rfl) ?_; dsimp only)); refine goesL_ (some 35) rfl rfl Try.func36 (by kernel_rfl) rfl #[.int .i64 k] rfl (by (try simp only [List.map_toArray, List.map_cons, List.map_nil]); first | done | rfl | (simp only [List.length_drop, List.length_take]; rfl)) ?_; refine (mmany3 k _).mono ?_; rintro e w2 ⟨rfl, hbl⟩; refine ⟨_, rfl, ?_⟩; rw [← HM.out]; have HG' := Aside0.mk (blk_below HG.out hbl); have HB2 := Aside0.mk (below_step HB.out hbl); clear HB hbl HG; have HB := HB2; have HG := HG'; clear HB2 HG') | ((with_reducible refine gate_dst (N := 38) rfl ?_); (try (refine gate_guard (by rfl) ?_; dsimp only)); refine goesL_ (some 38) rfl rfl Try.func44 (by kernel_rfl) rfl #[.agg #[.int .i64 k, .int .i64 0, .int .i64 v, .int .i64 0, .int .i64 0, .int .i64 0, .int .i64 0]] rfl (by (try simp only [List.map_toArray, List.map_cons, List.map_nil]); first | done | rfl | (simp only [List.length_drop, List.length_take]; rfl)) ?_; refine (mis k 0 v 0 0 0 0 _).mono ?_; rintro e w2 ⟨rfl, hbl⟩; refine ⟨_, rfl, ?_⟩; rw [HIS.out]; have HG' := Aside0.mk (blk_below HG.out hbl); have HB2 := Aside0.mk (below_step HB.out hbl); clear HB hbl HG; have HB := HB2; have HG := HG'; clear HB2 HG') | ((with_reducible refine gate_dst (N := 43) rfl ?_); (try (refine gate_guard (by rfl) ?_; dsimp only)); refine goesL_ (some 43) rfl rfl Try.func38 (by kernel_rfl) rfl #[.agg #[.int .i64 k, .int .i64 0, .int .i64 v, .int .i64 0, .int .i64 0, .int .i64 0, .int .i64 0]] rfl (by (try simp only [List.map_toArray, List.map_cons, List.map_nil]); first | done | rfl | (simp only [List.length_drop, List.length_take]; rfl)) ?_; refine (mbytes k 0 v 0 0 0 0 _).mono ?_; rintro e w2 ⟨v2, rfl, ho, hbl⟩; refine ⟨_, rfl, ?_⟩; rw [← HBM.out] at ho; obtain ⟨A1, c1, e1⟩ := Kd.R_slice ho; subst e1; have HG' := Aside0.mk (blk_below HG.out hbl); have HB2 := Aside0.mk (below_step HB.out hbl); clear HB hbl HG; have HB := HB2; have HG := HG'; clear HB2 HG') | ((with_reducible refine gate_dst (N := 52) rfl ?_); (try (refine gate_guard (by rfl) ?_; dsimp only)); refine goesL_ (some 52) rfl rfl Try.func45 (by kernel_rfl) rfl #[.agg #[.int .i64 1, .int .i64 k, .int .i64 0, .int .i64 v, .int .i64 0, .int .i64 0, .int .i64 0, .int .i64 0]] rfl (by (try simp only [List.map_toArray, List.map_cons, List.map_nil]); first | done | rfl | (simp only [List.length_drop, List.length_take]; rfl)) ?_; refine (mcmd 1 k 0 v 0 0 0 0 _).mono ?_; rintro e w2 ⟨v2, rfl, ho, hbl⟩; refine ⟨_, rfl, ?_⟩; rw [← HDM.out] at ho; obtain ⟨A1, c1, e1⟩ := Kd.R_slice ho; subst e1; have HG' := Aside0.mk (blk_below HG.out hbl); have HB2 := Aside0.mk (below_step HB.out hbl); clear HB hbl HG; have HB := HB2; have HG := HG'; clear HB2 HG') | ((with_reducible refine gate_dst (N := 59) rfl ?_); (try (refine gate_guard (by rfl) ?_; dsimp only)); refine goesL_ (some 59) rfl rfl Try.func37 (by kernel_rfl) rfl #[] rfl (by (try simp only [List.map_toArray, List.map_cons, List.map_nil]); first | done | rfl | (simp only [List.length_drop, List.length_take]; rfl)) ?_; refine (known3 _).mono ?_; rintro e w2 ⟨rfl, hbl⟩; refine ⟨_, rfl, ?_⟩; have HG' := Aside0.mk (blk_below HG.out hbl); have HB2 := Aside0.mk (below_step HB.out hbl); clear HB hbl HG; have HB := HB2; have HG := HG'; clear HB2 HG'))
  go_ret
  exact ⟨rfl, HB.out⟩)

set_option maxHeartbeats 1000000 in
theorem lawRest2 (k v : Int) (w : World) (hk : 1 ≤ k ∧ k ≤ 23) (hv : v ≠ 0) : Calls Try.prog 15 #[.int .i64 k, .int .i64 2, .int .i64 v] w fun e w' => e = .returned (.bool true) ∧ Below w.heap.size w w' := by
  have HB := Aside0.mk (Below.refl w.heap.size w)
  obtain ⟨m, hm⟩ : ∃ m, m = many k := ⟨_, rfl⟩
  have HM := Aside0.mk hm
  obtain ⟨ib, hib⟩ : ∃ ib, decide ((2 : Int) < m) = ib := ⟨_, rfl⟩
  have HIS := Aside0.mk (show isM ⟨k, 0, 0, v, 0, 0, 0⟩ = ib by rw [← hib, hm]; exact rest_is hk hv 2 (by omega))
  obtain ⟨b, hb⟩ : ∃ b, b = bytesM ⟨k, 0, 0, v, 0, 0, 0⟩ := ⟨_, rfl⟩
  obtain ⟨d, hd⟩ : ∃ d, d = cmdM 1 ⟨k, 0, 0, v, 0, 0, 0⟩ := ⟨_, rfl⟩
  have HBM := Aside0.mk hb
  have HDM := Aside0.mk hd
  have hb0 : decide (0 < b.length) = ib := by rw [← HIS.out, ← bytes_is, ← hb]; simp
  have hd0 : decide (0 < d.length) = ib := by rw [← HIS.out, ← cmd_is, ← hd]; simp
  have e1 : decide (k < 1) = false := decide_eq_false (by omega)
  have e2 : decide (23 < k) = false := decide_eq_false (by omega)
  have e3 : (v == 0) = false := by rw [beq_eq_false_iff_ne]; exact hv
  clear hm hb hd hk hv
  cases ib <;> (
  go_enter Try.func15, Try.ntmps15
  go_wp2_with (first | ((with_reducible refine gate_store (t := 2) (p := 32) rfl ?_); (refine store_cell (B := w.heap.size) (w0 := w) rfl 2 _ _ rfl w.heap.size 3 (.int .i64 v) rfl rfl 54 _ #[.int .i64 k, .int .i64 0, .int .i64 0, .int .i64 v, .int .i64 0, .int .i64 0, .int .i64 0] (blk_new w _) (by kernel_rfl) (by show 3 < 7; omega) rfl rfl rfl (below_alloc HB.out _) (Nat.le_refl _) ?_; intro w1 hg_ ho_ hb_; have HG := Aside0.mk hg_; clear HB; have HB := Aside0.mk hb_; clear hg_ ho_ hb_)) | ((with_reducible refine gate_dst (N := 37) rfl ?_); (try (refine gate_guard (by rfl) ?_; dsimp only)); (refine wpList_load_row rfl 54 _ rfl w.heap.size rfl 54 _ (0, 0) _ HG.out Try.underlying54 rfl (by kernel_rfl) ?_)) | ((with_reducible refine gate_dst (N := 42) rfl ?_); (try (refine gate_guard (by rfl) ?_; dsimp only)); (refine wpList_load_row rfl 54 _ rfl w.heap.size rfl 54 _ (0, 0) _ HG.out Try.underlying54 rfl (by kernel_rfl) ?_)) | ((with_reducible refine gate_dst (N := 50) rfl ?_); (try (refine gate_guard (by rfl) ?_; dsimp only)); (refine wpList_load_row rfl 54 _ rfl w.heap.size rfl 54 _ (0, 0) _ HG.out Try.underlying54 rfl (by kernel_rfl) ?_)) | ((with_reducible refine gate_dst (N := 35) rfl ?_); (try (refine gate_guard (by rfl) ?_; dsimp only)); refine goesL_ (some 35) rfl rfl Try.func36 (by kernel_rfl) rfl #[.int .i64 k] rfl (by (try simp only [List.map_toArray, List.map_cons, List.map_nil]); first | done | rfl | (simp only [List.length_drop, List.length_take]; rfl)) ?_; refine (mmany3 k _).mono ?_; rintro e w2 ⟨rfl, hbl⟩; refine ⟨_, rfl, ?_⟩; rw [← HM.out]; have HG' := Aside0.mk (blk_below HG.out hbl); have HB2 := Aside0.mk (below_step HB.out hbl); clear HB hbl HG; have HB := HB2; have HG := HG'; clear HB2 HG') | ((with_reducible refine gate_dst (N := 38) rfl ?_); (try (refine gate_guard (by rfl) ?_; dsimp only)); refine goesL_ (some 38) rfl rfl Try.func44 (by kernel_rfl) rfl #[.agg #[.int .i64 k, .int .i64 0, .int .i64 0, .int .i64 v, .int .i64 0, .int .i64 0, .int .i64 0]] rfl (by (try simp only [List.map_toArray, List.map_cons, List.map_nil]); first | done | rfl | (simp only [List.length_drop, List.length_take]; rfl)) ?_; refine (mis k 0 0 v 0 0 0 _).mono ?_; rintro e w2 ⟨rfl, hbl⟩; refine ⟨_, rfl, ?_⟩; rw [HIS.out]; have HG' := Aside0.mk (blk_below HG.out hbl); have HB2 := Aside0.mk (below_step HB.out hbl); clear HB hbl HG; have HB := HB2; have HG := HG'; clear HB2 HG') | ((with_reducible refine gate_dst (N := 43) rfl ?_); (try (refine gate_guard (by rfl) ?_; dsimp only)); refine goesL_ (some 43) rfl rfl Try.func38 (by kernel_rfl) rfl #[.agg #[.int .i64 k, .int .i64 0, .int .i64 0, .int .i64 v, .int .i64 0, .int .i64 0, .int .i64 0]] rfl (by (try simp only [List.map_toArray, List.map_cons, List.map_nil]); first | done | rfl | (simp only [List.length_drop, List.length_take]; rfl)) ?_; refine (mbytes k 0 0 v 0 0 0 _).mono ?_; rintro e w2 ⟨v2, rfl, ho, hbl⟩; refine ⟨_, rfl, ?_⟩; rw [← HBM.out] at ho; obtain ⟨A1, c1, e1⟩ := Kd.R_slice ho; subst e1; have HG' := Aside0.mk (blk_below HG.out hbl); have HB2 := Aside0.mk (below_step HB.out hbl); clear HB hbl HG; have HB := HB2; have HG := HG'; clear HB2 HG') | ((with_reducible refine gate_dst (N := 52) rfl ?_); (try (refine gate_guard (by rfl) ?_; dsimp only)); refine goesL_ (some 52) rfl rfl Try.func45 (by kernel_rfl) rfl #[.agg #[.int .i64 1, .int .i64 k, .int .i64 0, .int .i64 0, .int .i64 v, .int .i64 0, .int .i64 0, .int .i64 0]] rfl (by (try simp only [List.map_toArray, List.map_cons, List.map_nil]); first | done | rfl | (simp only [List.length_drop, List.length_take]; rfl)) ?_; refine (mcmd 1 k 0 0 v 0 0 0 _).mono ?_; rintro e w2 ⟨v2, rfl, ho, hbl⟩; refine ⟨_, rfl, ?_⟩; rw [← HDM.out] at ho; obtain ⟨A1, c1, e1⟩ := Kd.R_slice ho; subst e1; have HG' := Aside0.mk (blk_below HG.out hbl); have HB2 := Aside0.mk (below_step HB.out hbl); clear HB hbl HG; have HB := HB2; have HG := HG'; clear HB2 HG') | ((with_reducible refine gate_dst (N := 59) rfl ?_); (try (refine gate_guard (by rfl) ?_; dsimp only)); refine goesL_ (some 59) rfl rfl Try.func37 (by kernel_rfl) rfl #[] rfl (by (try simp only [List.map_toArray, List.map_cons, List.map_nil]); first | done | rfl | (simp only [List.length_drop, List.length_take]; rfl)) ?_; refine (known3 _).mono ?_; rintro e w2 ⟨rfl, hbl⟩; refine ⟨_, rfl, ?_⟩; have HG' := Aside0.mk (blk_below HG.out hbl); have HB2 := Aside0.mk (below_step HB.out hbl); clear HB hbl HG; have HB := HB2; have HG := HG'; clear HB2 HG'))
  go_ret
  exact ⟨rfl, HB.out⟩)

set_option maxHeartbeats 1000000 in
theorem lawRest3 (k v : Int) (w : World) (hk : 1 ≤ k ∧ k ≤ 23) (hv : v ≠ 0) : Calls Try.prog 15 #[.int .i64 k, .int .i64 3, .int .i64 v] w fun e w' => e = .returned (.bool true) ∧ Below w.heap.size w w' := by
  have HB := Aside0.mk (Below.refl w.heap.size w)
  obtain ⟨m, hm⟩ : ∃ m, m = many k := ⟨_, rfl⟩
  have HM := Aside0.mk hm
  obtain ⟨ib, hib⟩ : ∃ ib, decide ((3 : Int) < m) = ib := ⟨_, rfl⟩
  have HIS := Aside0.mk (show isM ⟨k, 0, 0, 0, v, 0, 0⟩ = ib by rw [← hib, hm]; exact rest_is hk hv 3 (by omega))
  obtain ⟨b, hb⟩ : ∃ b, b = bytesM ⟨k, 0, 0, 0, v, 0, 0⟩ := ⟨_, rfl⟩
  obtain ⟨d, hd⟩ : ∃ d, d = cmdM 1 ⟨k, 0, 0, 0, v, 0, 0⟩ := ⟨_, rfl⟩
  have HBM := Aside0.mk hb
  have HDM := Aside0.mk hd
  have hb0 : decide (0 < b.length) = ib := by rw [← HIS.out, ← bytes_is, ← hb]; simp
  have hd0 : decide (0 < d.length) = ib := by rw [← HIS.out, ← cmd_is, ← hd]; simp
  have e1 : decide (k < 1) = false := decide_eq_false (by omega)
  have e2 : decide (23 < k) = false := decide_eq_false (by omega)
  have e3 : (v == 0) = false := by rw [beq_eq_false_iff_ne]; exact hv
  clear hm hb hd hk hv
  cases ib <;> (
  go_enter Try.func15, Try.ntmps15
  go_wp2_with (first | ((with_reducible refine gate_store (t := 2) (p := 32) rfl ?_); (refine store_cell (B := w.heap.size) (w0 := w) rfl 2 _ _ rfl w.heap.size 4 (.int .i64 v) rfl rfl 54 _ #[.int .i64 k, .int .i64 0, .int .i64 0, .int .i64 0, .int .i64 v, .int .i64 0, .int .i64 0] (blk_new w _) (by kernel_rfl) (by show 4 < 7; omega) rfl rfl rfl (below_alloc HB.out _) (Nat.le_refl _) ?_; intro w1 hg_ ho_ hb_; have HG := Aside0.mk hg_; clear HB; have HB := Aside0.mk hb_; clear hg_ ho_ hb_)) | ((with_reducible refine gate_dst (N := 37) rfl ?_); (try (refine gate_guard (by rfl) ?_; dsimp only)); (refine wpList_load_row rfl 54 _ rfl w.heap.size rfl 54 _ (0, 0) _ HG.out Try.underlying54 rfl (by kernel_rfl) ?_)) | ((with_reducible refine gate_dst (N := 42) rfl ?_); (try (refine gate_guard (by rfl) ?_; dsimp only)); (refine wpList_load_row rfl 54 _ rfl w.heap.size rfl 54 _ (0, 0) _ HG.out Try.underlying54 rfl (by kernel_rfl) ?_)) | ((with_reducible refine gate_dst (N := 50) rfl ?_); (try (refine gate_guard (by rfl) ?_; dsimp only)); (refine wpList_load_row rfl 54 _ rfl w.heap.size rfl 54 _ (0, 0) _ HG.out Try.underlying54 rfl (by kernel_rfl) ?_)) | ((with_reducible refine gate_dst (N := 35) rfl ?_); (try (refine gate_guard (by rfl) ?_; dsimp only)); refine goesL_ (some 35) rfl rfl Try.func36 (by kernel_rfl) rfl #[.int .i64 k] rfl (by (try simp only [List.map_toArray, List.map_cons, List.map_nil]); first | done | rfl | (simp only [List.length_drop, List.length_take]; rfl)) ?_; refine (mmany3 k _).mono ?_; rintro e w2 ⟨rfl, hbl⟩; refine ⟨_, rfl, ?_⟩; rw [← HM.out]; have HG' := Aside0.mk (blk_below HG.out hbl); have HB2 := Aside0.mk (below_step HB.out hbl); clear HB hbl HG; have HB := HB2; have HG := HG'; clear HB2 HG') | ((with_reducible refine gate_dst (N := 38) rfl ?_); (try (refine gate_guard (by rfl) ?_; dsimp only)); refine goesL_ (some 38) rfl rfl Try.func44 (by kernel_rfl) rfl #[.agg #[.int .i64 k, .int .i64 0, .int .i64 0, .int .i64 0, .int .i64 v, .int .i64 0, .int .i64 0]] rfl (by (try simp only [List.map_toArray, List.map_cons, List.map_nil]); first | done | rfl | (simp only [List.length_drop, List.length_take]; rfl)) ?_; refine (mis k 0 0 0 v 0 0 _).mono ?_; rintro e w2 ⟨rfl, hbl⟩; refine ⟨_, rfl, ?_⟩; rw [HIS.out]; have HG' := Aside0.mk (blk_below HG.out hbl); have HB2 := Aside0.mk (below_step HB.out hbl); clear HB hbl HG; have HB := HB2; have HG := HG'; clear HB2 HG') | ((with_reducible refine gate_dst (N := 43) rfl ?_); (try (refine gate_guard (by rfl) ?_; dsimp only)); refine goesL_ (some 43) rfl rfl Try.func38 (by kernel_rfl) rfl #[.agg #[.int .i64 k, .int .i64 0, .int .i64 0, .int .i64 0, .int .i64 v, .int .i64 0, .int .i64 0]] rfl (by (try simp only [List.map_toArray, List.map_cons, List.map_nil]); first | done | rfl | (simp only [List.length_drop, List.length_take]; rfl)) ?_; refine (mbytes k 0 0 0 v 0 0 _).mono ?_; rintro e w2 ⟨v2, rfl, ho, hbl⟩; refine ⟨_, rfl, ?_⟩; rw [← HBM.out] at ho; obtain ⟨A1, c1, e1⟩ := Kd.R_slice ho; subst e1; have HG' := Aside0.mk (blk_below HG.out hbl); have HB2 := Aside0.mk (below_step HB.out hbl); clear HB hbl HG; have HB := HB2; have HG := HG'; clear HB2 HG') | ((with_reducible refine gate_dst (N := 52) rfl ?_); (try (refine gate_guard (by rfl) ?_; dsimp only)); refine goesL_ (some 52) rfl rfl Try.func45 (by kernel_rfl) rfl #[.agg #[.int .i64 1, .int .i64 k, .int .i64 0, .int .i64 0, .int .i64 0, .int .i64 v, .int .i64 0, .int .i64 0]] rfl (by (try simp only [List.map_toArray, List.map_cons, List.map_nil]); first | done | rfl | (simp only [List.length_drop, List.length_take]; rfl)) ?_; refine (mcmd 1 k 0 0 0 v 0 0 _).mono ?_; rintro e w2 ⟨v2, rfl, ho, hbl⟩; refine ⟨_, rfl, ?_⟩; rw [← HDM.out] at ho; obtain ⟨A1, c1, e1⟩ := Kd.R_slice ho; subst e1; have HG' := Aside0.mk (blk_below HG.out hbl); have HB2 := Aside0.mk (below_step HB.out hbl); clear HB hbl HG; have HB := HB2; have HG := HG'; clear HB2 HG') | ((with_reducible refine gate_dst (N := 59) rfl ?_); (try (refine gate_guard (by rfl) ?_; dsimp only)); refine goesL_ (some 59) rfl rfl Try.func37 (by kernel_rfl) rfl #[] rfl (by (try simp only [List.map_toArray, List.map_cons, List.map_nil]); first | done | rfl | (simp only [List.length_drop, List.length_take]; rfl)) ?_; refine (known3 _).mono ?_; rintro e w2 ⟨rfl, hbl⟩; refine ⟨_, rfl, ?_⟩; have HG' := Aside0.mk (blk_below HG.out hbl); have HB2 := Aside0.mk (below_step HB.out hbl); clear HB hbl HG; have HB := HB2; have HG := HG'; clear HB2 HG'))
  go_ret
  exact ⟨rfl, HB.out⟩)

set_option maxHeartbeats 1000000 in
theorem lawRest4 (k v : Int) (w : World) (hk : 1 ≤ k ∧ k ≤ 23) (hv : v ≠ 0) : Calls Try.prog 15 #[.int .i64 k, .int .i64 4, .int .i64 v] w fun e w' => e = .returned (.bool true) ∧ Below w.heap.size w w' := by
  have HB := Aside0.mk (Below.refl w.heap.size w)
  obtain ⟨m, hm⟩ : ∃ m, m = many k := ⟨_, rfl⟩
  have HM := Aside0.mk hm
  obtain ⟨ib, hib⟩ : ∃ ib, decide ((4 : Int) < m) = ib := ⟨_, rfl⟩
  have HIS := Aside0.mk (show isM ⟨k, 0, 0, 0, 0, v, 0⟩ = ib by rw [← hib, hm]; exact rest_is hk hv 4 (by omega))
  obtain ⟨b, hb⟩ : ∃ b, b = bytesM ⟨k, 0, 0, 0, 0, v, 0⟩ := ⟨_, rfl⟩
  obtain ⟨d, hd⟩ : ∃ d, d = cmdM 1 ⟨k, 0, 0, 0, 0, v, 0⟩ := ⟨_, rfl⟩
  have HBM := Aside0.mk hb
  have HDM := Aside0.mk hd
  have hb0 : decide (0 < b.length) = ib := by rw [← HIS.out, ← bytes_is, ← hb]; simp
  have hd0 : decide (0 < d.length) = ib := by rw [← HIS.out, ← cmd_is, ← hd]; simp
  have e1 : decide (k < 1) = false := decide_eq_false (by omega)
  have e2 : decide (23 < k) = false := decide_eq_false (by omega)
  have e3 : (v == 0) = false := by rw [beq_eq_false_iff_ne]; exact hv
  clear hm hb hd hk hv
  cases ib <;> (
  go_enter Try.func15, Try.ntmps15
  go_wp2_with (first | ((with_reducible refine gate_store (t := 2) (p := 32) rfl ?_); (refine store_cell (B := w.heap.size) (w0 := w) rfl 2 _ _ rfl w.heap.size 5 (.int .i64 v) rfl rfl 54 _ #[.int .i64 k, .int .i64 0, .int .i64 0, .int .i64 0, .int .i64 0, .int .i64 v, .int .i64 0] (blk_new w _) (by kernel_rfl) (by show 5 < 7; omega) rfl rfl rfl (below_alloc HB.out _) (Nat.le_refl _) ?_; intro w1 hg_ ho_ hb_; have HG := Aside0.mk hg_; clear HB; have HB := Aside0.mk hb_; clear hg_ ho_ hb_)) | ((with_reducible refine gate_dst (N := 37) rfl ?_); (try (refine gate_guard (by rfl) ?_; dsimp only)); (refine wpList_load_row rfl 54 _ rfl w.heap.size rfl 54 _ (0, 0) _ HG.out Try.underlying54 rfl (by kernel_rfl) ?_)) | ((with_reducible refine gate_dst (N := 42) rfl ?_); (try (refine gate_guard (by rfl) ?_; dsimp only)); (refine wpList_load_row rfl 54 _ rfl w.heap.size rfl 54 _ (0, 0) _ HG.out Try.underlying54 rfl (by kernel_rfl) ?_)) | ((with_reducible refine gate_dst (N := 50) rfl ?_); (try (refine gate_guard (by rfl) ?_; dsimp only)); (refine wpList_load_row rfl 54 _ rfl w.heap.size rfl 54 _ (0, 0) _ HG.out Try.underlying54 rfl (by kernel_rfl) ?_)) | ((with_reducible refine gate_dst (N := 35) rfl ?_); (try (refine gate_guard (by rfl) ?_; dsimp only)); refine goesL_ (some 35) rfl rfl Try.func36 (by kernel_rfl) rfl #[.int .i64 k] rfl (by (try simp only [List.map_toArray, List.map_cons, List.map_nil]); first | done | rfl | (simp only [List.length_drop, List.length_take]; rfl)) ?_; refine (mmany3 k _).mono ?_; rintro e w2 ⟨rfl, hbl⟩; refine ⟨_, rfl, ?_⟩; rw [← HM.out]; have HG' := Aside0.mk (blk_below HG.out hbl); have HB2 := Aside0.mk (below_step HB.out hbl); clear HB hbl HG; have HB := HB2; have HG := HG'; clear HB2 HG') | ((with_reducible refine gate_dst (N := 38) rfl ?_); (try (refine gate_guard (by rfl) ?_; dsimp only)); refine goesL_ (some 38) rfl rfl Try.func44 (by kernel_rfl) rfl #[.agg #[.int .i64 k, .int .i64 0, .int .i64 0, .int .i64 0, .int .i64 0, .int .i64 v, .int .i64 0]] rfl (by (try simp only [List.map_toArray, List.map_cons, List.map_nil]); first | done | rfl | (simp only [List.length_drop, List.length_take]; rfl)) ?_; refine (mis k 0 0 0 0 v 0 _).mono ?_; rintro e w2 ⟨rfl, hbl⟩; refine ⟨_, rfl, ?_⟩; rw [HIS.out]; have HG' := Aside0.mk (blk_below HG.out hbl); have HB2 := Aside0.mk (below_step HB.out hbl); clear HB hbl HG; have HB := HB2; have HG := HG'; clear HB2 HG') | ((with_reducible refine gate_dst (N := 43) rfl ?_); (try (refine gate_guard (by rfl) ?_; dsimp only)); refine goesL_ (some 43) rfl rfl Try.func38 (by kernel_rfl) rfl #[.agg #[.int .i64 k, .int .i64 0, .int .i64 0, .int .i64 0, .int .i64 0, .int .i64 v, .int .i64 0]] rfl (by (try simp only [List.map_toArray, List.map_cons, List.map_nil]); first | done | rfl | (simp only [List.length_drop, List.length_take]; rfl)) ?_; refine (mbytes k 0 0 0 0 v 0 _).mono ?_; rintro e w2 ⟨v2, rfl, ho, hbl⟩; refine ⟨_, rfl, ?_⟩; rw [← HBM.out] at ho; obtain ⟨A1, c1, e1⟩ := Kd.R_slice ho; subst e1; have HG' := Aside0.mk (blk_below HG.out hbl); have HB2 := Aside0.mk (below_step HB.out hbl); clear HB hbl HG; have HB := HB2; have HG := HG'; clear HB2 HG') | ((with_reducible refine gate_dst (N := 52) rfl ?_); (try (refine gate_guard (by rfl) ?_; dsimp only)); refine goesL_ (some 52) rfl rfl Try.func45 (by kernel_rfl) rfl #[.agg #[.int .i64 1, .int .i64 k, .int .i64 0, .int .i64 0, .int .i64 0, .int .i64 0, .int .i64 v, .int .i64 0]] rfl (by (try simp only [List.map_toArray, List.map_cons, List.map_nil]); first | done | rfl | (simp only [List.length_drop, List.length_take]; rfl)) ?_; refine (mcmd 1 k 0 0 0 0 v 0 _).mono ?_; rintro e w2 ⟨v2, rfl, ho, hbl⟩; refine ⟨_, rfl, ?_⟩; rw [← HDM.out] at ho; obtain ⟨A1, c1, e1⟩ := Kd.R_slice ho; subst e1; have HG' := Aside0.mk (blk_below HG.out hbl); have HB2 := Aside0.mk (below_step HB.out hbl); clear HB hbl HG; have HB := HB2; have HG := HG'; clear HB2 HG') | ((with_reducible refine gate_dst (N := 59) rfl ?_); (try (refine gate_guard (by rfl) ?_; dsimp only)); refine goesL_ (some 59) rfl rfl Try.func37 (by kernel_rfl) rfl #[] rfl (by (try simp only [List.map_toArray, List.map_cons, List.map_nil]); first | done | rfl | (simp only [List.length_drop, List.length_take]; rfl)) ?_; refine (known3 _).mono ?_; rintro e w2 ⟨rfl, hbl⟩; refine ⟨_, rfl, ?_⟩; have HG' := Aside0.mk (blk_below HG.out hbl); have HB2 := Aside0.mk (below_step HB.out hbl); clear HB hbl HG; have HB := HB2; have HG := HG'; clear HB2 HG'))
  go_ret
  exact ⟨rfl, HB.out⟩)

set_option maxHeartbeats 1000000 in
theorem lawRest5 (k v : Int) (w : World) (hk : 1 ≤ k ∧ k ≤ 23) (hv : v ≠ 0) : Calls Try.prog 15 #[.int .i64 k, .int .i64 5, .int .i64 v] w fun e w' => e = .returned (.bool true) ∧ Below w.heap.size w w' := by
  have HB := Aside0.mk (Below.refl w.heap.size w)
  obtain ⟨m, hm⟩ : ∃ m, m = many k := ⟨_, rfl⟩
  have HM := Aside0.mk hm
  obtain ⟨ib, hib⟩ : ∃ ib, decide ((5 : Int) < m) = ib := ⟨_, rfl⟩
  have HIS := Aside0.mk (show isM ⟨k, 0, 0, 0, 0, 0, v⟩ = ib by rw [← hib, hm]; exact rest_is hk hv 5 (by omega))
  obtain ⟨b, hb⟩ : ∃ b, b = bytesM ⟨k, 0, 0, 0, 0, 0, v⟩ := ⟨_, rfl⟩
  obtain ⟨d, hd⟩ : ∃ d, d = cmdM 1 ⟨k, 0, 0, 0, 0, 0, v⟩ := ⟨_, rfl⟩
  have HBM := Aside0.mk hb
  have HDM := Aside0.mk hd
  have hb0 : decide (0 < b.length) = ib := by rw [← HIS.out, ← bytes_is, ← hb]; simp
  have hd0 : decide (0 < d.length) = ib := by rw [← HIS.out, ← cmd_is, ← hd]; simp
  have e1 : decide (k < 1) = false := decide_eq_false (by omega)
  have e2 : decide (23 < k) = false := decide_eq_false (by omega)
  have e3 : (v == 0) = false := by rw [beq_eq_false_iff_ne]; exact hv
  clear hm hb hd hk hv
  cases ib <;> (
  go_enter Try.func15, Try.ntmps15
  go_wp2_with (first | ((with_reducible refine gate_store (t := 2) (p := 32) rfl ?_); (refine store_cell (B := w.heap.size) (w0 := w) rfl 2 _ _ rfl w.heap.size 6 (.int .i64 v) rfl rfl 54 _ #[.int .i64 k, .int .i64 0, .int .i64 0, .int .i64 0, .int .i64 0, .int .i64 0, .int .i64 v] (blk_new w _) (by kernel_rfl) (by show 6 < 7; omega) rfl rfl rfl (below_alloc HB.out _) (Nat.le_refl _) ?_; intro w1 hg_ ho_ hb_; have HG := Aside0.mk hg_; clear HB; have HB := Aside0.mk hb_; clear hg_ ho_ hb_)) | ((with_reducible refine gate_dst (N := 37) rfl ?_); (try (refine gate_guard (by rfl) ?_; dsimp only)); (refine wpList_load_row rfl 54 _ rfl w.heap.size rfl 54 _ (0, 0) _ HG.out Try.underlying54 rfl (by kernel_rfl) ?_)) | ((with_reducible refine gate_dst (N := 42) rfl ?_); (try (refine gate_guard (by rfl) ?_; dsimp only)); (refine wpList_load_row rfl 54 _ rfl w.heap.size rfl 54 _ (0, 0) _ HG.out Try.underlying54 rfl (by kernel_rfl) ?_)) | ((with_reducible refine gate_dst (N := 50) rfl ?_); (try (refine gate_guard (by rfl) ?_; dsimp only)); (refine wpList_load_row rfl 54 _ rfl w.heap.size rfl 54 _ (0, 0) _ HG.out Try.underlying54 rfl (by kernel_rfl) ?_)) | ((with_reducible refine gate_dst (N := 35) rfl ?_); (try (refine gate_guard (by rfl) ?_; dsimp only)); refine goesL_ (some 35) rfl rfl Try.func36 (by kernel_rfl) rfl #[.int .i64 k] rfl (by (try simp only [List.map_toArray, List.map_cons, List.map_nil]); first | done | rfl | (simp only [List.length_drop, List.length_take]; rfl)) ?_; refine (mmany3 k _).mono ?_; rintro e w2 ⟨rfl, hbl⟩; refine ⟨_, rfl, ?_⟩; rw [← HM.out]; have HG' := Aside0.mk (blk_below HG.out hbl); have HB2 := Aside0.mk (below_step HB.out hbl); clear HB hbl HG; have HB := HB2; have HG := HG'; clear HB2 HG') | ((with_reducible refine gate_dst (N := 38) rfl ?_); (try (refine gate_guard (by rfl) ?_; dsimp only)); refine goesL_ (some 38) rfl rfl Try.func44 (by kernel_rfl) rfl #[.agg #[.int .i64 k, .int .i64 0, .int .i64 0, .int .i64 0, .int .i64 0, .int .i64 0, .int .i64 v]] rfl (by (try simp only [List.map_toArray, List.map_cons, List.map_nil]); first | done | rfl | (simp only [List.length_drop, List.length_take]; rfl)) ?_; refine (mis k 0 0 0 0 0 v _).mono ?_; rintro e w2 ⟨rfl, hbl⟩; refine ⟨_, rfl, ?_⟩; rw [HIS.out]; have HG' := Aside0.mk (blk_below HG.out hbl); have HB2 := Aside0.mk (below_step HB.out hbl); clear HB hbl HG; have HB := HB2; have HG := HG'; clear HB2 HG') | ((with_reducible refine gate_dst (N := 43) rfl ?_); (try (refine gate_guard (by rfl) ?_; dsimp only)); refine goesL_ (some 43) rfl rfl Try.func38 (by kernel_rfl) rfl #[.agg #[.int .i64 k, .int .i64 0, .int .i64 0, .int .i64 0, .int .i64 0, .int .i64 0, .int .i64 v]] rfl (by (try simp only [List.map_toArray, List.map_cons, List.map_nil]); first | done | rfl | (simp only [List.length_drop, List.length_take]; rfl)) ?_; refine (mbytes k 0 0 0 0 0 v _).mono ?_; rintro e w2 ⟨v2, rfl, ho, hbl⟩; refine ⟨_, rfl, ?_⟩; rw [← HBM.out] at ho; obtain ⟨A1, c1, e1⟩ := Kd.R_slice ho; subst e1; have HG' := Aside0.mk (blk_below HG.out hbl); have HB2 := Aside0.mk (below_step HB.out hbl); clear HB hbl HG; have HB := HB2; have HG := HG'; clear HB2 HG') | ((with_reducible refine gate_dst (N := 52) rfl ?_); (try (refine gate_guard (by rfl) ?_; dsimp only)); refine goesL_ (some 52) rfl rfl Try.func45 (by kernel_rfl) rfl #[.agg #[.int .i64 1, .int .i64 k, .int .i64 0, .int .i64 0, .int .i64 0, .int .i64 0, .int .i64 0, .int .i64 v]] rfl (by (try simp only [List.map_toArray, List.map_cons, List.map_nil]); first | done | rfl | (simp only [List.length_drop, List.length_take]; rfl)) ?_; refine (mcmd 1 k 0 0 0 0 0 v _).mono ?_; rintro e w2 ⟨v2, rfl, ho, hbl⟩; refine ⟨_, rfl, ?_⟩; rw [← HDM.out] at ho; obtain ⟨A1, c1, e1⟩ := Kd.R_slice ho; subst e1; have HG' := Aside0.mk (blk_below HG.out hbl); have HB2 := Aside0.mk (below_step HB.out hbl); clear HB hbl HG; have HB := HB2; have HG := HG'; clear HB2 HG') | ((with_reducible refine gate_dst (N := 59) rfl ?_); (try (refine gate_guard (by rfl) ?_; dsimp only)); refine goesL_ (some 59) rfl rfl Try.func37 (by kernel_rfl) rfl #[] rfl (by (try simp only [List.map_toArray, List.map_cons, List.map_nil]); first | done | rfl | (simp only [List.length_drop, List.length_take]; rfl)) ?_; refine (known3 _).mono ?_; rintro e w2 ⟨rfl, hbl⟩; refine ⟨_, rfl, ?_⟩; have HG' := Aside0.mk (blk_below HG.out hbl); have HB2 := Aside0.mk (below_step HB.out hbl); clear HB hbl HG; have HB := HB2; have HG := HG'; clear HB2 HG'))
  go_ret
  exact ⟨rfl, HB.out⟩)

set_option maxHeartbeats 1000000 in
theorem lawRest (k i v : Int) (w : World) (hk : -9223372036854775808 ≤ k ∧ k < 9223372036854775808) (hi : -9223372036854775808 ≤ i ∧ i < 9223372036854775808) (hv : -9223372036854775808 ≤ v ∧ v < 9223372036854775808) : Calls Try.prog 15 #[.int .i64 k, .int .i64 i, .int .i64 v] w fun e w' => e = .returned (.bool true) ∧ Below w.heap.size w w' := by
  have HB := Aside0.mk (Below.refl w.heap.size w)
  by_cases c1 : k < 1
  · have d1 : decide (k < 1) = true := decide_eq_true c1
    go_enter Try.func15, Try.ntmps15
    go_wp2
    go_ret
    exact ⟨rfl, HB.out⟩
  by_cases c2 : 23 < k
  · have d1 : decide (23 < k) = true := decide_eq_true c2
    have fc1 : decide (k < 1) = false := decide_eq_false c1
    go_enter Try.func15, Try.ntmps15
    go_wp2
    go_ret
    exact ⟨rfl, HB.out⟩
  by_cases c3 : i < 0
  · have d1 : decide (i < 0) = true := decide_eq_true c3
    have fc1 : decide (k < 1) = false := decide_eq_false c1
    have fc2 : decide (23 < k) = false := decide_eq_false c2
    go_enter Try.func15, Try.ntmps15
    go_wp2
    go_ret
    exact ⟨rfl, HB.out⟩
  by_cases c4 : 6 ≤ i
  · have d1 : decide (6 ≤ i) = true := decide_eq_true c4
    have fc1 : decide (k < 1) = false := decide_eq_false c1
    have fc2 : decide (23 < k) = false := decide_eq_false c2
    have fc3 : decide (i < 0) = false := decide_eq_false c3
    go_enter Try.func15, Try.ntmps15
    go_wp2
    go_ret
    exact ⟨rfl, HB.out⟩
  by_cases c5 : v = 0
  · subst c5
    have fc1 : decide (k < 1) = false := decide_eq_false c1
    have fc2 : decide (23 < k) = false := decide_eq_false c2
    have fc3 : decide (i < 0) = false := decide_eq_false c3
    have fc4 : decide (6 ≤ i) = false := decide_eq_false c4
    go_enter Try.func15, Try.ntmps15
    go_wp2
    go_ret
    exact ⟨rfl, HB.out⟩
  have hc : i = 0 ∨ i = 1 ∨ i = 2 ∨ i = 3 ∨ i = 4 ∨ i = 5 := by omega
  rcases hc with rfl | rfl | rfl | rfl | rfl | rfl
  · exact lawRest0 k v w (by omega) c5
  · exact lawRest1 k v w (by omega) c5
  · exact lawRest2 k v w (by omega) c5
  · exact lawRest3 k v w (by omega) c5
  · exact lawRest4 k v w (by omega) c5
  · exact lawRest5 k v w (by omega) c5
end Go.Proofs.Ytoljpojpncjmoaa.B
