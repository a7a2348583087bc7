/- msg.Read: the walk. -/
import Derived.Test.YtoljpojpncjmoaaMsg3
import Derived.Laws.CopyRow
namespace Go.Proofs.Ytoljpojpncjmoaa.B
open Go.RowKit Go.Proofs.YtoljpojpncjmoaaW.PrintWords Go.Proofs.YtoljpojpncjmoaaW.PrintLast Go.Proofs.YtoljpojpncjmoaaW.PrintMore
attribute [local go_sem] max2_int min2_int max_two min_two max_three min_three max_four min_four
set_option linter.unusedVariables false
set_option linter.unusedSimpArgs false

/-- A message of a kind and some numbers. -/
def msOf (k : Int) (l : List Int) : Ms := ⟨k, l.getD 0 0, l.getD 1 0, l.getD 2 0, l.getD 3 0, l.getD 4 0, l.getD 5 0⟩
/-- Are bytes a message? -/
def readK (b : List Int) : Bool := match b with
  | [] => false
  | x :: t => decide (gerr t = 0 ∧ ((getl t).length : Int) = many x)
def readM (b : List Int) : Ms := if readK b = true then msOf (rd b 0) (getl (b.drop 1)) else msOf 0 []
def readE (b : List Int) : Int := if readK b = true then 0 else 2

/-- copy(m.F[:], l) into a message's block. -/
theorem copy_blk {P : Program} {W : World} (dT sT ty e : TypeId) (hu : P.underlying dT = some (.slice e)) (hs : (P.info? e).map (·.size) = some 1) (g : Nat) (k : Int) (t : TypeId) (hg : W.heap[g]? = some (.cells (msOf k []).cells t (0, 0))) (A : Option Addr) (c : Nat) (ys : List Int) (hy : ys.length ≤ 6) (HR : Kd.C (Kd.int .i64) W A ys.length ys) :
    (Builtin.copy_ #[dT, sT] ty #[.slice (some ⟨g, 1, none⟩) 6 6, .slice A ys.length c]).run P W = .ok (goInt ys.length) (W.setRow g (msOf k ys).cells) := by
  by_cases h0 : ys = []
  · subst h0
    rw [setRow_self W g _ t (0, 0) hg]
    first | exact run_copy_none W dT sT ty e _ A 6 6 0 c hu hs rfl | exact run_copy_none W dT sT ty e _ A 6 6 _ c hu hs rfl
  · have hp : 0 < ys.length := List.length_pos_iff.2 h0
    obtain ⟨a, rfl, _⟩ := Kd.at_int HR 0 (by omega) (by exact_mod_cast hp)
    have hr := run_copy_row (P := P) W dT sT ty e g 1 6 6 a ys.length c _ t (ys.map (Value.int .i64)) hu hs hg (by rw [List.length_map]; exact (Nat.min_eq_left hy).symm)
      (fun j v hv => by
        rw [List.getElem?_map] at hv
        obtain ⟨x, hx, rfl⟩ := Option.map_eq_some_iff.1 hv
        obtain ⟨hj, hxj⟩ := List.getElem?_eq_some_iff.1 hx
        obtain ⟨a', e', hc⟩ := Kd.at_int HR (j : Int) (by omega) (by exact_mod_cast hj)
        cases e'
        rw [Int.toNat_natCast] at hc
        rw [hc, Go.Proofs.YtoljpojpncjmoaaW.PrintWords.rd, Int.toNat_natCast, List.getD_eq_getElem?_getD, hx]
        rfl)
      (by rw [List.length_map]; show 1 + ys.length ≤ 7; omega) (by intro v hv; obtain ⟨x, _, rfl⟩ := List.mem_map.1 hv; rfl)
    rw [List.length_map] at hr
    rw [hr]
    congr 2
    match ys, hy with
    | [], _ => rfl
    | [_], _ => rfl
    | [_, _], _ => rfl
    | [_, _, _], _ => rfl
    | [_, _, _, _], _ => rfl
    | [_, _, _, _, _], _ => rfl
    | [_, _, _, _, _, _], _ => rfl
    | _ :: _ :: _ :: _ :: _ :: _ :: _ :: _, h => simp at h

theorem below_row {B g : Nat} {w0 w : World} (hb : Below B w0 w) (hBg : B ≤ g) (cs : Array Value) : Below B w0 (w.setRow g cs) :=
  ⟨hb.os, hb.tape, hb.output, by rw [setRow_size]; exact hb.size, fun k hk => (setRow_other w g k cs (by omega)).trans (hb.block k hk)⟩
section
variable {P : Program} {ops : Array Oper} {rest : List Oper} {o : Oper} {a : Act} {Q : Exit → Act → World → Prop} {W : World}
/-- *p = T{..}: a block written whole; the world behind it is a letter. -/
theorem store_blk {w0 : World} {B : Nat} (hgd : o.guard = none) (ty : TypeId) (x y : Operand) (ho : o.op = .store ty x y) (g : Nat) (cells : Array Value) (hx : a.eval x = .pointer (some ⟨g, 0, none⟩)) (hy : a.eval y = .agg cells)
    (t : TypeId) (old : Array Value) (hg : W.heap[g]? = some (.cells old t (0, 0))) (hi : (P.info? ty).map (·.size) = some cells.size) (hold : old.size = cells.size) (h1 : cells.all (·.oneCell') = true) (HB : Below B w0 W) (hBg : B ≤ g)
    (h : ∀ w', w'.heap[g]? = some (.cells cells t (0, 0)) → (∀ k, k ≠ g → w'.heap[k]? = W.heap[k]?) → Below B w0 w' → wpList P ops Q rest (a.put o.dst undef) w') : wpList P ops Q (o :: rest) a W :=
  wpList_store_row hgd ty x y ho g cells hx hy t old hg hi hold h1 (h _ (setRow_heap _ _ _ _ _ _ hg) (fun k hk => setRow_other _ _ _ _ hk) (below_row HB hBg _))
theorem copy_step {w0 : World} {B : Nat} (hgd : o.guard = none) (d s : Operand) (dT sT e : TypeId) (ho : o.op = .call { callee := .builtin .copy, args := #[d, s], argTypes := #[dT, sT] }) (hu : P.underlying dT = some (.slice e)) (hs : (P.info? e).map (·.size) = some 1)
    (g : Nat) (k : Int) (t : TypeId) (hg : W.heap[g]? = some (.cells (msOf k []).cells t (0, 0))) (A : Option Addr) (c : Nat) (ys : List Int) (hd : a.eval d = .slice (some ⟨g, 1, none⟩) 6 6) (hsr : a.eval s = .slice A ys.length c) (hy : ys.length ≤ 6) (HR : Kd.C (Kd.int .i64) W A ys.length ys) (HB : Below B w0 W) (hBg : B ≤ g)
    (h : ∀ w', w'.heap[g]? = some (.cells (msOf k ys).cells t (0, 0)) → (∀ k, k ≠ g → w'.heap[k]? = W.heap[k]?) → Below B w0 w' → wpList P ops Q rest (a.put o.dst (goInt ys.length)) w') : wpList P ops Q (o :: rest) a W :=
by
  refine wpList_plain hgd fun K hK => ?_
  unfold Oper.wp execOp
  simp only [ho, resolve, invoke, builtin, Sem.run_bind, Sem.run_pure, Result.andThen_ok, List.map_toArray, List.map_cons, List.map_nil, hd, hsr, copy_blk dT sT o.type e hu hs g k t hg A c ys hy HR]
  exact hK _ _ (h _ (setRow_heap _ _ _ _ _ _ hg) (fun k hk => setRow_other _ _ _ _ hk) (below_row HB hBg _))
end

set_option maxHeartbeats 1000000 in
theorem mread (A : Option Addr) (c : Nat) (l : List Int) (w : World) (hr : Kd.C (Kd.int .u8) w A l.length l) (hc : l.length ≤ c) (hb : IsB l) (hl : l.length ≤ 140737488351232) :
    Calls Try.prog 35 #[.slice A l.length c] w fun e w' => e = .returned (.tuple #[.agg (readM l).cells, .int .i64 (readE l)]) ∧ Below w.heap.size w w' := by
  have HR := Aside0.mk hr
  have HI := Aside0.mk hb
  clear hr hb
  cases l with
  | nil =>
    have HB := Aside0.mk (Below.refl w.heap.size w)
    go_enter Try.func35, Try.ntmps35
    go_wp2
    refine bodyPost_ret (results_ct rfl _ _ w.heap.size 54 _ (0, 0) _ rfl (blk_new w _) Try.underlying54 rfl (by kernel_rfl)) rfl ?_
    exact ⟨rfl, below_alloc HB.out _⟩
  | cons x t =>
    obtain ⟨l, hl0⟩ : ∃ l, l = x :: t := ⟨_, rfl⟩
    have HL0 := Aside0.mk hl0
    have hlen : 1 ≤ l.length := by rw [hl0]; simp
    rw [← hl0] at hc hl HR HI
    have HXB := Aside0.mk (show 0 ≤ x ∧ x < 256 from HI.out x (by rw [hl0]; simp))
    rw [← hl0]
    have hK : readK l = decide (gerr t = 0 ∧ ((getl t).length : Int) = many x) := by rw [hl0]; rfl
    obtain ⟨y, A2, c2, hy, hyr, hyC, hyc, hyB⟩ := cutL (P := Try.prog) (Kd.int .u8) 22 5 Try.underlying22 info5 .i64 A c l 1 1 rfl hlen hc
    have HYT := Aside0.mk (show y = t by rw [hy.out, hl0]; rfl)
    have hyl := Aside0.mk (show y.length + 1 = l.length by rw [hy.out, List.length_drop]; omega)
    have HYB := Aside0.mk (show IsB y by rw [hy.out]; exact HI.out.drop _)
    obtain ⟨G, hG⟩ : ∃ G, G = getl y := ⟨_, rfl⟩
    obtain ⟨E, hE⟩ : ∃ E, E = gerr y := ⟨_, rfl⟩
    have HG := Aside0.mk hG
    have HE := Aside0.mk hE
    rw [← HYT.out, ← hG, ← hE] at hK
    have HKK := Aside0.mk hK
    obtain ⟨ad, e1, hx⟩ := Kd.at_int HR.out 0 (by omega) (by exact_mod_cast hlen)
    rw [show ((0 : Int)).toNat = 0 from rfl, Addr.add_zero', show rd l 0 = x by rw [hl0]; rfl] at hx
    cases e1
    have HB := Aside0.mk (Below.refl w.heap.size w)
    have hw64 : wrap64 x = x := by have := HXB.out; unfold wrap64; omega
    clear hK hG hE hl0
    by_cases hE0 : E = 0
    · subst hE0
      by_cases hn : (G.length : Int) = many x
      · have hn6 : G.length ≤ 6 := by have := (many_bd x).2; omega
        have hnb : ((G.length : Int) != many x) = false := by rw [bne_eq_false_iff_eq]; exact hn
        have HN := Aside0.mk hn
        have HKF := Aside0.mk (show readK l = true by rw [HKK.out]; exact decide_eq_true ⟨rfl, hn⟩)
        have HRM := Aside0.mk (show readM l = msOf x G by unfold readM; rw [HKF.out, if_pos rfl, HL0.out, HG.out, HYT.out]; rfl)
        clear hn
        go_enter Try.func35, Try.ntmps35
        go_wp2_with (first | ((with_reducible refine gate_dst (N := 14) rfl ?_); (try (refine gate_guard (by rfl) ?_; dsimp only)); refine goesL_ (some 14) rfl rfl Try.func25 (by kernel_rfl) rfl #[.slice A2 y.length c2] rfl (by (try simp only [List.map_toArray, List.map_cons, List.map_nil]); first | done | rfl | (simp only [List.length_drop, List.length_take]; rfl)) ?_; refine (wget A2 c2 y _ (hyC.out _ (Kd.C_alloc HR.out _)) hyc HYB.out (by have := hyl.out; omega)).mono ?_; rintro e w1 ⟨v, rfl, ho, hbl⟩; refine ⟨_, rfl, ?_⟩; rw [← HG.out] at ho; rw [← HE.out]; have HO := Aside0.mk ho; have HB2 := Aside0.mk (below_step (below_alloc HB.out _) hbl); have HG0 := Aside0.mk (blk_below (blk_new w _) hbl); have hx1 := pw_cell_below HB2.out hx; clear HB ho hbl; obtain ⟨A1, c1, e1⟩ := Kd.R_slice HO.out; subst e1) | ((with_reducible refine gate_dst (N := 26) rfl ?_); (try (refine gate_guard (by rfl) ?_; dsimp only)); refine goesL_ (some 26) rfl rfl Try.func39 (by kernel_rfl) rfl #[.int .i64 (wrap64 x)] rfl (by (try simp only [List.map_toArray, List.map_cons, List.map_nil]); first | done | rfl | (simp only [List.length_drop, List.length_take]; rfl)) ?_; refine (mmany (wrap64 x) _).mono ?_; rintro e w2 ⟨rfl, hbl⟩; refine ⟨_, rfl, ?_⟩; rw [hw64, ← HN.out]; have HB3 := Aside0.mk (below_step HB2.out hbl); have HG3 := Aside0.mk (blk_below HG0.out hbl); have H1' := Aside0.mk (Kd.C_below (Kd.R_reads' HO.out).2.2 hbl); clear HB2 HG0 hbl HO; have HB2 := HB3; have HG0 := HG3; have H1 := H1'; clear HB3 HG3 H1'; have hx2 := pw_cell_below HB2.out hx; clear hx1) | (refine gate_dst (N := 38) rfl ?_; (refine copy_step (B := w.heap.size) (w0 := w) rfl _ _ 35 35 2 rfl Try.underlying35 (by kernel_rfl) w2.heap.size x 54 (blk_new w2 _) A1 c1 G rfl rfl (by omega) (Kd.C_alloc H1.out _) (below_alloc HB2.out _) HB2.out.size ?_; intro wc hgc hoc hbc; have HGC := Aside0.mk hgc; have HG3 := Aside0.mk ((hoc w.heap.size (by have := blk_lt HG0.out; omega)).trans (blk_alloc HG0.out _)); clear HG0 HB2; have HB2 := Aside0.mk hbc; have HG0 := HG3; clear HG3 hgc hoc hbc)) | (refine gate_dst (N := 39) rfl ?_; (refine wpList_load_row rfl 54 _ rfl w2.heap.size rfl 54 _ (0, 0) _ HGC.out Try.underlying54 rfl (by kernel_rfl) ?_)) | (refine gate_store (t := 54) (p := 2) rfl ?_; (refine store_blk rfl 54 _ _ rfl w.heap.size _ rfl rfl 54 _ HG0.out (by kernel_rfl) rfl (by simp [Value.oneCell', msOf, Ms.cells]) HB2.out (Nat.le_refl _) ?_; intro wz hgz_ hoz_ hbz_; have HGZ := Aside0.mk hgz_; have HBZ := Aside0.mk hbz_; clear hgz_ hoz_ hbz_)))
        refine bodyPost_ret (results_ct rfl _ _ w.heap.size 54 _ (0, 0) _ rfl (HGZ.out) Try.underlying54 rfl (by kernel_rfl)) rfl ?_
        exact ⟨by rw [HRM.out]; unfold readE; rw [HKF.out]; rfl, HBZ.out⟩
      · have hnb : ((G.length : Int) != many x) = true := by rw [bne_iff_ne]; exact hn
        have HKF := Aside0.mk (show readK l = false by rw [HKK.out]; exact decide_eq_false (fun h => hn h.2))
        obtain ⟨mx, hmx⟩ : ∃ mx, mx = many x := ⟨_, rfl⟩
        rw [← hmx] at hnb
        have HN := Aside0.mk hmx
        clear hn hmx
        go_enter Try.func35, Try.ntmps35
        go_wp2_with (first | ((with_reducible refine gate_dst (N := 14) rfl ?_); (try (refine gate_guard (by rfl) ?_; dsimp only)); refine goesL_ (some 14) rfl rfl Try.func25 (by kernel_rfl) rfl #[.slice A2 y.length c2] rfl (by (try simp only [List.map_toArray, List.map_cons, List.map_nil]); first | done | rfl | (simp only [List.length_drop, List.length_take]; rfl)) ?_; refine (wget A2 c2 y _ (hyC.out _ (Kd.C_alloc HR.out _)) hyc HYB.out (by have := hyl.out; omega)).mono ?_; rintro e w1 ⟨v, rfl, ho, hbl⟩; refine ⟨_, rfl, ?_⟩; rw [← HG.out] at ho; rw [← HE.out]; have HO := Aside0.mk ho; have HB2 := Aside0.mk (below_step (below_alloc HB.out _) hbl); have HG0 := Aside0.mk (blk_below (blk_new w _) hbl); have hx1 := pw_cell_below HB2.out hx; clear HB ho hbl; obtain ⟨A1, c1, e1⟩ := Kd.R_slice HO.out; subst e1) | ((with_reducible refine gate_dst (N := 26) rfl ?_); (try (refine gate_guard (by rfl) ?_; dsimp only)); refine goesL_ (some 26) rfl rfl Try.func39 (by kernel_rfl) rfl #[.int .i64 (wrap64 x)] rfl (by (try simp only [List.map_toArray, List.map_cons, List.map_nil]); first | done | rfl | (simp only [List.length_drop, List.length_take]; rfl)) ?_; refine (mmany (wrap64 x) _).mono ?_; rintro e w2 ⟨rfl, hbl⟩; refine ⟨_, rfl, ?_⟩; rw [hw64, ← HN.out]; have HB3 := Aside0.mk (below_step HB2.out hbl); have HG3 := Aside0.mk (blk_below HG0.out hbl); have H1' := Aside0.mk (Kd.C_below (Kd.R_reads' HO.out).2.2 hbl); clear HB2 HG0 hbl HO; have HB2 := HB3; have HG0 := HG3; have H1 := H1'; clear HB3 HG3 H1'; have hx2 := pw_cell_below HB2.out hx; clear hx1) | (refine gate_store (t := 54) (p := 2) rfl ?_; (refine store_blk rfl 54 _ _ rfl w.heap.size _ rfl rfl 54 _ HG0.out (by kernel_rfl) rfl (by simp [Value.oneCell', msOf, Ms.cells]) HB2.out (Nat.le_refl _) ?_; intro wz hgz_ hoz_ hbz_; have HGZ := Aside0.mk hgz_; have HBZ := Aside0.mk hbz_; clear hgz_ hoz_ hbz_)))
        refine bodyPost_ret (results_ct rfl _ _ w.heap.size 54 _ (0, 0) _ rfl (HGZ.out) Try.underlying54 rfl (by kernel_rfl)) rfl ?_
        exact ⟨by unfold readM readE; rw [HKF.out]; rfl, HBZ.out⟩
    · have hEb : (E != 0) = true := by rw [bne_iff_ne]; exact hE0
      have HKF := Aside0.mk (show readK l = false by rw [HKK.out]; exact decide_eq_false (fun h => hE0 h.1))
      clear hE0
      go_enter Try.func35, Try.ntmps35
      go_wp2_with (first | ((with_reducible refine gate_dst (N := 14) rfl ?_); (try (refine gate_guard (by rfl) ?_; dsimp only)); refine goesL_ (some 14) rfl rfl Try.func25 (by kernel_rfl) rfl #[.slice A2 y.length c2] rfl (by (try simp only [List.map_toArray, List.map_cons, List.map_nil]); first | done | rfl | (simp only [List.length_drop, List.length_take]; rfl)) ?_; refine (wget A2 c2 y _ (hyC.out _ (Kd.C_alloc HR.out _)) hyc HYB.out (by have := hyl.out; omega)).mono ?_; rintro e w1 ⟨v, rfl, ho, hbl⟩; refine ⟨_, rfl, ?_⟩; rw [← HG.out] at ho; rw [← HE.out]; have HO := Aside0.mk ho; have HB2 := Aside0.mk (below_step (below_alloc HB.out _) hbl); have HG0 := Aside0.mk (blk_below (blk_new w _) hbl); have hx1 := pw_cell_below HB2.out hx; clear HB ho hbl; obtain ⟨A1, c1, e1⟩ := Kd.R_slice HO.out; subst e1) | (refine gate_store (t := 54) (p := 2) rfl ?_; (refine store_blk rfl 54 _ _ rfl w.heap.size _ rfl rfl 54 _ HG0.out (by kernel_rfl) rfl (by simp [Value.oneCell', msOf, Ms.cells]) HB2.out (Nat.le_refl _) ?_; intro wz hgz_ hoz_ hbz_; have HGZ := Aside0.mk hgz_; have HBZ := Aside0.mk hbz_; clear hgz_ hoz_ hbz_)))
      go_wp2
      refine bodyPost_ret (results_ct rfl _ _ w.heap.size 54 _ (0, 0) _ rfl (HGZ.out) Try.underlying54 rfl (by kernel_rfl)) rfl ?_
      exact ⟨by unfold readM readE; rw [HKF.out]; rfl, HBZ.out⟩
end Go.Proofs.Ytoljpojpncjmoaa.B
