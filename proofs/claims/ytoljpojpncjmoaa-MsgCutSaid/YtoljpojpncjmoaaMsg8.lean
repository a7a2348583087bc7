/- giroref3.Read: the walk. -/
import Derived.Test.YtoljpojpncjmoaaMsg7
namespace Go.Proofs.Ytoljpojpncjmoaa.B
open Go.RowKit Go.Proofs.YtoljpojpncjmoaaW.PrintWords Go.Proofs.YtoljpojpncjmoaaW.PrintLast Go.Proofs.YtoljpojpncjmoaaW.PrintMore
attribute [local go_sem] max2_int min2_int max_two min_two max_three min_three max_four min_four
set_option linter.unusedVariables false
set_option linter.unusedSimpArgs false

section
variable {P : Program} {ops : Array Oper} {rest : List Oper} {o : Oper} {a : Act} {Q : Exit → Act → World → Prop} {W : World}
/-- *p = u: one cell of a block; the world behind it is a letter. -/
theorem store_cellF {w0 : World} {B : Nat} (hgd : o.guard = none) (ty : TypeId) (x y : Operand) (ho : o.op = .store ty x y) (g i : Nat) (u : Value) (hx : a.eval x = .pointer (some ⟨g, i, none⟩)) (hy : a.eval y = u)
    (t : TypeId) (old cells : Array Value) (hg : W.heap[g]? = some (.cells old t (0, 0))) (hi : (P.info? ty).map (·.size) = some 1) (hlt : i < old.size) (hc : old.setIfInBounds i u = cells) (hu : u.cells.toList = [u]) (h1 : u.oneCell' = true) (HB : Below B w0 W) (hBg : B ≤ g)
    (h : ∀ w', w'.heap[g]? = some (.cells cells t (0, 0)) → (∀ k, k ≠ g → w'.heap[k]? = W.heap[k]?) → Below B w0 w' → wpList P ops Q rest (a.put o.dst undef) w') : wpList P ops Q (o :: rest) a W := by
  have hr := run_store_run (P := P) (w := W) (g := g) (o := i) ty u [u] hg hu hi (by show i + 1 ≤ old.size; omega) (by intro q hq; rw [List.mem_singleton.1 hq]; exact h1)
  have e : W.setCells g i [u] = W.setRow g cells := by rw [← hc]; exact setCell_eq_setRow W g i old t (0, 0) u hg
  rw [e] at hr
  refine wpList_plain hgd fun K hK => ?_
  unfold Oper.wp execOp
  simp only [ho, hx, hy, Sem.run_bind, hr, Result.andThen_ok]
  exact hK _ _ (h _ (setRow_heap _ _ _ _ _ _ hg) (fun k hk => setRow_other _ _ _ _ hk) (below_row HB hBg _))
end

theorem ms_set (x : Int) (l : List Int) (h : l.length ≤ 6) (i : Nat) (hi : i < l.length) : (msOf x (l.take i)).cells.setIfInBounds (1 + i) (.int .i64 (rd l i)) = (msOf x (l.take (i + 1))).cells := by
  unfold Go.Proofs.YtoljpojpncjmoaaW.PrintWords.rd
  rw [Int.toNat_natCast]
  match l, h with
  | [], _ => simp at hi
  | [_], _ => match i, hi with
    | 0, _ => rfl
    | i + 1, h => simp at h <;> omega
  | [_, _], _ => match i, hi with
    | 0, _ => rfl
    | 1, _ => rfl
    | i + 2, h => simp at h <;> omega
  | [_, _, _], _ => match i, hi with
    | 0, _ => rfl
    | 1, _ => rfl
    | 2, _ => rfl
    | i + 3, h => simp at h <;> omega
  | [_, _, _, _], _ => match i, hi with
    | 0, _ => rfl
    | 1, _ => rfl
    | 2, _ => rfl
    | 3, _ => rfl
    | i + 4, h => simp at h <;> omega
  | [_, _, _, _, _], _ => match i, hi with
    | 0, _ => rfl
    | 1, _ => rfl
    | 2, _ => rfl
    | 3, _ => rfl
    | 4, _ => rfl
    | i + 5, h => simp at h <;> omega
  | [_, _, _, _, _, _], _ => match i, hi with
    | 0, _ => rfl
    | 1, _ => rfl
    | 2, _ => rfl
    | 3, _ => rfl
    | 4, _ => rfl
    | 5, _ => rfl
    | i + 6, h => simp at h <;> omega
  | _ :: _ :: _ :: _ :: _ :: _ :: _ :: _, h => simp at h
set_option maxHeartbeats 1000000 in
theorem mread3 (A : Option Addr) (c : Nat) (l : List Int) (w : World) (hr : Kd.C (Kd.int .u8) w A l.length l) (hc : l.length ≤ c) (hb : IsB l) (hl : l.length ≤ 140737488351232) :
    Calls Try.prog 46 #[.slice A l.length c] w fun e w' => e = .returned (.tuple #[.agg (readM l).cells, .int .i64 (readE l)]) ∧ Below w.heap.size w w' := by
  have HR := Aside0.mk hr
  have HI := Aside0.mk hb
  clear hr hb
  cases l with
  | nil =>
    have HB := Aside0.mk (Below.refl w.heap.size w)
    go_enter Try.func46, Try.ntmps46
    go_wp2
    refine bodyPost_ret (results_ct rfl _ _ w.heap.size 54 _ (0, 0) _ rfl (blk_new w _) Try.underlying54 rfl (by kernel_rfl)) rfl ?_
    exact ⟨rfl, below_alloc HB.out _⟩
  | cons x t =>
    obtain ⟨l, hl0⟩ : ∃ l, l = x :: t := ⟨_, rfl⟩
    have HL0 := Aside0.mk hl0
    have hlen : 1 ≤ l.length := by rw [hl0]; simp
    rw [← hl0] at hc hl HR HI
    have HXB := Aside0.mk (show 0 ≤ x ∧ x < 256 from HI.out x (by rw [hl0]; simp))
    rw [← hl0]
    have hK : readK l = decide (gerr t = 0 ∧ ((getl t).length : Int) = many x) := by rw [hl0]; rfl
    obtain ⟨y, A2, c2, hy, hyr, hyC, hyc, hyB⟩ := cutL (P := Try.prog) (Kd.int .u8) 22 5 Try.underlying22 info5 .i64 A c l 1 1 rfl hlen hc
    have HYT := Aside0.mk (show y = t by rw [hy.out, hl0]; rfl)
    have hyl := Aside0.mk (show y.length + 1 = l.length by rw [hy.out, List.length_drop]; omega)
    have HYB := Aside0.mk (show IsB y by rw [hy.out]; exact HI.out.drop _)
    obtain ⟨G, hG⟩ : ∃ G, G = getl y := ⟨_, rfl⟩
    obtain ⟨E, hE⟩ : ∃ E, E = gerr y := ⟨_, rfl⟩
    have HG := Aside0.mk hG
    have HE := Aside0.mk hE
    rw [← HYT.out, ← hG, ← hE] at hK
    have HKK := Aside0.mk hK
    obtain ⟨ad, e1, hx⟩ := Kd.at_int HR.out 0 (by omega) (by exact_mod_cast hlen)
    rw [show ((0 : Int)).toNat = 0 from rfl, Addr.add_zero', show rd l 0 = x by rw [hl0]; rfl] at hx
    cases e1
    have HB := Aside0.mk (Below.refl w.heap.size w)
    have hw64 : wrap64 x = x := by have := HXB.out; unfold wrap64; omega
    clear hK hG hE hl0
    have hxa := pw_cell_below (below_alloc (Below.refl w.heap.size w) (.cells #[.int .i64 0, .int .i64 0, .int .i64 0, .int .i64 0, .int .i64 0, .int .i64 0, .int .i64 0] 54)) hx
    by_cases hE0 : E = 0
    · subst hE0
      by_cases hn : (G.length : Int) = many x
      · have hn6 : G.length ≤ 6 := by have := (many_bd x).2; omega
        obtain ⟨mx, hmx⟩ : ∃ mx : Nat, mx = G.length := ⟨_, rfl⟩
        have hnb : ((G.length : Int) != (G.length : Int)) = false := by simp
        have HN := Aside0.mk hn
        have HKF := Aside0.mk (show readK l = true by rw [HKK.out]; exact decide_eq_true ⟨rfl, hn⟩)
        have HRM := Aside0.mk (show readM l = msOf x G by unfold readM; rw [HKF.out, if_pos rfl, HL0.out, HG.out, HYT.out]; rfl)
        clear hn hmx
        go_enter Try.func46, Try.ntmps46
        go_wp2_with (first | ((with_reducible refine gate_dst (N := 20) rfl ?_); (try (refine gate_guard (by rfl) ?_; dsimp only)); refine goesL_ (some 20) rfl rfl Try.func26 (by kernel_rfl) rfl #[.slice A2 y.length c2] rfl (by (try simp only [List.map_toArray, List.map_cons, List.map_nil]); first | done | rfl | (simp only [List.length_drop, List.length_take]; rfl)) ?_; refine (get2 A2 c2 y _ (hyC.out _ (Kd.C_alloc (Kd.C_alloc HR.out _) _)) hyc HYB.out (by have := hyl.out; omega)).mono ?_; rintro e w1 ⟨v, rfl, ho, hbl⟩; refine ⟨_, rfl, ?_⟩; rw [← HG.out] at ho; rw [← HE.out]; have HO := Aside0.mk ho; have HB2 := Aside0.mk (below_step (below_alloc (below_alloc HB.out _) _) hbl); have HG0 := Aside0.mk (blk_below (blk_alloc (blk_new w (.cells #[.int .i64 0, .int .i64 0, .int .i64 0, .int .i64 0, .int .i64 0, .int .i64 0, .int .i64 0] 54)) (.cells #[.int .i64 x, .int .i64 0, .int .i64 0, .int .i64 0, .int .i64 0, .int .i64 0, .int .i64 0] 54)) hbl); have HG1 := Aside0.mk (show w1.heap[w.heap.size + 1]? = some (.cells #[.int .i64 x, .int .i64 0, .int .i64 0, .int .i64 0, .int .i64 0, .int .i64 0, .int .i64 0] 54 (0, 0)) by have h := blk_below (blk_new (w.alloc (.cells #[.int .i64 0, .int .i64 0, .int .i64 0, .int .i64 0, .int .i64 0, .int .i64 0, .int .i64 0] 54)) (.cells #[.int .i64 x, .int .i64 0, .int .i64 0, .int .i64 0, .int .i64 0, .int .i64 0, .int .i64 0] 54)) hbl; first | exact h | (simpa using h)); have hk1 := blk_cell HG1.out 0; simp only [List.getElem?_toArray, List.getElem?_cons_zero] at hk1; clear HB ho hbl; obtain ⟨A1, c1, e1⟩ := Kd.R_slice HO.out; subst e1; have H1 := Aside0.mk (Kd.R_lower HO.out (show w.heap.size + 2 ≤ _ by simp)); clear HO) | ((with_reducible refine gate_dst (N := 30) rfl ?_); (try (refine gate_guard (by rfl) ?_; dsimp only)); refine goesL_ (some 30) rfl rfl Try.func36 (by kernel_rfl) rfl #[.int .i64 x] rfl (by (try simp only [List.map_toArray, List.map_cons, List.map_nil]); first | done | rfl | (simp only [List.length_drop, List.length_take]; rfl)) ?_; refine (mmany3 x _).mono ?_; rintro e w2 ⟨rfl, hbl⟩; refine ⟨_, rfl, ?_⟩; rw [← HN.out]; have HB3 := Aside0.mk (below_step HB2.out hbl); have HG3 := Aside0.mk (blk_below HG0.out hbl); have HG4 := Aside0.mk (blk_below HG1.out hbl); have H1' := Aside0.mk (Kd.R_below H1.out hbl); clear HB2 HG0 HG1 H1 hk1 hbl; have HB2 := HB3; have HG0 := HG3; have HG1 := HG4; have H1 := H1'; clear HB3 HG3 HG4 H1'))
        go_loopg [7] G.length (fun kq v7 w' => ∃ i : Nat, v7 = .int .i64 (i : Int) ∧ i ≤ G.length ∧ Aside0 (kq + i = G.length) ∧ Aside0 (w'.heap[w.heap.size]? = some (.cells #[.int .i64 0, .int .i64 0, .int .i64 0, .int .i64 0, .int .i64 0, .int .i64 0, .int .i64 0] 54 (0, 0))) ∧ Aside0 (w'.heap[w.heap.size + 1]? = some (.cells (msOf x (G.take i)).cells 54 (0, 0))) ∧ Aside0 (Below w.heap.size w w') ∧ Aside0 (Kd.R (Kd.int .i64) 2 w' (w.heap.size + 2) (fun _ => True) (.slice A1 G.length c1) G))
        case atStart => exact ⟨0, rfl, Nat.zero_le _, ⟨rfl⟩, HG0, HG1, HB2, H1⟩
        case round =>
          obtain ⟨i, rfl, hi, HK, LG0, LG1, LB, LR⟩ := hrel
          by_cases c4 : i < G.length
          · obtain ⟨ad1, e1, hq1⟩ := Kd.at_int (Kd.R_reads' LR.out).2.2 i (by omega) (by exact_mod_cast c4)
            cases e1
            rw [Int.toNat_natCast] at hq1
            have c4b : decide ((i : Int) < (G.length : Int)) = true := decide_eq_true (by exact_mod_cast c4)
            have hidx := idxF (w.heap.size + 1) i (by omega)
            have hset := Aside0.mk (ms_set x G hn6 i c4)
            go_wp2_with (first | (refine gate_store (t := 2) (p := 46) rfl ?_; (refine store_cellF (B := w.heap.size) (w0 := w) rfl 2 _ _ rfl (w.heap.size + 1) (1 + i) (.int .i64 (rd G i)) rfl rfl 54 _ _ LG1.out (by kernel_rfl) (by show 1 + i < 7; omega) hset.out rfl rfl LB.out (by omega) ?_; intro w9 hg_ ho_ hb_; have NG1 := Aside0.mk hg_; have NG0 := Aside0.mk ((ho_ w.heap.size (by omega)).trans LG0.out); have NB := Aside0.mk hb_; have NR := Aside0.mk (Kd.R_mono (Kd.R_step (Kd.R_bound LR.out) (fun q hq _ => ho_ q (by have := hq.2.1; omega))) (fun _ _ => trivial)); clear hg_ ho_ hb_)))
            go_roundg (G.length - (i + 1))
            case measure => have := HK.out; omega
            case rel => exact ⟨i + 1, by go_num, by omega, ⟨by omega⟩, NG0, NG1, NB, NR⟩
          · have c4b : decide ((i : Int) < (G.length : Int)) = false := decide_eq_false (by omega)
            have HGo := LG1
            rw [List.take_of_length_le (by omega)] at HGo
            have HG0 := LG0
            have HB2 := LB
            go_wp2_with (first | ((with_reducible refine gate_dst (N := 47) rfl ?_); (refine wpList_load_row rfl 54 _ rfl (w.heap.size + 1) rfl 54 _ (0, 0) _ HGo.out Try.underlying54 rfl (by kernel_rfl) ?_)) | (refine gate_store (t := 54) (p := 2) rfl ?_; (refine store_blk rfl 54 _ _ rfl w.heap.size _ rfl rfl 54 _ HG0.out (by kernel_rfl) rfl (by simp [Value.oneCell', msOf, Ms.cells]) HB2.out (Nat.le_refl _) ?_; intro wz hgz_ hoz_ hbz_; have HGZ := Aside0.mk hgz_; have HBZ := Aside0.mk hbz_; clear hgz_ hoz_ hbz_)))
            refine bodyPost_ret (results_ct rfl _ _ w.heap.size 54 _ (0, 0) _ rfl (HGZ.out) Try.underlying54 rfl (by kernel_rfl)) rfl ?_
            exact ⟨by rw [HRM.out]; unfold readE; rw [HKF.out]; rfl, HBZ.out⟩
      · have hnb : ((G.length : Int) != many x) = true := by rw [bne_iff_ne]; exact hn
        have HKF := Aside0.mk (show readK l = false by rw [HKK.out]; exact decide_eq_false (fun h => hn h.2))
        obtain ⟨mx, hmx⟩ : ∃ mx, mx = many x := ⟨_, rfl⟩
        rw [← hmx] at hnb
        have HN := Aside0.mk hmx
        clear hn hmx
        go_enter Try.func46, Try.ntmps46
        go_wp2_with (first | ((with_reducible refine gate_dst (N := 20) rfl ?_); (try (refine gate_guard (by rfl) ?_; dsimp only)); refine goesL_ (some 20) rfl rfl Try.func26 (by kernel_rfl) rfl #[.slice A2 y.length c2] rfl (by (try simp only [List.map_toArray, List.map_cons, List.map_nil]); first | done | rfl | (simp only [List.length_drop, List.length_take]; rfl)) ?_; refine (get2 A2 c2 y _ (hyC.out _ (Kd.C_alloc (Kd.C_alloc HR.out _) _)) hyc HYB.out (by have := hyl.out; omega)).mono ?_; rintro e w1 ⟨v, rfl, ho, hbl⟩; refine ⟨_, rfl, ?_⟩; rw [← HG.out] at ho; rw [← HE.out]; have HO := Aside0.mk ho; have HB2 := Aside0.mk (below_step (below_alloc (below_alloc HB.out _) _) hbl); have HG0 := Aside0.mk (blk_below (blk_alloc (blk_new w (.cells #[.int .i64 0, .int .i64 0, .int .i64 0, .int .i64 0, .int .i64 0, .int .i64 0, .int .i64 0] 54)) (.cells #[.int .i64 x, .int .i64 0, .int .i64 0, .int .i64 0, .int .i64 0, .int .i64 0, .int .i64 0] 54)) hbl); have HG1 := Aside0.mk (show w1.heap[w.heap.size + 1]? = some (.cells #[.int .i64 x, .int .i64 0, .int .i64 0, .int .i64 0, .int .i64 0, .int .i64 0, .int .i64 0] 54 (0, 0)) by have h := blk_below (blk_new (w.alloc (.cells #[.int .i64 0, .int .i64 0, .int .i64 0, .int .i64 0, .int .i64 0, .int .i64 0, .int .i64 0] 54)) (.cells #[.int .i64 x, .int .i64 0, .int .i64 0, .int .i64 0, .int .i64 0, .int .i64 0, .int .i64 0] 54)) hbl; first | exact h | (simpa using h)); have hk1 := blk_cell HG1.out 0; simp only [List.getElem?_toArray, List.getElem?_cons_zero] at hk1; clear HB ho hbl; obtain ⟨A1, c1, e1⟩ := Kd.R_slice HO.out; subst e1; have H1 := Aside0.mk (Kd.R_lower HO.out (show w.heap.size + 2 ≤ _ by simp)); clear HO) | ((with_reducible refine gate_dst (N := 30) rfl ?_); (try (refine gate_guard (by rfl) ?_; dsimp only)); refine goesL_ (some 30) rfl rfl Try.func36 (by kernel_rfl) rfl #[.int .i64 x] rfl (by (try simp only [List.map_toArray, List.map_cons, List.map_nil]); first | done | rfl | (simp only [List.length_drop, List.length_take]; rfl)) ?_; refine (mmany3 x _).mono ?_; rintro e w2 ⟨rfl, hbl⟩; refine ⟨_, rfl, ?_⟩; rw [← HN.out]; have HB3 := Aside0.mk (below_step HB2.out hbl); have HG3 := Aside0.mk (blk_below HG0.out hbl); have HG4 := Aside0.mk (blk_below HG1.out hbl); have H1' := Aside0.mk (Kd.R_below H1.out hbl); clear HB2 HG0 HG1 H1 hk1 hbl; have HB2 := HB3; have HG0 := HG3; have HG1 := HG4; have H1 := H1'; clear HB3 HG3 HG4 H1') | (refine gate_store (t := 54) (p := 2) rfl ?_; (refine store_blk rfl 54 _ _ rfl w.heap.size _ rfl rfl 54 _ HG0.out (by kernel_rfl) rfl (by simp [Value.oneCell', msOf, Ms.cells]) HB2.out (Nat.le_refl _) ?_; intro wz hgz_ hoz_ hbz_; have HGZ := Aside0.mk hgz_; have HBZ := Aside0.mk hbz_; clear hgz_ hoz_ hbz_)))
        refine bodyPost_ret (results_ct rfl _ _ w.heap.size 54 _ (0, 0) _ rfl (HGZ.out) Try.underlying54 rfl (by kernel_rfl)) rfl ?_
        exact ⟨by unfold readM readE; rw [HKF.out]; rfl, HBZ.out⟩
    · have hEb : (E != 0) = true := by rw [bne_iff_ne]; exact hE0
      have HKF := Aside0.mk (show readK l = false by rw [HKK.out]; exact decide_eq_false (fun h => hE0 h.1))
      clear hE0
      go_enter Try.func46, Try.ntmps46
      go_wp2_with (first | ((with_reducible refine gate_dst (N := 20) rfl ?_); (try (refine gate_guard (by rfl) ?_; dsimp only)); refine goesL_ (some 20) rfl rfl Try.func26 (by kernel_rfl) rfl #[.slice A2 y.length c2] rfl (by (try simp only [List.map_toArray, List.map_cons, List.map_nil]); first | done | rfl | (simp only [List.length_drop, List.length_take]; rfl)) ?_; refine (get2 A2 c2 y _ (hyC.out _ (Kd.C_alloc (Kd.C_alloc HR.out _) _)) hyc HYB.out (by have := hyl.out; omega)).mono ?_; rintro e w1 ⟨v, rfl, ho, hbl⟩; refine ⟨_, rfl, ?_⟩; rw [← HG.out] at ho; rw [← HE.out]; have HO := Aside0.mk ho; have HB2 := Aside0.mk (below_step (below_alloc (below_alloc HB.out _) _) hbl); have HG0 := Aside0.mk (blk_below (blk_alloc (blk_new w (.cells #[.int .i64 0, .int .i64 0, .int .i64 0, .int .i64 0, .int .i64 0, .int .i64 0, .int .i64 0] 54)) (.cells #[.int .i64 x, .int .i64 0, .int .i64 0, .int .i64 0, .int .i64 0, .int .i64 0, .int .i64 0] 54)) hbl); have HG1 := Aside0.mk (show w1.heap[w.heap.size + 1]? = some (.cells #[.int .i64 x, .int .i64 0, .int .i64 0, .int .i64 0, .int .i64 0, .int .i64 0, .int .i64 0] 54 (0, 0)) by have h := blk_below (blk_new (w.alloc (.cells #[.int .i64 0, .int .i64 0, .int .i64 0, .int .i64 0, .int .i64 0, .int .i64 0, .int .i64 0] 54)) (.cells #[.int .i64 x, .int .i64 0, .int .i64 0, .int .i64 0, .int .i64 0, .int .i64 0, .int .i64 0] 54)) hbl; first | exact h | (simpa using h)); have hk1 := blk_cell HG1.out 0; simp only [List.getElem?_toArray, List.getElem?_cons_zero] at hk1; clear HB ho hbl; obtain ⟨A1, c1, e1⟩ := Kd.R_slice HO.out; subst e1; have H1 := Aside0.mk (Kd.R_lower HO.out (show w.heap.size + 2 ≤ _ by simp)); clear HO) | (refine gate_store (t := 54) (p := 2) rfl ?_; (refine store_blk rfl 54 _ _ rfl w.heap.size _ rfl rfl 54 _ HG0.out (by kernel_rfl) rfl (by simp [Value.oneCell', msOf, Ms.cells]) HB2.out (Nat.le_refl _) ?_; intro wz hgz_ hoz_ hbz_; have HGZ := Aside0.mk hgz_; have HBZ := Aside0.mk hbz_; clear hgz_ hoz_ hbz_)))
      refine bodyPost_ret (results_ct rfl _ _ w.heap.size 54 _ (0, 0) _ rfl (HGZ.out) Try.underlying54 rfl (by kernel_rfl)) rfl ?_
      exact ⟨by unfold readM readE; rw [HKF.out]; rfl, HBZ.out⟩
end Go.Proofs.Ytoljpojpncjmoaa.B
