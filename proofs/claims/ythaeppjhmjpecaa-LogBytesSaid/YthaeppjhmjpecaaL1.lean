/- log.held, giroref6.held: what a side holds. -/
import Derived.Test.YthaeppjhmjpecaaV1
import Derived.Test.YthaeppjhmjpecaaLW1
import Derived.Test.YthaeppjhmjpecaaRec2
import Derived.Outline
import Derived.Deep.DeepMust
namespace Go.Proofs.Ythaeppjhmjpecaa.B
open Go.RowKit Go.Proofs.YthaeppjhmjpecaaW.PrintWords Go.Proofs.YthaeppjhmjpecaaW.PrintLast Go.Proofs.YthaeppjhmjpecaaW.PrintMore
attribute [local go_sem] max2_int min2_int max_two min_two max_three min_three max_four min_four
set_option linter.unusedVariables false
set_option linter.unusedSimpArgs false
/-- The generation of the log that records hold; 0: none. -/
def genL : List (List Int) → Int
  | [] => 0
  | r :: _ => if r.length < 8 then 0 else if dec8 (r.take 8) < 1 then 0 else if 4611686018427387904 < dec8 (r.take 8) then 0 else dec8 (r.take 8)
def snapL (l : List (List Int)) : List Int := if genL l = 0 then [] else (l.getD 0 []).drop 8
def rowsL (l : List (List Int)) : List (List Int) := if genL l = 0 then [] else l.drop 1
/-- What bytes hold. -/
def heldG (b : List Int) : Int := genL (scan b).1
def heldS (b : List Int) : List Int := snapL (scan b).1
def heldR (b : List Int) : List (List Int) := rowsL (scan b).1
theorem gen_nil : genL [] = 0 := rfl
theorem gen_short {r : List Int} {l : List (List Int)} (h : r.length < 8) : genL (r :: l) = 0 := if_pos h
theorem gen_low {r : List Int} {l : List (List Int)} (h : ¬ r.length < 8) (h1 : dec8 (r.take 8) < 1) : genL (r :: l) = 0 := by
  show (if r.length < 8 then (0 : Int) else _) = _; rw [if_neg h, if_pos h1]
theorem gen_high {r : List Int} {l : List (List Int)} (h : ¬ r.length < 8) (h1 : ¬ dec8 (r.take 8) < 1) (h2 : 4611686018427387904 < dec8 (r.take 8)) : genL (r :: l) = 0 := by
  show (if r.length < 8 then (0 : Int) else _) = _; rw [if_neg h, if_neg h1, if_pos h2]
theorem gen_yes {r : List Int} {l : List (List Int)} (h : ¬ r.length < 8) (h1 : ¬ dec8 (r.take 8) < 1) (h2 : ¬ 4611686018427387904 < dec8 (r.take 8)) : genL (r :: l) = dec8 (r.take 8) := by
  show (if r.length < 8 then (0 : Int) else _) = _; rw [if_neg h, if_neg h1, if_neg h2]
theorem snap_no {l : List (List Int)} (h : genL l = 0) : snapL l = [] := if_pos h
theorem rows_no {l : List (List Int)} (h : genL l = 0) : rowsL l = [] := if_pos h
theorem C_nil_rows (w : World) : Kd.C (Kd.slice 5 (Kd.int .u8)) w none 0 [] := Kd.C_nil _ _
/-- What a look answers: a generation, a snapshot, rows; in memory from block B on that is read. -/
def Holds (w : World) (B : Nat) (l : List (List Int)) (v1 v2 : Value) : Prop := ∃ A0 c0 A1 c1, v1 = .slice A0 (snapL l).length c0 ∧ v2 = .slice A1 (rowsL l).length c1 ∧ Kd.F (Kd.int .u8) w (fun k => B ≤ k) A0 (snapL l).length (snapL l) ∧ Kd.F (Kd.slice 5 (Kd.int .u8)) w (fun k => B ≤ k) A1 (rowsL l).length (rowsL l) ∧ (snapL l).length ≤ c0 ∧ (rowsL l).length ≤ c1
theorem Holds.no {w : World} {B : Nat} {l : List (List Int)} (h : genL l = 0) : Holds w B l (.slice none 0 0) (.slice none 0 0) := by
  unfold Holds
  rw [snap_no h, rows_no h]
  exact ⟨Option.none, 0, Option.none, 0, rfl, rfl, Kd.F_nil _ _ _, Kd.F_nil _ _ _, Nat.le_refl _, Nat.le_refl _⟩
theorem inner_F {W : World} {ok : Nat → Prop} {ad : Addr} {n : Nat} {xs : List (List Int)} {A3 : Option Addr} {c3 : Nat} (h : Kd.F (Kd.slice 5 (Kd.int .u8)) W ok (some ad) n xs) (i : Int) (h0 : 0 ≤ i) (h1 : i < n) (hcell : W.cell? (ad.add i.toNat) = some (.slice A3 (rd_L1 xs i).length c3)) : Kd.F (Kd.int .u8) W ok A3 (rd_L1 xs i).length (rd_L1 xs i) := fun W' hW => by
  obtain ⟨ad', A0, c0, e, hc, hl, hK⟩ := at_L1 (h W' hW) i h0 h1
  cases e
  have hlt := World.block_lt_of_cell? W _ hcell
  rw [add_block] at hlt
  have hb : W'.heap[ad.block]? = W.heap[ad.block]? := hW ad.block (Kd.F_in h rfl (by omega) (by decide)) hlt
  have : W'.cell? (ad.add i.toNat) = W.cell? (ad.add i.toNat) := World.cell?_of_block (by rw [add_block]; exact hb)
  rw [this, hcell] at hc
  cases hc
  exact hK
theorem Holds.yes {w : World} {B : Nat} {L : List (List Int)} {r ys : List Int} {zs : List (List Int)} {A0 A1 : Option Addr} {c0 c1 : Nat} (hg : genL L ≠ 0) (hr : rd_L1 L 0 = r) (hy : ys = r.drop 8) (hz : zs = L.drop 1) (h0 : Kd.F (Kd.int .u8) w (fun k => B ≤ k) A0 ys.length ys) (h1 : Kd.F (Kd.slice 5 (Kd.int .u8)) w (fun k => B ≤ k) A1 zs.length zs) (hc0 : ys.length ≤ c0) (hc1 : zs.length ≤ c1) : Holds w B L (.slice A0 ys.length c0) (.slice A1 zs.length c1) := by
  have e0 : snapL L = ys := by unfold snapL; rw [if_neg hg, hy, ← hr]; rfl
  have e1 : rowsL L = zs := by unfold rowsL; rw [if_neg hg, hz]
  unfold Holds
  rw [e0, e1]
  exact ⟨A0, c0, A1, c1, rfl, rfl, h0, h1, hc0, hc1⟩
theorem Holds.below {w w' : World} {B : Nat} {l : List (List Int)} {v1 v2 : Value} (h : Holds w B l v1 v2) (hb : Below w.heap.size w w') : Holds w' B l v1 v2 := by
  obtain ⟨A0, c0, A1, c1, h1, h2, h3, h4, h5, h6⟩ := h
  exact ⟨A0, c0, A1, c1, h1, h2, Kd.F_below h3 hb, Kd.F_below h4 hb, h5, h6⟩
theorem Holds.mono {w : World} {B B' : Nat} {l : List (List Int)} {v1 v2 : Value} (h : Holds w B l v1 v2) (hb : B' ≤ B) : Holds w B' l v1 v2 := by
  obtain ⟨A0, c0, A1, c1, h1, h2, h3, h4, h5, h6⟩ := h
  exact ⟨A0, c0, A1, c1, h1, h2, Kd.F_mono h3 (fun k hk => Nat.le_trans hb hk), Kd.F_mono h4 (fun k hk => Nat.le_trans hb hk), h5, h6⟩
set_option maxHeartbeats 1000000 in
theorem lheld (g : Nat) (ok : Nat → Prop) (D : Dk) (side : Int) (b : List Int) (w : World) (h : IsD w ok g D) (hl : D.b0.length ≤ 1000000 ∧ D.b1.length ≤ 1000000) (hb : D.read side = b) (hbb : IsB b) (hbl : b.length ≤ 1000000) :
    Calls Try.prog 49 #[.pointer (some ⟨g, 0, none⟩), .int .i64 side] w fun e w' => ∃ v1 v2, e = .returned (.tuple #[.int .i64 (heldG b), v1, v2]) ∧ Holds w' w.heap.size (scan b).1 v1 v2 ∧ Below w.heap.size w w' := by
  have HB := Aside0.mk (Below.refl w.heap.size w)
  have HD := Aside0.mk h
  have HX := Aside0.mk hb
  have HBB := Aside0.mk hbb
  have HL := Aside0.mk (show D.b0.length ≤ 140737488351232 ∧ D.b1.length ≤ 140737488351232 by omega)
  have hbl0 := hbl
  obtain ⟨l, hsc⟩ : ∃ l, (scan b).1 = l := ⟨_, rfl⟩
  have HSC := Aside0.mk hsc
  have HSF := Aside0.mk (scan_facts hbb hbl)
  have HG := Aside0.mk (show heldG b = genL l by unfold heldG; rw [hsc])
  clear h hb hbb hl hbl
  rw [hsc]
  clear hsc
  cases l with
  | nil =>
    rw [HG.out]
    go_enter Try.func49, Try.ntmps49
    go_wp2_with (first | ((with_reducible refine gate_dst (N := 14) rfl ?_); (try (refine gate_guard (by rfl) ?_; dsimp only)); refine goesL_ (some 14) rfl rfl Try.func16 (by kernel_rfl) rfl #[.pointer (some ⟨g, 0, none⟩), .int .i64 side] rfl (by (try simp only [List.map_toArray, List.map_cons, List.map_nil]); first | done | rfl | (simp only [List.length_drop, List.length_take]; rfl)) ?_; refine (tread g ok D side _ HD.out HL.out.1 HL.out.2).mono ?_; rintro e w1 ⟨v1, rfl, ho, hbl⟩; refine ⟨_, rfl, ?_⟩; rw [HX.out] at ho; have HB' := Aside0.mk (below_step HB.out hbl); clear HB hbl HD; have HB := HB'; clear HB'; obtain ⟨A1, c1, e1⟩ := Kd.R_slice ho; subst e1; have H1 := Aside0.mk (Kd.R_reads' ho).2; clear ho) | ((with_reducible refine gate_dst (N := 15) rfl ?_); (try (refine gate_guard (by rfl) ?_; dsimp only)); refine goesL_ (some 15) rfl rfl Try.func54 (by kernel_rfl) rfl #[.slice A1 b.length c1] rfl (by (try simp only [List.map_toArray, List.map_cons, List.map_nil]); first | done | rfl | (simp only [List.length_drop, List.length_take]; rfl)) ?_; refine (rscan A1 c1 b _ H1.out.2 H1.out.1 HBB.out hbl0).mono ?_; rintro e w2 ⟨v2, rfl, ho, hbl⟩; refine ⟨_, rfl, ?_⟩; rw [HSC.out] at ho; have HSZ1 := Aside0.mk HB.out.size; have HB' := Aside0.mk (below_step HB.out hbl); clear HB hbl H1; have HB := HB'; clear HB'; obtain ⟨A2, c2, e2⟩ := Kd.S_slice ho; subst e2; have H2 := Aside0.mk (Kd.R_reads' (Kd.S_R ho)).2; have H2F := Aside0.mk (Kd.F_mono (ok' := fun k => w.heap.size ≤ k) (Kd.R_F (Kd.S_R ho)) (fun k hk => Nat.le_trans HSZ1.out hk)); clear ho))
    go_ret3
    exact ⟨_, _, rfl, Holds.no rfl, HB.out⟩
  | cons r l =>
    have hl1 : (r :: l).length ≤ 1000000 := by rw [← HSC.out]; exact HSF.out.1
    have HRB := Aside0.mk (show IsB r by have := HSF.out.2; rw [HSC.out] at this; exact this r (List.mem_cons_self))
    have h0 : decide ((r :: l).length = 0) = false := by simp
    have h0b : ((((r :: l).length : Nat) : Int) == 0) = false := by rw [beq_eq_false_iff_ne]; simp only [List.length_cons]; omega
    by_cases c8 : r.length < 8
    · have HG0 := Aside0.mk (gen_short (l := l) c8)
      have h8 : decide ((r.length : Int) < 8) = true := decide_eq_true (by omega)
      have h8n : decide (r.length < 8) = true := decide_eq_true c8
      have hlen : 0 < (r :: l).length := by simp
      generalize hL : r :: l = L at *
      have HLE := Aside0.mk (show rd_L1 L 0 = r by rw [← hL]; rfl)
      clear hL c8
      rw [HG.out, HG0.out]
      go_enter Try.func49, Try.ntmps49
      go_wp2_with (first | ((with_reducible refine gate_dst (N := 14) rfl ?_); (try (refine gate_guard (by rfl) ?_; dsimp only)); refine goesL_ (some 14) rfl rfl Try.func16 (by kernel_rfl) rfl #[.pointer (some ⟨g, 0, none⟩), .int .i64 side] rfl (by (try simp only [List.map_toArray, List.map_cons, List.map_nil]); first | done | rfl | (simp only [List.length_drop, List.length_take]; rfl)) ?_; refine (tread g ok D side _ HD.out HL.out.1 HL.out.2).mono ?_; rintro e w1 ⟨v1, rfl, ho, hbl⟩; refine ⟨_, rfl, ?_⟩; rw [HX.out] at ho; have HB' := Aside0.mk (below_step HB.out hbl); clear HB hbl HD; have HB := HB'; clear HB'; obtain ⟨A1, c1, e1⟩ := Kd.R_slice ho; subst e1; have H1 := Aside0.mk (Kd.R_reads' ho).2; clear ho) | ((with_reducible refine gate_dst (N := 15) rfl ?_); (try (refine gate_guard (by rfl) ?_; dsimp only)); refine goesL_ (some 15) rfl rfl Try.func54 (by kernel_rfl) rfl #[.slice A1 b.length c1] rfl (by (try simp only [List.map_toArray, List.map_cons, List.map_nil]); first | done | rfl | (simp only [List.length_drop, List.length_take]; rfl)) ?_; refine (rscan A1 c1 b _ H1.out.2 H1.out.1 HBB.out hbl0).mono ?_; rintro e w2 ⟨v2, rfl, ho, hbl⟩; refine ⟨_, rfl, ?_⟩; rw [HSC.out] at ho; have HSZ1 := Aside0.mk HB.out.size; have HB' := Aside0.mk (below_step HB.out hbl); clear HB hbl H1; have HB := HB'; clear HB'; obtain ⟨A2, c2, e2⟩ := Kd.S_slice ho; subst e2; have H2 := Aside0.mk (Kd.R_reads' (Kd.S_R ho)).2; have H2F := Aside0.mk (Kd.F_mono (ok' := fun k => w.heap.size ≤ k) (Kd.R_F (Kd.S_R ho)) (fun k hk => Nat.le_trans HSZ1.out hk)); clear ho ; obtain ⟨ad, A3, c3, eA, hcell, hc3, hC3⟩ := at_L1 H2.out.2 0 (by omega) (by exact_mod_cast hlen); subst eA; rw [HLE.out] at hcell hc3 hC3; rw [show (0 : Int).toNat = 0 from rfl, Addr.add_zero'] at hcell; clear hC3))
      go_ret3
      exact ⟨_, _, rfl, Holds.no HG0.out, HB.out⟩
    obtain ⟨n, hn⟩ : ∃ n, dec8 (r.take 8) = n := ⟨_, rfl⟩
    have hnb : -9223372036854775808 ≤ n ∧ n < 9223372036854775808 := by rw [← hn]; exact dec8_bd _
    have HN := Aside0.mk (show ∀ y, y = r.take 8 → getl y = [n] by
      intro y hy
      have h8 : y.length = 8 := by rw [hy, List.length_take]; omega
      rw [getl_yes (by omega), gets_eight h8, hy, hn])
    have HNE := Aside0.mk (show ∀ y, y = r.take 8 → gerr y = 0 by
      intro y hy
      have h8 : y.length = 8 := by rw [hy, List.length_take]; omega
      exact gerr_yes (by omega))
    have h8 : decide ((r.length : Int) < 8) = false := decide_eq_false (by omega)
    have h8n : decide (r.length < 8) = false := decide_eq_false c8
    have hlen : 0 < (r :: l).length := by simp
    have HGV := Aside0.mk (show (n < 1 → genL (r :: l) = 0) ∧ (4611686018427387904 < n → genL (r :: l) = 0) ∧ (¬ n < 1 → ¬ 4611686018427387904 < n → genL (r :: l) = n) from by
      refine ⟨fun h => gen_low c8 (by rw [hn]; exact h), fun h => ?_, fun h1 h2 => by rw [gen_yes c8 (by rw [hn]; exact h1) (by rw [hn]; exact h2)]; exact hn⟩
      by_cases h1 : n < 1
      · exact gen_low c8 (by rw [hn]; exact h1)
      · exact gen_high c8 (by rw [hn]; exact h1) (by rw [hn]; exact h))
    have hr8 : 8 ≤ r.length := by omega
    generalize hL : r :: l = L at *
    have HLE := Aside0.mk (show rd_L1 L 0 = r by rw [← hL]; rfl)
    clear hL c8 hn
    by_cases d1 : n < 1
    · have t1 : decide (n < 1) = true := decide_eq_true d1
      have HG0 := Aside0.mk (HGV.out.1 d1)
      clear d1
      rw [HG.out, HG0.out]
      go_enter Try.func49, Try.ntmps49
      go_wp2_with (first | ((with_reducible refine gate_dst (N := 14) rfl ?_); (try (refine gate_guard (by rfl) ?_; dsimp only)); refine goesL_ (some 14) rfl rfl Try.func16 (by kernel_rfl) rfl #[.pointer (some ⟨g, 0, none⟩), .int .i64 side] rfl (by (try simp only [List.map_toArray, List.map_cons, List.map_nil]); first | done | rfl | (simp only [List.length_drop, List.length_take]; rfl)) ?_; refine (tread g ok D side _ HD.out HL.out.1 HL.out.2).mono ?_; rintro e w1 ⟨v1, rfl, ho, hbl⟩; refine ⟨_, rfl, ?_⟩; rw [HX.out] at ho; have HB' := Aside0.mk (below_step HB.out hbl); clear HB hbl HD; have HB := HB'; clear HB'; obtain ⟨A1, c1, e1⟩ := Kd.R_slice ho; subst e1; have H1 := Aside0.mk (Kd.R_reads' ho).2; clear ho) | ((with_reducible refine gate_dst (N := 15) rfl ?_); (try (refine gate_guard (by rfl) ?_; dsimp only)); refine goesL_ (some 15) rfl rfl Try.func54 (by kernel_rfl) rfl #[.slice A1 b.length c1] rfl (by (try simp only [List.map_toArray, List.map_cons, List.map_nil]); first | done | rfl | (simp only [List.length_drop, List.length_take]; rfl)) ?_; refine (rscan A1 c1 b _ H1.out.2 H1.out.1 HBB.out hbl0).mono ?_; rintro e w2 ⟨v2, rfl, ho, hbl⟩; refine ⟨_, rfl, ?_⟩; rw [HSC.out] at ho; have HSZ1 := Aside0.mk HB.out.size; have HB' := Aside0.mk (below_step HB.out hbl); clear HB hbl H1; have HB := HB'; clear HB'; obtain ⟨A2, c2, e2⟩ := Kd.S_slice ho; subst e2; have H2 := Aside0.mk (Kd.R_reads' (Kd.S_R ho)).2; have H2F := Aside0.mk (Kd.F_mono (ok' := fun k => w.heap.size ≤ k) (Kd.R_F (Kd.S_R ho)) (fun k hk => Nat.le_trans HSZ1.out hk)); clear ho ; obtain ⟨ad, A3, c3, eA, hcell, hc3, hC3⟩ := at_L1 H2.out.2 0 (by omega) (by exact_mod_cast hlen); subst eA; have HI3 := Aside0.mk (inner_F H2F.out 0 (by omega) (by exact_mod_cast hlen) hcell); rw [HLE.out] at hcell hc3 hC3 HI3; rw [show (0 : Int).toNat = 0 from rfl, Addr.add_zero'] at hcell; have HC3 := Aside0.mk hC3; clear hC3; obtain ⟨y, hy, hyr, hyC, hyc⟩ := cutH (P := Try.prog) (Kd.int .u8) 22 5 Try.underlying22 info5 .i64 A3 c3 r 8 8 rfl hr8 hc3; obtain ⟨z6, A6, c6, hz6, hzr6, hzC6, hzc6, _⟩ := cutL (P := Try.prog) (Kd.int .u8) 22 5 Try.underlying22 info5 .i64 A3 c3 r 8 8 rfl hr8 hc3; obtain ⟨z7, A7, c7, hz7, hzr7, hzC7, hzc7, _⟩ := cutL (P := Try.prog) (Kd.slice 5 (Kd.int .u8)) 37 22 Try.underlying37 info22 .i64 (some ad) c2 L 1 1 rfl hlen H2.out.1; have HYB := Aside0.mk (show IsB y ∧ y.length ≤ 140737488351232 by rw [hy.out]; exact ⟨HRB.out.take 8, by rw [List.length_take]; omega⟩)) | ((with_reducible refine gate_dst (N := 33) rfl ?_); (try (refine gate_guard (by rfl) ?_; dsimp only)); refine goesL_ (some 33) rfl rfl Try.func55 (by kernel_rfl) rfl #[.slice A3 y.length c3] rfl (by (try simp only [List.map_toArray, List.map_cons, List.map_nil]); first | done | rfl | (simp only [List.length_drop, List.length_take]; rfl)) ?_; refine (wget A3 c3 y _ (hyC.out _ HC3.out) hyc HYB.out.1 HYB.out.2).mono ?_; rintro e w3 ⟨v3, rfl, ho, hbl⟩; refine ⟨_, rfl, ?_⟩; rw [HN.out y hy.out] at ho; rw [HNE.out y hy.out]; have HB' := Aside0.mk (below_step HB.out hbl); have H2' := Aside0.mk (And.intro H2.out.1 (Kd.C_below H2.out.2 hbl)); have HC3' := Aside0.mk (Kd.C_below HC3.out hbl); have H2F' := Aside0.mk (Kd.F_below H2F.out hbl); have HI3' := Aside0.mk (Kd.F_below HI3.out hbl); clear H2F HI3; have H2F := H2F'; have HI3 := HI3'; clear H2F' HI3'; replace hcell := pw_cell_below hbl hcell; clear HB hbl H2 HC3; have HB := HB'; have H2 := H2'; have HC3 := HC3'; clear HB' H2' HC3'; obtain ⟨A4, c4, e4⟩ := Kd.R_slice ho; subst e4; obtain ⟨ad4, eA4, hx4⟩ := Kd.at_int (Kd.R_reads' ho).2.2 0 (by omega) (by simp); subst eA4; rw [show (0 : Int).toNat = 0 from rfl, Addr.add_zero'] at hx4; replace hx4 : _ = some (Value.int .i64 n) := hx4; clear ho))
      go_ret3
      exact ⟨_, _, rfl, Holds.no HG0.out, HB.out⟩
    have t1 : decide (n < 1) = false := decide_eq_false d1
    by_cases d2 : 4611686018427387904 < n
    · have t2 : decide (4611686018427387904 < n) = true := decide_eq_true d2
      have HG0 := Aside0.mk (HGV.out.2.1 d2)
      clear d1 d2
      rw [HG.out, HG0.out]
      go_enter Try.func49, Try.ntmps49
      go_wp2_with (first | ((with_reducible refine gate_dst (N := 14) rfl ?_); (try (refine gate_guard (by rfl) ?_; dsimp only)); refine goesL_ (some 14) rfl rfl Try.func16 (by kernel_rfl) rfl #[.pointer (some ⟨g, 0, none⟩), .int .i64 side] rfl (by (try simp only [List.map_toArray, List.map_cons, List.map_nil]); first | done | rfl | (simp only [List.length_drop, List.length_take]; rfl)) ?_; refine (tread g ok D side _ HD.out HL.out.1 HL.out.2).mono ?_; rintro e w1 ⟨v1, rfl, ho, hbl⟩; refine ⟨_, rfl, ?_⟩; rw [HX.out] at ho; have HB' := Aside0.mk (below_step HB.out hbl); clear HB hbl HD; have HB := HB'; clear HB'; obtain ⟨A1, c1, e1⟩ := Kd.R_slice ho; subst e1; have H1 := Aside0.mk (Kd.R_reads' ho).2; clear ho) | ((with_reducible refine gate_dst (N := 15) rfl ?_); (try (refine gate_guard (by rfl) ?_; dsimp only)); refine goesL_ (some 15) rfl rfl Try.func54 (by kernel_rfl) rfl #[.slice A1 b.length c1] rfl (by (try simp only [List.map_toArray, List.map_cons, List.map_nil]); first | done | rfl | (simp only [List.length_drop, List.length_take]; rfl)) ?_; refine (rscan A1 c1 b _ H1.out.2 H1.out.1 HBB.out hbl0).mono ?_; rintro e w2 ⟨v2, rfl, ho, hbl⟩; refine ⟨_, rfl, ?_⟩; rw [HSC.out] at ho; have HSZ1 := Aside0.mk HB.out.size; have HB' := Aside0.mk (below_step HB.out hbl); clear HB hbl H1; have HB := HB'; clear HB'; obtain ⟨A2, c2, e2⟩ := Kd.S_slice ho; subst e2; have H2 := Aside0.mk (Kd.R_reads' (Kd.S_R ho)).2; have H2F := Aside0.mk (Kd.F_mono (ok' := fun k => w.heap.size ≤ k) (Kd.R_F (Kd.S_R ho)) (fun k hk => Nat.le_trans HSZ1.out hk)); clear ho ; obtain ⟨ad, A3, c3, eA, hcell, hc3, hC3⟩ := at_L1 H2.out.2 0 (by omega) (by exact_mod_cast hlen); subst eA; have HI3 := Aside0.mk (inner_F H2F.out 0 (by omega) (by exact_mod_cast hlen) hcell); rw [HLE.out] at hcell hc3 hC3 HI3; rw [show (0 : Int).toNat = 0 from rfl, Addr.add_zero'] at hcell; have HC3 := Aside0.mk hC3; clear hC3; obtain ⟨y, hy, hyr, hyC, hyc⟩ := cutH (P := Try.prog) (Kd.int .u8) 22 5 Try.underlying22 info5 .i64 A3 c3 r 8 8 rfl hr8 hc3; obtain ⟨z6, A6, c6, hz6, hzr6, hzC6, hzc6, _⟩ := cutL (P := Try.prog) (Kd.int .u8) 22 5 Try.underlying22 info5 .i64 A3 c3 r 8 8 rfl hr8 hc3; obtain ⟨z7, A7, c7, hz7, hzr7, hzC7, hzc7, _⟩ := cutL (P := Try.prog) (Kd.slice 5 (Kd.int .u8)) 37 22 Try.underlying37 info22 .i64 (some ad) c2 L 1 1 rfl hlen H2.out.1; have HYB := Aside0.mk (show IsB y ∧ y.length ≤ 140737488351232 by rw [hy.out]; exact ⟨HRB.out.take 8, by rw [List.length_take]; omega⟩)) | ((with_reducible refine gate_dst (N := 33) rfl ?_); (try (refine gate_guard (by rfl) ?_; dsimp only)); refine goesL_ (some 33) rfl rfl Try.func55 (by kernel_rfl) rfl #[.slice A3 y.length c3] rfl (by (try simp only [List.map_toArray, List.map_cons, List.map_nil]); first | done | rfl | (simp only [List.length_drop, List.length_take]; rfl)) ?_; refine (wget A3 c3 y _ (hyC.out _ HC3.out) hyc HYB.out.1 HYB.out.2).mono ?_; rintro e w3 ⟨v3, rfl, ho, hbl⟩; refine ⟨_, rfl, ?_⟩; rw [HN.out y hy.out] at ho; rw [HNE.out y hy.out]; have HB' := Aside0.mk (below_step HB.out hbl); have H2' := Aside0.mk (And.intro H2.out.1 (Kd.C_below H2.out.2 hbl)); have HC3' := Aside0.mk (Kd.C_below HC3.out hbl); have H2F' := Aside0.mk (Kd.F_below H2F.out hbl); have HI3' := Aside0.mk (Kd.F_below HI3.out hbl); clear H2F HI3; have H2F := H2F'; have HI3 := HI3'; clear H2F' HI3'; replace hcell := pw_cell_below hbl hcell; clear HB hbl H2 HC3; have HB := HB'; have H2 := H2'; have HC3 := HC3'; clear HB' H2' HC3'; obtain ⟨A4, c4, e4⟩ := Kd.R_slice ho; subst e4; obtain ⟨ad4, eA4, hx4⟩ := Kd.at_int (Kd.R_reads' ho).2.2 0 (by omega) (by simp); subst eA4; rw [show (0 : Int).toNat = 0 from rfl, Addr.add_zero'] at hx4; replace hx4 : _ = some (Value.int .i64 n) := hx4; clear ho))
      go_ret3
      exact ⟨_, _, rfl, Holds.no HG0.out, HB.out⟩
    have t2 : decide (4611686018427387904 < n) = false := decide_eq_false d2
    have HG0 := Aside0.mk (HGV.out.2.2 d1 d2)
    have HGN := Aside0.mk (show genL L ≠ 0 by rw [HG0.out]; omega)
    clear d1 d2
    rw [HG.out, HG0.out]
    go_enter Try.func49, Try.ntmps49
    go_wp2_with (first | ((with_reducible refine gate_dst (N := 14) rfl ?_); (try (refine gate_guard (by rfl) ?_; dsimp only)); refine goesL_ (some 14) rfl rfl Try.func16 (by kernel_rfl) rfl #[.pointer (some ⟨g, 0, none⟩), .int .i64 side] rfl (by (try simp only [List.map_toArray, List.map_cons, List.map_nil]); first | done | rfl | (simp only [List.length_drop, List.length_take]; rfl)) ?_; refine (tread g ok D side _ HD.out HL.out.1 HL.out.2).mono ?_; rintro e w1 ⟨v1, rfl, ho, hbl⟩; refine ⟨_, rfl, ?_⟩; rw [HX.out] at ho; have HB' := Aside0.mk (below_step HB.out hbl); clear HB hbl HD; have HB := HB'; clear HB'; obtain ⟨A1, c1, e1⟩ := Kd.R_slice ho; subst e1; have H1 := Aside0.mk (Kd.R_reads' ho).2; clear ho) | ((with_reducible refine gate_dst (N := 15) rfl ?_); (try (refine gate_guard (by rfl) ?_; dsimp only)); refine goesL_ (some 15) rfl rfl Try.func54 (by kernel_rfl) rfl #[.slice A1 b.length c1] rfl (by (try simp only [List.map_toArray, List.map_cons, List.map_nil]); first | done | rfl | (simp only [List.length_drop, List.length_take]; rfl)) ?_; refine (rscan A1 c1 b _ H1.out.2 H1.out.1 HBB.out hbl0).mono ?_; rintro e w2 ⟨v2, rfl, ho, hbl⟩; refine ⟨_, rfl, ?_⟩; rw [HSC.out] at ho; have HSZ1 := Aside0.mk HB.out.size; have HB' := Aside0.mk (below_step HB.out hbl); clear HB hbl H1; have HB := HB'; clear HB'; obtain ⟨A2, c2, e2⟩ := Kd.S_slice ho; subst e2; have H2 := Aside0.mk (Kd.R_reads' (Kd.S_R ho)).2; have H2F := Aside0.mk (Kd.F_mono (ok' := fun k => w.heap.size ≤ k) (Kd.R_F (Kd.S_R ho)) (fun k hk => Nat.le_trans HSZ1.out hk)); clear ho ; obtain ⟨ad, A3, c3, eA, hcell, hc3, hC3⟩ := at_L1 H2.out.2 0 (by omega) (by exact_mod_cast hlen); subst eA; have HI3 := Aside0.mk (inner_F H2F.out 0 (by omega) (by exact_mod_cast hlen) hcell); rw [HLE.out] at hcell hc3 hC3 HI3; rw [show (0 : Int).toNat = 0 from rfl, Addr.add_zero'] at hcell; have HC3 := Aside0.mk hC3; clear hC3; obtain ⟨y, hy, hyr, hyC, hyc⟩ := cutH (P := Try.prog) (Kd.int .u8) 22 5 Try.underlying22 info5 .i64 A3 c3 r 8 8 rfl hr8 hc3; obtain ⟨z6, A6, c6, hz6, hzr6, hzC6, hzc6, _⟩ := cutL (P := Try.prog) (Kd.int .u8) 22 5 Try.underlying22 info5 .i64 A3 c3 r 8 8 rfl hr8 hc3; obtain ⟨z7, A7, c7, hz7, hzr7, hzC7, hzc7, _⟩ := cutL (P := Try.prog) (Kd.slice 5 (Kd.int .u8)) 37 22 Try.underlying37 info22 .i64 (some ad) c2 L 1 1 rfl hlen H2.out.1; have HYB := Aside0.mk (show IsB y ∧ y.length ≤ 140737488351232 by rw [hy.out]; exact ⟨HRB.out.take 8, by rw [List.length_take]; omega⟩)) | ((with_reducible refine gate_dst (N := 33) rfl ?_); (try (refine gate_guard (by rfl) ?_; dsimp only)); refine goesL_ (some 33) rfl rfl Try.func55 (by kernel_rfl) rfl #[.slice A3 y.length c3] rfl (by (try simp only [List.map_toArray, List.map_cons, List.map_nil]); first | done | rfl | (simp only [List.length_drop, List.length_take]; rfl)) ?_; refine (wget A3 c3 y _ (hyC.out _ HC3.out) hyc HYB.out.1 HYB.out.2).mono ?_; rintro e w3 ⟨v3, rfl, ho, hbl⟩; refine ⟨_, rfl, ?_⟩; rw [HN.out y hy.out] at ho; rw [HNE.out y hy.out]; have HB' := Aside0.mk (below_step HB.out hbl); have H2' := Aside0.mk (And.intro H2.out.1 (Kd.C_below H2.out.2 hbl)); have HC3' := Aside0.mk (Kd.C_below HC3.out hbl); have H2F' := Aside0.mk (Kd.F_below H2F.out hbl); have HI3' := Aside0.mk (Kd.F_below HI3.out hbl); clear H2F HI3; have H2F := H2F'; have HI3 := HI3'; clear H2F' HI3'; replace hcell := pw_cell_below hbl hcell; clear HB hbl H2 HC3; have HB := HB'; have H2 := H2'; have HC3 := HC3'; clear HB' H2' HC3'; obtain ⟨A4, c4, e4⟩ := Kd.R_slice ho; subst e4; obtain ⟨ad4, eA4, hx4⟩ := Kd.at_int (Kd.R_reads' ho).2.2 0 (by omega) (by simp); subst eA4; rw [show (0 : Int).toNat = 0 from rfl, Addr.add_zero'] at hx4; replace hx4 : _ = some (Value.int .i64 n) := hx4; clear ho))
    go_quiet (fail)
    go_wp2
    go_ret3
    exact ⟨_, _, rfl, Holds.yes HGN.out HLE.out hz6.out hz7.out (Kd.F_imp (Kd.F_drewN HI3.out _) (fun W' h => hzC6.out _ h)) (Kd.F_imp (Kd.F_drewN H2F.out _) (fun W' h => hzC7.out _ h)) hzc6 hzc7, pw_below_drewN HB.out _⟩
set_option maxHeartbeats 1000000 in
theorem xheld (g : Nat) (ok : Nat → Prop) (D : Dk) (side : Int) (b : List Int) (w : World) (h : IsX w ok g D) (hl : D.b0.length ≤ 1000000 ∧ D.b1.length ≤ 1000000) (hb : D.read side = b) (hbb : IsB b) (hbl : b.length ≤ 1000000) :
    Calls Try.prog 56 #[.pointer (some ⟨g, 0, none⟩), .int .i64 side] w fun e w' => ∃ v1 v2, e = .returned (.tuple #[.int .i64 (heldG b), v1, v2, .bool (decide (heldG b ≠ 0))]) ∧ Holds w' w.heap.size (scan b).1 v1 v2 ∧ Below w.heap.size w w' := by
  have HB := Aside0.mk (Below.refl w.heap.size w)
  have HD := Aside0.mk h
  have HX := Aside0.mk hb
  have HBB := Aside0.mk hbb
  have HL := Aside0.mk (show D.b0.length ≤ 140737488351232 ∧ D.b1.length ≤ 140737488351232 by omega)
  have hbl0 := hbl
  obtain ⟨l, hsc⟩ : ∃ l, (scan b).1 = l := ⟨_, rfl⟩
  have HSC := Aside0.mk hsc
  have HSF := Aside0.mk (scan_facts hbb hbl)
  have HG := Aside0.mk (show heldG b = genL l by unfold heldG; rw [hsc])
  clear h hb hbb hl hbl
  rw [hsc]
  clear hsc
  have HDT := Aside0.mk (show decide ((0 : Int) ≠ 0) = false from rfl)
  cases l with
  | nil =>
    rw [HG.out, show decide (genL [] ≠ 0) = false from rfl]
    go_enter Try.func56, Try.ntmps56
    go_wp2_with (first | ((with_reducible refine gate_dst (N := 15) rfl ?_); (try (refine gate_guard (by rfl) ?_; dsimp only)); refine goesL_ (some 15) rfl rfl Try.func31 (by kernel_rfl) rfl #[.pointer (some ⟨g, 0, none⟩), .int .i64 side] rfl (by (try simp only [List.map_toArray, List.map_cons, List.map_nil]); first | done | rfl | (simp only [List.length_drop, List.length_take]; rfl)) ?_; refine (xread g ok D side _ HD.out HL.out.1 HL.out.2).mono ?_; rintro e w1 ⟨v1, rfl, ho, hbl⟩; refine ⟨_, rfl, ?_⟩; rw [HX.out] at ho; have HB' := Aside0.mk (below_step HB.out hbl); clear HB hbl HD; have HB := HB'; clear HB'; obtain ⟨A1, c1, e1⟩ := Kd.R_slice ho; subst e1; have H1 := Aside0.mk (Kd.R_reads' ho).2; clear ho) | ((with_reducible refine gate_dst (N := 16) rfl ?_); (try (refine gate_guard (by rfl) ?_; dsimp only)); refine goesL_ (some 16) rfl rfl Try.func59 (by kernel_rfl) rfl #[.slice A1 b.length c1] rfl (by (try simp only [List.map_toArray, List.map_cons, List.map_nil]); first | done | rfl | (simp only [List.length_drop, List.length_take]; rfl)) ?_; refine (rscan5 A1 c1 b _ H1.out.2 H1.out.1 HBB.out hbl0).mono ?_; rintro e w2 ⟨v2, rfl, ho, hbl⟩; refine ⟨_, rfl, ?_⟩; rw [HSC.out] at ho; have HSZ1 := Aside0.mk HB.out.size; have HB' := Aside0.mk (below_step HB.out hbl); clear HB hbl H1; have HB := HB'; clear HB'; obtain ⟨A2, c2, e2⟩ := Kd.S_slice ho; subst e2; have H2 := Aside0.mk (Kd.R_reads' (Kd.S_R ho)).2; have H2F := Aside0.mk (Kd.F_mono (ok' := fun k => w.heap.size ≤ k) (Kd.R_F (Kd.S_R ho)) (fun k hk => Nat.le_trans HSZ1.out hk)); clear ho))
    refine bodyPost_ret (v := .tuple #[.int .i64 0, .slice none 0 0, .slice none 0 0, .bool false]) (by simp [results, Try.results56, go_sem]) rfl ⟨_, _, rfl, Holds.no rfl, HB.out⟩
  | cons r l =>
    have hl1 : (r :: l).length ≤ 1000000 := by rw [← HSC.out]; exact HSF.out.1
    have HRB := Aside0.mk (show IsB r by have := HSF.out.2; rw [HSC.out] at this; exact this r (List.mem_cons_self))
    have h0 : decide ((r :: l).length = 0) = false := by simp
    have h0b : ((((r :: l).length : Nat) : Int) == 0) = false := by rw [beq_eq_false_iff_ne]; simp only [List.length_cons]; omega
    by_cases c8 : r.length < 8
    · have HG0 := Aside0.mk (gen_short (l := l) c8)
      have h8 : decide ((r.length : Int) < 8) = true := decide_eq_true (by omega)
      have h8n : decide (r.length < 8) = true := decide_eq_true c8
      have hlen : 0 < (r :: l).length := by simp
      generalize hL : r :: l = L at *
      have HLE := Aside0.mk (show rd_L1 L 0 = r by rw [← hL]; rfl)
      clear hL c8
      rw [HG.out, HG0.out, HDT.out]
      go_enter Try.func56, Try.ntmps56
      go_wp2_with (first | ((with_reducible refine gate_dst (N := 15) rfl ?_); (try (refine gate_guard (by rfl) ?_; dsimp only)); refine goesL_ (some 15) rfl rfl Try.func31 (by kernel_rfl) rfl #[.pointer (some ⟨g, 0, none⟩), .int .i64 side] rfl (by (try simp only [List.map_toArray, List.map_cons, List.map_nil]); first | done | rfl | (simp only [List.length_drop, List.length_take]; rfl)) ?_; refine (xread g ok D side _ HD.out HL.out.1 HL.out.2).mono ?_; rintro e w1 ⟨v1, rfl, ho, hbl⟩; refine ⟨_, rfl, ?_⟩; rw [HX.out] at ho; have HB' := Aside0.mk (below_step HB.out hbl); clear HB hbl HD; have HB := HB'; clear HB'; obtain ⟨A1, c1, e1⟩ := Kd.R_slice ho; subst e1; have H1 := Aside0.mk (Kd.R_reads' ho).2; clear ho) | ((with_reducible refine gate_dst (N := 16) rfl ?_); (try (refine gate_guard (by rfl) ?_; dsimp only)); refine goesL_ (some 16) rfl rfl Try.func59 (by kernel_rfl) rfl #[.slice A1 b.length c1] rfl (by (try simp only [List.map_toArray, List.map_cons, List.map_nil]); first | done | rfl | (simp only [List.length_drop, List.length_take]; rfl)) ?_; refine (rscan5 A1 c1 b _ H1.out.2 H1.out.1 HBB.out hbl0).mono ?_; rintro e w2 ⟨v2, rfl, ho, hbl⟩; refine ⟨_, rfl, ?_⟩; rw [HSC.out] at ho; have HSZ1 := Aside0.mk HB.out.size; have HB' := Aside0.mk (below_step HB.out hbl); clear HB hbl H1; have HB := HB'; clear HB'; obtain ⟨A2, c2, e2⟩ := Kd.S_slice ho; subst e2; have H2 := Aside0.mk (Kd.R_reads' (Kd.S_R ho)).2; have H2F := Aside0.mk (Kd.F_mono (ok' := fun k => w.heap.size ≤ k) (Kd.R_F (Kd.S_R ho)) (fun k hk => Nat.le_trans HSZ1.out hk)); clear ho ; obtain ⟨ad, A3, c3, eA, hcell, hc3, hC3⟩ := at_L1 H2.out.2 0 (by omega) (by exact_mod_cast hlen); subst eA; rw [HLE.out] at hcell hc3 hC3; rw [show (0 : Int).toNat = 0 from rfl, Addr.add_zero'] at hcell; clear hC3))
      refine bodyPost_ret (v := .tuple #[.int .i64 0, .slice none 0 0, .slice none 0 0, .bool false]) (by simp [results, Try.results56, go_sem]) rfl ⟨_, _, rfl, Holds.no HG0.out, HB.out⟩
    obtain ⟨n, hn⟩ : ∃ n, dec8 (r.take 8) = n := ⟨_, rfl⟩
    have hnb : -9223372036854775808 ≤ n ∧ n < 9223372036854775808 := by rw [← hn]; exact dec8_bd _
    have HN := Aside0.mk (show ∀ y, y = r.take 8 → getl y = [n] by
      intro y hy
      have h8 : y.length = 8 := by rw [hy, List.length_take]; omega
      rw [getl_yes (by omega), gets_eight h8, hy, hn])
    have HNE := Aside0.mk (show ∀ y, y = r.take 8 → gerr y = 0 by
      intro y hy
      have h8 : y.length = 8 := by rw [hy, List.length_take]; omega
      exact gerr_yes (by omega))
    have h8 : decide ((r.length : Int) < 8) = false := decide_eq_false (by omega)
    have h8n : decide (r.length < 8) = false := decide_eq_false c8
    have hlen : 0 < (r :: l).length := by simp
    have HGV := Aside0.mk (show (n < 1 → genL (r :: l) = 0) ∧ (4611686018427387904 < n → genL (r :: l) = 0) ∧ (¬ n < 1 → ¬ 4611686018427387904 < n → genL (r :: l) = n) from by
      refine ⟨fun h => gen_low c8 (by rw [hn]; exact h), fun h => ?_, fun h1 h2 => by rw [gen_yes c8 (by rw [hn]; exact h1) (by rw [hn]; exact h2)]; exact hn⟩
      by_cases h1 : n < 1
      · exact gen_low c8 (by rw [hn]; exact h1)
      · exact gen_high c8 (by rw [hn]; exact h1) (by rw [hn]; exact h))
    have hr8 : 8 ≤ r.length := by omega
    generalize hL : r :: l = L at *
    have HLE := Aside0.mk (show rd_L1 L 0 = r by rw [← hL]; rfl)
    clear hL c8 hn
    by_cases d1 : n < 1
    · have t1 : decide (n < 1) = true := decide_eq_true d1
      have HG0 := Aside0.mk (HGV.out.1 d1)
      clear d1
      rw [HG.out, HG0.out, HDT.out]
      go_enter Try.func56, Try.ntmps56
      go_wp2_with (first | ((with_reducible refine gate_dst (N := 15) rfl ?_); (try (refine gate_guard (by rfl) ?_; dsimp only)); refine goesL_ (some 15) rfl rfl Try.func31 (by kernel_rfl) rfl #[.pointer (some ⟨g, 0, none⟩), .int .i64 side] rfl (by (try simp only [List.map_toArray, List.map_cons, List.map_nil]); first | done | rfl | (simp only [List.length_drop, List.length_take]; rfl)) ?_; refine (xread g ok D side _ HD.out HL.out.1 HL.out.2).mono ?_; rintro e w1 ⟨v1, rfl, ho, hbl⟩; refine ⟨_, rfl, ?_⟩; rw [HX.out] at ho; have HB' := Aside0.mk (below_step HB.out hbl); clear HB hbl HD; have HB := HB'; clear HB'; obtain ⟨A1, c1, e1⟩ := Kd.R_slice ho; subst e1; have H1 := Aside0.mk (Kd.R_reads' ho).2; clear ho) | ((with_reducible refine gate_dst (N := 16) rfl ?_); (try (refine gate_guard (by rfl) ?_; dsimp only)); refine goesL_ (some 16) rfl rfl Try.func59 (by kernel_rfl) rfl #[.slice A1 b.length c1] rfl (by (try simp only [List.map_toArray, List.map_cons, List.map_nil]); first | done | rfl | (simp only [List.length_drop, List.length_take]; rfl)) ?_; refine (rscan5 A1 c1 b _ H1.out.2 H1.out.1 HBB.out hbl0).mono ?_; rintro e w2 ⟨v2, rfl, ho, hbl⟩; refine ⟨_, rfl, ?_⟩; rw [HSC.out] at ho; have HSZ1 := Aside0.mk HB.out.size; have HB' := Aside0.mk (below_step HB.out hbl); clear HB hbl H1; have HB := HB'; clear HB'; obtain ⟨A2, c2, e2⟩ := Kd.S_slice ho; subst e2; have H2 := Aside0.mk (Kd.R_reads' (Kd.S_R ho)).2; have H2F := Aside0.mk (Kd.F_mono (ok' := fun k => w.heap.size ≤ k) (Kd.R_F (Kd.S_R ho)) (fun k hk => Nat.le_trans HSZ1.out hk)); clear ho ; obtain ⟨ad, A3, c3, eA, hcell, hc3, hC3⟩ := at_L1 H2.out.2 0 (by omega) (by exact_mod_cast hlen); subst eA; have HI3 := Aside0.mk (inner_F H2F.out 0 (by omega) (by exact_mod_cast hlen) hcell); rw [HLE.out] at hcell hc3 hC3 HI3; rw [show (0 : Int).toNat = 0 from rfl, Addr.add_zero'] at hcell; have HC3 := Aside0.mk hC3; clear hC3; obtain ⟨y, hy, hyr, hyC, hyc⟩ := cutH (P := Try.prog) (Kd.int .u8) 22 5 Try.underlying22 info5 .i64 A3 c3 r 8 8 rfl hr8 hc3; obtain ⟨z6, A6, c6, hz6, hzr6, hzC6, hzc6, _⟩ := cutL (P := Try.prog) (Kd.int .u8) 22 5 Try.underlying22 info5 .i64 A3 c3 r 8 8 rfl hr8 hc3; obtain ⟨z7, A7, c7, hz7, hzr7, hzC7, hzc7, _⟩ := cutL (P := Try.prog) (Kd.slice 5 (Kd.int .u8)) 37 22 Try.underlying37 info22 .i64 (some ad) c2 L 1 1 rfl hlen H2.out.1; have HYB := Aside0.mk (show IsB y ∧ y.length ≤ 140737488351232 by rw [hy.out]; exact ⟨HRB.out.take 8, by rw [List.length_take]; omega⟩)) | ((with_reducible refine gate_dst (N := 34) rfl ?_); (try (refine gate_guard (by rfl) ?_; dsimp only)); refine goesL_ (some 34) rfl rfl Try.func60 (by kernel_rfl) rfl #[.slice A3 y.length c3] rfl (by (try simp only [List.map_toArray, List.map_cons, List.map_nil]); first | done | rfl | (simp only [List.length_drop, List.length_take]; rfl)) ?_; refine (get2 A3 c3 y _ (hyC.out _ HC3.out) hyc HYB.out.1 HYB.out.2).mono ?_; rintro e w3 ⟨v3, rfl, ho, hbl⟩; refine ⟨_, rfl, ?_⟩; rw [HN.out y hy.out] at ho; rw [HNE.out y hy.out]; have HB' := Aside0.mk (below_step HB.out hbl); have H2' := Aside0.mk (And.intro H2.out.1 (Kd.C_below H2.out.2 hbl)); have HC3' := Aside0.mk (Kd.C_below HC3.out hbl); have H2F' := Aside0.mk (Kd.F_below H2F.out hbl); have HI3' := Aside0.mk (Kd.F_below HI3.out hbl); clear H2F HI3; have H2F := H2F'; have HI3 := HI3'; clear H2F' HI3'; replace hcell := pw_cell_below hbl hcell; clear HB hbl H2 HC3; have HB := HB'; have H2 := H2'; have HC3 := HC3'; clear HB' H2' HC3'; obtain ⟨A4, c4, e4⟩ := Kd.R_slice ho; subst e4; obtain ⟨ad4, eA4, hx4⟩ := Kd.at_int (Kd.R_reads' ho).2.2 0 (by omega) (by simp); subst eA4; rw [show (0 : Int).toNat = 0 from rfl, Addr.add_zero'] at hx4; replace hx4 : _ = some (Value.int .i64 n) := hx4; clear ho))
      refine bodyPost_ret (v := .tuple #[.int .i64 0, .slice none 0 0, .slice none 0 0, .bool false]) (by simp [results, Try.results56, go_sem]) rfl ⟨_, _, rfl, Holds.no HG0.out, HB.out⟩
    have t1 : decide (n < 1) = false := decide_eq_false d1
    by_cases d2 : 4611686018427387904 < n
    · have t2 : decide (4611686018427387904 < n) = true := decide_eq_true d2
      have HG0 := Aside0.mk (HGV.out.2.1 d2)
      clear d1 d2
      rw [HG.out, HG0.out, HDT.out]
      go_enter Try.func56, Try.ntmps56
      go_wp2_with (first | ((with_reducible refine gate_dst (N := 15) rfl ?_); (try (refine gate_guard (by rfl) ?_; dsimp only)); refine goesL_ (some 15) rfl rfl Try.func31 (by kernel_rfl) rfl #[.pointer (some ⟨g, 0, none⟩), .int .i64 side] rfl (by (try simp only [List.map_toArray, List.map_cons, List.map_nil]); first | done | rfl | (simp only [List.length_drop, List.length_take]; rfl)) ?_; refine (xread g ok D side _ HD.out HL.out.1 HL.out.2).mono ?_; rintro e w1 ⟨v1, rfl, ho, hbl⟩; refine ⟨_, rfl, ?_⟩; rw [HX.out] at ho; have HB' := Aside0.mk (below_step HB.out hbl); clear HB hbl HD; have HB := HB'; clear HB'; obtain ⟨A1, c1, e1⟩ := Kd.R_slice ho; subst e1; have H1 := Aside0.mk (Kd.R_reads' ho).2; clear ho) | ((with_reducible refine gate_dst (N := 16) rfl ?_); (try (refine gate_guard (by rfl) ?_; dsimp only)); refine goesL_ (some 16) rfl rfl Try.func59 (by kernel_rfl) rfl #[.slice A1 b.length c1] rfl (by (try simp only [List.map_toArray, List.map_cons, List.map_nil]); first | done | rfl | (simp only [List.length_drop, List.length_take]; rfl)) ?_; refine (rscan5 A1 c1 b _ H1.out.2 H1.out.1 HBB.out hbl0).mono ?_; rintro e w2 ⟨v2, rfl, ho, hbl⟩; refine ⟨_, rfl, ?_⟩; rw [HSC.out] at ho; have HSZ1 := Aside0.mk HB.out.size; have HB' := Aside0.mk (below_step HB.out hbl); clear HB hbl H1; have HB := HB'; clear HB'; obtain ⟨A2, c2, e2⟩ := Kd.S_slice ho; subst e2; have H2 := Aside0.mk (Kd.R_reads' (Kd.S_R ho)).2; have H2F := Aside0.mk (Kd.F_mono (ok' := fun k => w.heap.size ≤ k) (Kd.R_F (Kd.S_R ho)) (fun k hk => Nat.le_trans HSZ1.out hk)); clear ho ; obtain ⟨ad, A3, c3, eA, hcell, hc3, hC3⟩ := at_L1 H2.out.2 0 (by omega) (by exact_mod_cast hlen); subst eA; have HI3 := Aside0.mk (inner_F H2F.out 0 (by omega) (by exact_mod_cast hlen) hcell); rw [HLE.out] at hcell hc3 hC3 HI3; rw [show (0 : Int).toNat = 0 from rfl, Addr.add_zero'] at hcell; have HC3 := Aside0.mk hC3; clear hC3; obtain ⟨y, hy, hyr, hyC, hyc⟩ := cutH (P := Try.prog) (Kd.int .u8) 22 5 Try.underlying22 info5 .i64 A3 c3 r 8 8 rfl hr8 hc3; obtain ⟨z6, A6, c6, hz6, hzr6, hzC6, hzc6, _⟩ := cutL (P := Try.prog) (Kd.int .u8) 22 5 Try.underlying22 info5 .i64 A3 c3 r 8 8 rfl hr8 hc3; obtain ⟨z7, A7, c7, hz7, hzr7, hzC7, hzc7, _⟩ := cutL (P := Try.prog) (Kd.slice 5 (Kd.int .u8)) 37 22 Try.underlying37 info22 .i64 (some ad) c2 L 1 1 rfl hlen H2.out.1; have HYB := Aside0.mk (show IsB y ∧ y.length ≤ 140737488351232 by rw [hy.out]; exact ⟨HRB.out.take 8, by rw [List.length_take]; omega⟩)) | ((with_reducible refine gate_dst (N := 34) rfl ?_); (try (refine gate_guard (by rfl) ?_; dsimp only)); refine goesL_ (some 34) rfl rfl Try.func60 (by kernel_rfl) rfl #[.slice A3 y.length c3] rfl (by (try simp only [List.map_toArray, List.map_cons, List.map_nil]); first | done | rfl | (simp only [List.length_drop, List.length_take]; rfl)) ?_; refine (get2 A3 c3 y _ (hyC.out _ HC3.out) hyc HYB.out.1 HYB.out.2).mono ?_; rintro e w3 ⟨v3, rfl, ho, hbl⟩; refine ⟨_, rfl, ?_⟩; rw [HN.out y hy.out] at ho; rw [HNE.out y hy.out]; have HB' := Aside0.mk (below_step HB.out hbl); have H2' := Aside0.mk (And.intro H2.out.1 (Kd.C_below H2.out.2 hbl)); have HC3' := Aside0.mk (Kd.C_below HC3.out hbl); have H2F' := Aside0.mk (Kd.F_below H2F.out hbl); have HI3' := Aside0.mk (Kd.F_below HI3.out hbl); clear H2F HI3; have H2F := H2F'; have HI3 := HI3'; clear H2F' HI3'; replace hcell := pw_cell_below hbl hcell; clear HB hbl H2 HC3; have HB := HB'; have H2 := H2'; have HC3 := HC3'; clear HB' H2' HC3'; obtain ⟨A4, c4, e4⟩ := Kd.R_slice ho; subst e4; obtain ⟨ad4, eA4, hx4⟩ := Kd.at_int (Kd.R_reads' ho).2.2 0 (by omega) (by simp); subst eA4; rw [show (0 : Int).toNat = 0 from rfl, Addr.add_zero'] at hx4; replace hx4 : _ = some (Value.int .i64 n) := hx4; clear ho))
      refine bodyPost_ret (v := .tuple #[.int .i64 0, .slice none 0 0, .slice none 0 0, .bool false]) (by simp [results, Try.results56, go_sem]) rfl ⟨_, _, rfl, Holds.no HG0.out, HB.out⟩
    have t2 : decide (4611686018427387904 < n) = false := decide_eq_false d2
    have HG0 := Aside0.mk (HGV.out.2.2 d1 d2)
    have HGN := Aside0.mk (show genL L ≠ 0 by rw [HG0.out]; omega)
    have HDT := Aside0.mk (show decide (n ≠ 0) = true from decide_eq_true (by omega))
    clear d1 d2
    rw [HG.out, HG0.out, HDT.out]
    go_enter Try.func56, Try.ntmps56
    go_wp2_with (first | ((with_reducible refine gate_dst (N := 15) rfl ?_); (try (refine gate_guard (by rfl) ?_; dsimp only)); refine goesL_ (some 15) rfl rfl Try.func31 (by kernel_rfl) rfl #[.pointer (some ⟨g, 0, none⟩), .int .i64 side] rfl (by (try simp only [List.map_toArray, List.map_cons, List.map_nil]); first | done | rfl | (simp only [List.length_drop, List.length_take]; rfl)) ?_; refine (xread g ok D side _ HD.out HL.out.1 HL.out.2).mono ?_; rintro e w1 ⟨v1, rfl, ho, hbl⟩; refine ⟨_, rfl, ?_⟩; rw [HX.out] at ho; have HB' := Aside0.mk (below_step HB.out hbl); clear HB hbl HD; have HB := HB'; clear HB'; obtain ⟨A1, c1, e1⟩ := Kd.R_slice ho; subst e1; have H1 := Aside0.mk (Kd.R_reads' ho).2; clear ho) | ((with_reducible refine gate_dst (N := 16) rfl ?_); (try (refine gate_guard (by rfl) ?_; dsimp only)); refine goesL_ (some 16) rfl rfl Try.func59 (by kernel_rfl) rfl #[.slice A1 b.length c1] rfl (by (try simp only [List.map_toArray, List.map_cons, List.map_nil]); first | done | rfl | (simp only [List.length_drop, List.length_take]; rfl)) ?_; refine (rscan5 A1 c1 b _ H1.out.2 H1.out.1 HBB.out hbl0).mono ?_; rintro e w2 ⟨v2, rfl, ho, hbl⟩; refine ⟨_, rfl, ?_⟩; rw [HSC.out] at ho; have HSZ1 := Aside0.mk HB.out.size; have HB' := Aside0.mk (below_step HB.out hbl); clear HB hbl H1; have HB := HB'; clear HB'; obtain ⟨A2, c2, e2⟩ := Kd.S_slice ho; subst e2; have H2 := Aside0.mk (Kd.R_reads' (Kd.S_R ho)).2; have H2F := Aside0.mk (Kd.F_mono (ok' := fun k => w.heap.size ≤ k) (Kd.R_F (Kd.S_R ho)) (fun k hk => Nat.le_trans HSZ1.out hk)); clear ho ; obtain ⟨ad, A3, c3, eA, hcell, hc3, hC3⟩ := at_L1 H2.out.2 0 (by omega) (by exact_mod_cast hlen); subst eA; have HI3 := Aside0.mk (inner_F H2F.out 0 (by omega) (by exact_mod_cast hlen) hcell); rw [HLE.out] at hcell hc3 hC3 HI3; rw [show (0 : Int).toNat = 0 from rfl, Addr.add_zero'] at hcell; have HC3 := Aside0.mk hC3; clear hC3; obtain ⟨y, hy, hyr, hyC, hyc⟩ := cutH (P := Try.prog) (Kd.int .u8) 22 5 Try.underlying22 info5 .i64 A3 c3 r 8 8 rfl hr8 hc3; obtain ⟨z6, A6, c6, hz6, hzr6, hzC6, hzc6, _⟩ := cutL (P := Try.prog) (Kd.int .u8) 22 5 Try.underlying22 info5 .i64 A3 c3 r 8 8 rfl hr8 hc3; obtain ⟨z7, A7, c7, hz7, hzr7, hzC7, hzc7, _⟩ := cutL (P := Try.prog) (Kd.slice 5 (Kd.int .u8)) 37 22 Try.underlying37 info22 .i64 (some ad) c2 L 1 1 rfl hlen H2.out.1; have HYB := Aside0.mk (show IsB y ∧ y.length ≤ 140737488351232 by rw [hy.out]; exact ⟨HRB.out.take 8, by rw [List.length_take]; omega⟩)) | ((with_reducible refine gate_dst (N := 34) rfl ?_); (try (refine gate_guard (by rfl) ?_; dsimp only)); refine goesL_ (some 34) rfl rfl Try.func60 (by kernel_rfl) rfl #[.slice A3 y.length c3] rfl (by (try simp only [List.map_toArray, List.map_cons, List.map_nil]); first | done | rfl | (simp only [List.length_drop, List.length_take]; rfl)) ?_; refine (get2 A3 c3 y _ (hyC.out _ HC3.out) hyc HYB.out.1 HYB.out.2).mono ?_; rintro e w3 ⟨v3, rfl, ho, hbl⟩; refine ⟨_, rfl, ?_⟩; rw [HN.out y hy.out] at ho; rw [HNE.out y hy.out]; have HB' := Aside0.mk (below_step HB.out hbl); have H2' := Aside0.mk (And.intro H2.out.1 (Kd.C_below H2.out.2 hbl)); have HC3' := Aside0.mk (Kd.C_below HC3.out hbl); have H2F' := Aside0.mk (Kd.F_below H2F.out hbl); have HI3' := Aside0.mk (Kd.F_below HI3.out hbl); clear H2F HI3; have H2F := H2F'; have HI3 := HI3'; clear H2F' HI3'; replace hcell := pw_cell_below hbl hcell; clear HB hbl H2 HC3; have HB := HB'; have H2 := H2'; have HC3 := HC3'; clear HB' H2' HC3'; obtain ⟨A4, c4, e4⟩ := Kd.R_slice ho; subst e4; obtain ⟨ad4, eA4, hx4⟩ := Kd.at_int (Kd.R_reads' ho).2.2 0 (by omega) (by simp); subst eA4; rw [show (0 : Int).toNat = 0 from rfl, Addr.add_zero'] at hx4; replace hx4 : _ = some (Value.int .i64 n) := hx4; clear ho))
    go_quiet (fail)
    go_wp2
    refine bodyPost_ret (v := .tuple #[.int .i64 n, .slice A6 z6.length c6, .slice A7 z7.length c7, .bool true]) (by simp [results, Try.results56, go_sem]) rfl ⟨_, _, rfl, Holds.yes HGN.out HLE.out hz6.out hz7.out (Kd.F_imp (Kd.F_drewN HI3.out _) (fun W' h => hzC6.out _ h)) (Kd.F_imp (Kd.F_drewN H2F.out _) (fun W' h => hzC7.out _ h)) hzc6 hzc7, pw_below_drewN HB.out _⟩
end Go.Proofs.Ythaeppjhmjpecaa.B
