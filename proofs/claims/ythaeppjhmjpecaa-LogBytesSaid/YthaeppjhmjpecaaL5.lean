/- Log.Add, Log.Save, Log.Rows; giroref6's. -/
import Derived.Test.YthaeppjhmjpecaaL4
import Derived.Deep.RegionHeld
namespace Go.Proofs.Ythaeppjhmjpecaa.B
open Go.RowKit Go.Proofs.YthaeppjhmjpecaaW.PrintWords Go.Proofs.YthaeppjhmjpecaaW.PrintLast Go.Proofs.YthaeppjhmjpecaaW.PrintMore
attribute [local go_sem] max2_int min2_int max_two min_two max_three min_three max_four min_four
set_option linter.unusedVariables false
set_option linter.unusedSimpArgs false
/-- What adding a row answers, the deck behind it, the log. -/
def adOk (L : Lg) (row : List Int) : Bool := recok row && !L.stale
def adE (D : Dk) (L : Lg) (row : List Int) : Int := if adOk L row = false then 10 else if D.appE L.side (recp row) = 3 then 10 else if D.appE L.side (recp row) ≠ 0 then D.appE L.side (recp row) else (D.app L.side (recp row)).syncE
def adD (D : Dk) (L : Lg) (row : List Int) : Dk := if adOk L row = false then D else if D.appE L.side (recp row) = 3 then D.app L.side (recp row) else if D.appE L.side (recp row) ≠ 0 then D.app L.side (recp row) else (D.app L.side (recp row)).sync
def adL (D : Dk) (L : Lg) (row : List Int) : Lg := if adE D L row = 0 then { L with rows := L.rows + 1 } else L
theorem ad_no {D : Dk} {L : Lg} {row : List Int} (h : adOk L row = false) : adE D L row = 10 ∧ adD D L row = D ∧ adL D L row = L := by
  have e : adE D L row = 10 := if_pos h
  exact ⟨e, if_pos h, if_neg (by rw [e]; decide)⟩
theorem ad_app {D : Dk} {L : Lg} {row : List Int} {e : Int} (h : adOk L row = true) (h1 : D.appE L.side (recp row) = e) (h2 : e ≠ 0) (h3 : e ≠ 3) : adE D L row = e ∧ adD D L row = D.app L.side (recp row) ∧ adL D L row = L := by
  have e1 : adE D L row = e := by unfold adE; rw [h1]; simp [h, h2, h3]
  exact ⟨e1, by unfold adD; rw [h1]; simp [h, h2, h3], if_neg (by rw [e1]; exact h2)⟩
theorem ad_full {D : Dk} {L : Lg} {row : List Int} (h : adOk L row = true) (h1 : D.appE L.side (recp row) = 3) : adE D L row = 10 ∧ adD D L row = D.app L.side (recp row) ∧ adL D L row = L := by
  have e1 : adE D L row = 10 := by unfold adE; rw [h1]; simp [h]
  exact ⟨e1, by unfold adD; rw [h1]; simp [h], if_neg (by rw [e1]; decide)⟩
theorem ad_sync {D : Dk} {L : Lg} {row : List Int} (h : adOk L row = true) (h1 : D.appE L.side (recp row) = 0) : adE D L row = (D.app L.side (recp row)).syncE ∧ adD D L row = (D.app L.side (recp row)).sync ∧ adL D L row = if (D.app L.side (recp row)).syncE = 0 then { L with rows := L.rows + 1 } else L := by
  have e1 : adE D L row = (D.app L.side (recp row)).syncE := by unfold adE; rw [h1]; simp [h]
  exact ⟨e1, by unfold adD; rw [h1]; simp [h], by unfold adL; rw [e1]⟩
/-- A log's numbers as they should be. -/
def Lg.G (L : Lg) (N : Int) : Prop := (L.side = 0 ∨ L.side = 1) ∧ 1 ≤ L.gen ∧ L.gen ≤ 4611686018427387904 ∧ 0 ≤ L.rows ∧ L.rows ≤ N
/-- What saving leaves of the log. -/
def saL (D : Dk) (L : Lg) (snap : List Int) : Lg := if svE D (1 - L.side) (L.gen + 1) snap = 0 then ⟨1 - L.side, L.gen + 1, 0, false⟩ else L
theorem fr_gl {ok : Nat → Prop} {w w' : World} {gl : Nat} {o : Obj} (h : Fr ok w w') (hn : ¬ ok gl) (hg : w.heap[gl]? = some o) : w'.heap[gl]? = some o := (h.2.2.2.2 gl (by
  rcases Nat.lt_or_ge gl w.heap.size with h | h
  · exact h
  · rw [Array.getElem?_eq_none h] at hg; cases hg) hn).trans hg
theorem cells5v {W : World} {g t : Nat} {a0 a1 a2 a3 a4 : Value} (h : W.heap[g]? = some (.cells #[a0, a1, a2, a3, a4] t (0, 0))) : W.cell? ⟨g, 0, none⟩ = some a0 ∧ W.cell? ⟨g, 1, none⟩ = some a1 ∧ W.cell? ⟨g, 2, none⟩ = some a2 ∧ W.cell? ⟨g, 3, none⟩ = some a3 ∧ W.cell? ⟨g, 4, none⟩ = some a4 :=
  ⟨blk_cell h 0, blk_cell h 1, blk_cell h 2, blk_cell h 3, blk_cell h 4⟩
theorem Kd.R_fr_nil : True := trivial
theorem fr_only {ok : Nat → Prop} {gl : Nat} {w w' : World} (h : Only gl w w') : Fr (fun k => ok k ∨ k = gl) w w' := h.fr (.inr rfl)
def laddPost (w w' : World) (ok : Nat → Prop) (gl g : Nat) (E : Int) (D' : Dk) (L' : Lg) (e : Ending) : Prop := e = .returned (.int .i64 E) ∧ IsD w' ok g D' ∧ IsL w' gl g L' ∧ Fr (fun k => ok k ∨ k = gl) w w'
set_option maxHeartbeats 2000000 in
theorem ladd (g gl : Nat) (ok : Nat → Prop) (D : Dk) (L : Lg) (A : Option Addr) (c : Nat) (row : List Int) (N : Int) (w : World) (h : IsD w ok g D) (hL : IsL w gl g L) (hng : ¬ ok gl) (hG : D.G N) (hN : N < 900000) (hLG : L.G 900000) (hC : Kd.C (Kd.int .u8) w A row.length row) (hc : row.length ≤ c) (hl : row.length ≤ 100000000) (hok : ∀ k, w.heap.size ≤ k → ok k) :
    Calls Try.prog 40 #[.pointer (some ⟨gl, 0, none⟩), .slice A row.length c] w fun e w' => laddPost w w' ok gl g (adE D L row) (adD D L row) (adL D L row) e := by
  have HB := Aside0.mk (Below.refl w.heap.size w)
  have HD := Aside0.mk h
  have HG := Aside0.mk hG
  have HC := Aside0.mk hC
  have HFR := Aside0.mk hok
  have HNG := Aside0.mk hng
  have HGG := Aside0.mk h.lt
  obtain ⟨sd, gn, rows, st⟩ := L
  have HGL := Aside0.mk (show w.heap[gl]? = some (.cells #[.pointer (some ⟨g, 0, none⟩), .int .i64 sd, .int .i64 gn, .int .i64 rows, .bool st] 89 (0, 0)) from hL)
  have HGLL := Aside0.mk (blk_lt HGL.out)
  have hrw : 0 ≤ rows ∧ rows ≤ 900000 := hLG.2.2.2
  have hc0 := hc
  obtain ⟨b, hb⟩ : ∃ b, recp row = b := ⟨_, rfl⟩
  have HSB := Aside0.mk hb
  have hrl : row.length ≤ 140737488351232 := by omega
  obtain ⟨z0, z1, z2, z3, z4⟩ := cells5v HGL.out
  by_cases k1 : row.length ≤ 60000
  · have hbl2 : b.length ≤ 140737488351232 := by rw [← hb, recp_length k1]; omega
    have HOK := Aside0.mk (show recok row = true from decide_eq_true k1)
    cases st with
    | true =>
      obtain ⟨f1, f2, f3⟩ := ad_no (D := D) (L := ⟨sd, gn, rows, true⟩) (row := row) (by unfold adOk; simp)
      rw [f1, f2, f3]
      clear f1 f2 f3 h hG hC hok hb k1 hL hLG hng hc
      go_enter Try.func40, Try.ntmps40
      go_wp2_with (first | ((with_reducible refine gate_dst (N := 12) rfl ?_); (try (refine gate_guard (by rfl) ?_; dsimp only)); refine goesL_ (some 12) rfl rfl Try.func53 (by kernel_rfl) rfl #[.slice A row.length c] rfl (by (try simp only [List.map_toArray, List.map_cons, List.map_nil]); first | done | rfl | (simp only [List.length_drop, List.length_take]; rfl)) ?_; refine (rput A c row _ (Kd.C_below HC.out HB.out) hc0 hrl).mono ?_; rintro e w6 ⟨v6, rfl, ho, hbl⟩; refine ⟨_, rfl, ?_⟩; rw [HOK.out]; rw [HSB.out] at ho; have HO := Aside0.mk (Kd.R_lower ho HB.out.size); have HB' := Aside0.mk (below_step HB.out hbl); clear HB hbl ho; have HB := HB'; clear HB'; obtain ⟨A6, c6, e6⟩ := Kd.R_slice HO.out; subst e6; have HGL' := Aside0.mk ((HB.out.block gl HGLL.out).trans HGL.out); clear HGL; have HGL := HGL'; clear HGL'; obtain ⟨z0, z1, z2, z3, z4⟩ := cells5v HGL.out))
      go_ret
      exact ⟨rfl, HD.out.below HB.out, HGL.out, Fr.of_below HB.out⟩
    | false =>
      have KY := Aside0.mk (show adOk ⟨sd, gn, rows, false⟩ row = true by unfold adOk; rw [HOK.out]; rfl)
      obtain ⟨e2, he2⟩ : ∃ x, D.appE sd b = x := ⟨_, rfl⟩
      obtain ⟨D2, hd2⟩ : ∃ x, D.app sd b = x := ⟨_, rfl⟩
      have HG2 := Aside0.mk (show D2.G (N + 1) by rw [← hd2]; exact hG.app sd b)
      have HE2 := Aside0.mk he2
      have HD2 := Aside0.mk hd2
      by_cases k3 : e2 = 3
      · subst k3
        obtain ⟨f1, f2, f3⟩ := ad_full KY.out (show D.appE sd (recp row) = 3 by rw [hb]; exact he2)
        rw [f1, f2, f3, hb, hd2]
        clear f1 f2 f3 h hG hC hok hb k1 hL hLG hng hc he2 hd2
        go_enter Try.func40, Try.ntmps40
        go_wp2_with (first | ((with_reducible refine gate_dst (N := 12) rfl ?_); (try (refine gate_guard (by rfl) ?_; dsimp only)); refine goesL_ (some 12) rfl rfl Try.func53 (by kernel_rfl) rfl #[.slice A row.length c] rfl (by (try simp only [List.map_toArray, List.map_cons, List.map_nil]); first | done | rfl | (simp only [List.length_drop, List.length_take]; rfl)) ?_; refine (rput A c row _ (Kd.C_below HC.out HB.out) hc0 hrl).mono ?_; rintro e w6 ⟨v6, rfl, ho, hbl⟩; refine ⟨_, rfl, ?_⟩; rw [HOK.out]; rw [HSB.out] at ho; have HO := Aside0.mk (Kd.R_lower ho HB.out.size); have HB' := Aside0.mk (below_step HB.out hbl); clear HB hbl ho; have HB := HB'; clear HB'; obtain ⟨A6, c6, e6⟩ := Kd.R_slice HO.out; subst e6; have HGL' := Aside0.mk ((HB.out.block gl HGLL.out).trans HGL.out); clear HGL; have HGL := HGL'; clear HGL'; obtain ⟨z0, z1, z2, z3, z4⟩ := cells5v HGL.out))
        go_region_held (fun w' => w'.cell? ⟨gl, 0, none⟩ = some (.pointer (some ⟨g, 0, none⟩)) ∧ w'.cell? ⟨gl, 1, none⟩ = some (.int .i64 sd)) (first | exact ⟨z0, z1⟩ | exact ⟨y0, y1⟩) ((go_at_call 15; (refine (tapp g (fun k => (ok k ∧ k < w.heap.size) ∨ w6.heap.size ≤ k) D sd A6 c6 b _ ((HD.out.bound.below (below_drew HB.out)).mono (fun _ => .inl)) (HG.out.wf (by omega)) (Kd.C_drew (Kd.R_reads' HO.out).2.2) hbl2 (fun ad e hn hk => absurd (fresh_ne HO.out ad e hn) (by have := HGG.out; omega)) (fun k hk => .inr hk)).mono ?_); rintro e w9 ⟨rfl, hD, hfr⟩; rw [HE2.out]; rw [HD2.out] at hD; have HD9 := Aside0.mk hD; have HF9 := Aside0.mk (Fr.trans (Fr.of_below (ok := fun k => ok k ∨ k = gl) (below_drew HB.out)) (hfr.mono (fun k _ hk => .inl (by rcases hk with h | h; exact h.1; exact HFR.out k (Nat.le_trans HB.out.size h))))); have HGL9 := Aside0.mk (fr_gl hfr (fun hk => by rcases hk with h | h; exact HNG.out h.1; exact absurd h (Nat.not_le.2 (Nat.lt_of_lt_of_le HGLL.out HB.out.size))) (show (w6.drew).heap[gl]? = _ from HGL.out)); clear hD hfr; obtain ⟨y0, y1, y2, y3, y4⟩ := cells5v HGL9.out))
        go_wp2
        go_ret
        exact ⟨rfl, HD9.out.mono (fun k hk => by rcases hk with h | h; exact h.1; exact HFR.out k (Nat.le_trans HB.out.size h)), HGL9.out, HF9.out⟩
      by_cases k5 : e2 = 0
      · subst k5
        obtain ⟨e3, he3⟩ : ∃ x, D2.syncE = x := ⟨_, rfl⟩
        obtain ⟨D3, hd3⟩ : ∃ x, D2.sync = x := ⟨_, rfl⟩
        have HE3 := Aside0.mk he3
        have HD3 := Aside0.mk hd3
        obtain ⟨f1, f2, f3⟩ := ad_sync KY.out (show D.appE sd (recp row) = 0 by rw [hb]; exact he2)
        rw [f1, f2, f3, hb, hd2, he3, hd3]
        clear f1 f2 f3 h hG hC hok hb k1 hL hLG hng hc he2 hd2 he3 hd3 k3
        by_cases k6 : e3 = 0
        · subst k6
          rw [if_pos rfl]
          go_enter Try.func40, Try.ntmps40
          go_wp2_with (first | ((with_reducible refine gate_dst (N := 12) rfl ?_); (try (refine gate_guard (by rfl) ?_; dsimp only)); refine goesL_ (some 12) rfl rfl Try.func53 (by kernel_rfl) rfl #[.slice A row.length c] rfl (by (try simp only [List.map_toArray, List.map_cons, List.map_nil]); first | done | rfl | (simp only [List.length_drop, List.length_take]; rfl)) ?_; refine (rput A c row _ (Kd.C_below HC.out HB.out) hc0 hrl).mono ?_; rintro e w6 ⟨v6, rfl, ho, hbl⟩; refine ⟨_, rfl, ?_⟩; rw [HOK.out]; rw [HSB.out] at ho; have HO := Aside0.mk (Kd.R_lower ho HB.out.size); have HB' := Aside0.mk (below_step HB.out hbl); clear HB hbl ho; have HB := HB'; clear HB'; obtain ⟨A6, c6, e6⟩ := Kd.R_slice HO.out; subst e6; have HGL' := Aside0.mk ((HB.out.block gl HGLL.out).trans HGL.out); clear HGL; have HGL := HGL'; clear HGL'; obtain ⟨z0, z1, z2, z3, z4⟩ := cells5v HGL.out))
          go_region_held (fun w' => w'.cell? ⟨gl, 0, none⟩ = some (.pointer (some ⟨g, 0, none⟩)) ∧ w'.cell? ⟨gl, 1, none⟩ = some (.int .i64 sd)) (first | exact ⟨z0, z1⟩ | exact ⟨y0, y1⟩) ((go_at_call 15; (refine (tapp g (fun k => (ok k ∧ k < w.heap.size) ∨ w6.heap.size ≤ k) D sd A6 c6 b _ ((HD.out.bound.below (below_drew HB.out)).mono (fun _ => .inl)) (HG.out.wf (by omega)) (Kd.C_drew (Kd.R_reads' HO.out).2.2) hbl2 (fun ad e hn hk => absurd (fresh_ne HO.out ad e hn) (by have := HGG.out; omega)) (fun k hk => .inr hk)).mono ?_); rintro e w9 ⟨rfl, hD, hfr⟩; rw [HE2.out]; rw [HD2.out] at hD; have HD9 := Aside0.mk hD; have HF9 := Aside0.mk (Fr.trans (Fr.of_below (ok := fun k => ok k ∨ k = gl) (below_drew HB.out)) (hfr.mono (fun k _ hk => .inl (by rcases hk with h | h; exact h.1; exact HFR.out k (Nat.le_trans HB.out.size h))))); have HGL9 := Aside0.mk (fr_gl hfr (fun hk => by rcases hk with h | h; exact HNG.out h.1; exact absurd h (Nat.not_le.2 (Nat.lt_of_lt_of_le HGLL.out HB.out.size))) (show (w6.drew).heap[gl]? = _ from HGL.out)); clear hD hfr; obtain ⟨y0, y1, y2, y3, y4⟩ := cells5v HGL9.out))
          go_wp2_with (first | ((with_reducible refine gate_dst (N := 41) rfl ?_); (try (refine gate_guard (by rfl) ?_; dsimp only)); refine goesL_ (some 41) rfl rfl Try.func21 (by kernel_rfl) rfl #[.pointer (some ⟨g, 0, none⟩)] rfl (by (try simp only [List.map_toArray, List.map_cons, List.map_nil]); first | done | rfl | (simp only [List.length_drop, List.length_take]; rfl)) ?_; refine (tsync g (fun k => (ok k ∧ k < w.heap.size) ∨ w6.heap.size ≤ k) D2 _ HD9.out (HG2.out.wf (by omega))).mono ?_; rintro e w10 ⟨rfl, hD, hfr⟩; refine ⟨_, rfl, ?_⟩; rw [HE3.out]; rw [HD3.out] at hD; have HD10 := Aside0.mk hD; have HF10 := Aside0.mk (Fr.trans HF9.out (hfr.mono (fun k _ hk => .inl (by rcases hk with h | h; exact h.1; exact HFR.out k (Nat.le_trans HB.out.size h))))); have HGL10 := Aside0.mk (fr_gl hfr (fun hk => by rcases hk with h | h; exact HNG.out h.1; exact absurd h (Nat.not_le.2 (Nat.lt_of_lt_of_le HGLL.out HB.out.size))) HGL9.out); clear hD hfr HF9 HD9 HGL9 y0 y1 y2 y3 y4; obtain ⟨y0, y1, y2, y3, y4⟩ := cells5v HGL10.out) | (refine gate_store (t := 3) (p := 50) rfl ?_; (refine store_only rfl _ _ _ rfl gl 3 (.int .i64 (rows + 1)) rfl rfl 89 _ (#[.pointer (some ⟨g, 0, none⟩), .int .i64 sd, .int .i64 gn, .int .i64 (rows + 1), .bool false]) HGL10.out (by kernel_rfl) (by simp) rfl rfl rfl ?_; intro w11 hG11 ho11; have HG11 := Aside0.mk hG11; have HO11 := Aside0.mk ho11; clear hG11 ho11)))
          go_ret
          exact ⟨rfl, (HD10.out.mono (fun k hk => by rcases hk with h | h; exact h.1; exact HFR.out k (Nat.le_trans HB.out.size h))).move (fun k hk hl => HO11.out.2.2.2.2 k (fun e => HNG.out (by rw [← e]; exact hk))), HG11.out, Fr.trans HF10.out (HO11.out.fr (.inr rfl))⟩
        · have t6 : (e3 == 0) = false := beq_eq_false_iff_ne.2 k6
          rw [if_neg k6]
          clear k6
          go_enter Try.func40, Try.ntmps40
          go_wp2_with (first | ((with_reducible refine gate_dst (N := 12) rfl ?_); (try (refine gate_guard (by rfl) ?_; dsimp only)); refine goesL_ (some 12) rfl rfl Try.func53 (by kernel_rfl) rfl #[.slice A row.length c] rfl (by (try simp only [List.map_toArray, List.map_cons, List.map_nil]); first | done | rfl | (simp only [List.length_drop, List.length_take]; rfl)) ?_; refine (rput A c row _ (Kd.C_below HC.out HB.out) hc0 hrl).mono ?_; rintro e w6 ⟨v6, rfl, ho, hbl⟩; refine ⟨_, rfl, ?_⟩; rw [HOK.out]; rw [HSB.out] at ho; have HO := Aside0.mk (Kd.R_lower ho HB.out.size); have HB' := Aside0.mk (below_step HB.out hbl); clear HB hbl ho; have HB := HB'; clear HB'; obtain ⟨A6, c6, e6⟩ := Kd.R_slice HO.out; subst e6; have HGL' := Aside0.mk ((HB.out.block gl HGLL.out).trans HGL.out); clear HGL; have HGL := HGL'; clear HGL'; obtain ⟨z0, z1, z2, z3, z4⟩ := cells5v HGL.out))
          go_region_held (fun w' => w'.cell? ⟨gl, 0, none⟩ = some (.pointer (some ⟨g, 0, none⟩)) ∧ w'.cell? ⟨gl, 1, none⟩ = some (.int .i64 sd)) (first | exact ⟨z0, z1⟩ | exact ⟨y0, y1⟩) ((go_at_call 15; (refine (tapp g (fun k => (ok k ∧ k < w.heap.size) ∨ w6.heap.size ≤ k) D sd A6 c6 b _ ((HD.out.bound.below (below_drew HB.out)).mono (fun _ => .inl)) (HG.out.wf (by omega)) (Kd.C_drew (Kd.R_reads' HO.out).2.2) hbl2 (fun ad e hn hk => absurd (fresh_ne HO.out ad e hn) (by have := HGG.out; omega)) (fun k hk => .inr hk)).mono ?_); rintro e w9 ⟨rfl, hD, hfr⟩; rw [HE2.out]; rw [HD2.out] at hD; have HD9 := Aside0.mk hD; have HF9 := Aside0.mk (Fr.trans (Fr.of_below (ok := fun k => ok k ∨ k = gl) (below_drew HB.out)) (hfr.mono (fun k _ hk => .inl (by rcases hk with h | h; exact h.1; exact HFR.out k (Nat.le_trans HB.out.size h))))); have HGL9 := Aside0.mk (fr_gl hfr (fun hk => by rcases hk with h | h; exact HNG.out h.1; exact absurd h (Nat.not_le.2 (Nat.lt_of_lt_of_le HGLL.out HB.out.size))) (show (w6.drew).heap[gl]? = _ from HGL.out)); clear hD hfr; obtain ⟨y0, y1, y2, y3, y4⟩ := cells5v HGL9.out))
          go_wp2_with (first | ((with_reducible refine gate_dst (N := 41) rfl ?_); (try (refine gate_guard (by rfl) ?_; dsimp only)); refine goesL_ (some 41) rfl rfl Try.func21 (by kernel_rfl) rfl #[.pointer (some ⟨g, 0, none⟩)] rfl (by (try simp only [List.map_toArray, List.map_cons, List.map_nil]); first | done | rfl | (simp only [List.length_drop, List.length_take]; rfl)) ?_; refine (tsync g (fun k => (ok k ∧ k < w.heap.size) ∨ w6.heap.size ≤ k) D2 _ HD9.out (HG2.out.wf (by omega))).mono ?_; rintro e w10 ⟨rfl, hD, hfr⟩; refine ⟨_, rfl, ?_⟩; rw [HE3.out]; rw [HD3.out] at hD; have HD10 := Aside0.mk hD; have HF10 := Aside0.mk (Fr.trans HF9.out (hfr.mono (fun k _ hk => .inl (by rcases hk with h | h; exact h.1; exact HFR.out k (Nat.le_trans HB.out.size h))))); have HGL10 := Aside0.mk (fr_gl hfr (fun hk => by rcases hk with h | h; exact HNG.out h.1; exact absurd h (Nat.not_le.2 (Nat.lt_of_lt_of_le HGLL.out HB.out.size))) HGL9.out); clear hD hfr HF9 HD9 HGL9 y0 y1 y2 y3 y4; obtain ⟨y0, y1, y2, y3, y4⟩ := cells5v HGL10.out))
          go_ret
          exact ⟨rfl, HD10.out.mono (fun k hk => by rcases hk with h | h; exact h.1; exact HFR.out k (Nat.le_trans HB.out.size h)), HGL10.out, HF10.out⟩
      · have t5 : (e2 == 0) = false := beq_eq_false_iff_ne.2 k5
        have t3 : (e2 == 3) = false := beq_eq_false_iff_ne.2 k3
        obtain ⟨f1, f2, f3⟩ := ad_app KY.out (show D.appE sd (recp row) = e2 by rw [hb]; exact he2) k5 k3
        rw [f1, f2, f3, hb, hd2]
        clear f1 f2 f3 h hG hC hok hb k1 hL hLG hng hc he2 hd2 k3 k5
        go_enter Try.func40, Try.ntmps40
        go_wp2_with (first | ((with_reducible refine gate_dst (N := 12) rfl ?_); (try (refine gate_guard (by rfl) ?_; dsimp only)); refine goesL_ (some 12) rfl rfl Try.func53 (by kernel_rfl) rfl #[.slice A row.length c] rfl (by (try simp only [List.map_toArray, List.map_cons, List.map_nil]); first | done | rfl | (simp only [List.length_drop, List.length_take]; rfl)) ?_; refine (rput A c row _ (Kd.C_below HC.out HB.out) hc0 hrl).mono ?_; rintro e w6 ⟨v6, rfl, ho, hbl⟩; refine ⟨_, rfl, ?_⟩; rw [HOK.out]; rw [HSB.out] at ho; have HO := Aside0.mk (Kd.R_lower ho HB.out.size); have HB' := Aside0.mk (below_step HB.out hbl); clear HB hbl ho; have HB := HB'; clear HB'; obtain ⟨A6, c6, e6⟩ := Kd.R_slice HO.out; subst e6; have HGL' := Aside0.mk ((HB.out.block gl HGLL.out).trans HGL.out); clear HGL; have HGL := HGL'; clear HGL'; obtain ⟨z0, z1, z2, z3, z4⟩ := cells5v HGL.out))
        go_region_held (fun w' => w'.cell? ⟨gl, 0, none⟩ = some (.pointer (some ⟨g, 0, none⟩)) ∧ w'.cell? ⟨gl, 1, none⟩ = some (.int .i64 sd)) (first | exact ⟨z0, z1⟩ | exact ⟨y0, y1⟩) ((go_at_call 15; (refine (tapp g (fun k => (ok k ∧ k < w.heap.size) ∨ w6.heap.size ≤ k) D sd A6 c6 b _ ((HD.out.bound.below (below_drew HB.out)).mono (fun _ => .inl)) (HG.out.wf (by omega)) (Kd.C_drew (Kd.R_reads' HO.out).2.2) hbl2 (fun ad e hn hk => absurd (fresh_ne HO.out ad e hn) (by have := HGG.out; omega)) (fun k hk => .inr hk)).mono ?_); rintro e w9 ⟨rfl, hD, hfr⟩; rw [HE2.out]; rw [HD2.out] at hD; have HD9 := Aside0.mk hD; have HF9 := Aside0.mk (Fr.trans (Fr.of_below (ok := fun k => ok k ∨ k = gl) (below_drew HB.out)) (hfr.mono (fun k _ hk => .inl (by rcases hk with h | h; exact h.1; exact HFR.out k (Nat.le_trans HB.out.size h))))); have HGL9 := Aside0.mk (fr_gl hfr (fun hk => by rcases hk with h | h; exact HNG.out h.1; exact absurd h (Nat.not_le.2 (Nat.lt_of_lt_of_le HGLL.out HB.out.size))) (show (w6.drew).heap[gl]? = _ from HGL.out)); clear hD hfr; obtain ⟨y0, y1, y2, y3, y4⟩ := cells5v HGL9.out))
        go_wp2
        go_ret
        exact ⟨rfl, HD9.out.mono (fun k hk => by rcases hk with h | h; exact h.1; exact HFR.out k (Nat.le_trans HB.out.size h)), HGL9.out, HF9.out⟩
  · have HOK := Aside0.mk (show recok row = false from decide_eq_false k1)
    obtain ⟨f1, f2, f3⟩ := ad_no (D := D) (L := ⟨sd, gn, rows, st⟩) (row := row) (by unfold adOk; rw [HOK.out]; rfl)
    rw [f1, f2, f3]
    clear f1 f2 f3 h hG hC hok hb k1 hL hLG hng hc
    go_enter Try.func40, Try.ntmps40
    go_wp2_with (first | ((with_reducible refine gate_dst (N := 12) rfl ?_); (try (refine gate_guard (by rfl) ?_; dsimp only)); refine goesL_ (some 12) rfl rfl Try.func53 (by kernel_rfl) rfl #[.slice A row.length c] rfl (by (try simp only [List.map_toArray, List.map_cons, List.map_nil]); first | done | rfl | (simp only [List.length_drop, List.length_take]; rfl)) ?_; refine (rput A c row _ (Kd.C_below HC.out HB.out) hc0 hrl).mono ?_; rintro e w6 ⟨v6, rfl, ho, hbl⟩; refine ⟨_, rfl, ?_⟩; rw [HOK.out]; rw [HSB.out] at ho; have HO := Aside0.mk (Kd.R_lower ho HB.out.size); have HB' := Aside0.mk (below_step HB.out hbl); clear HB hbl ho; have HB := HB'; clear HB'; obtain ⟨A6, c6, e6⟩ := Kd.R_slice HO.out; subst e6; have HGL' := Aside0.mk ((HB.out.block gl HGLL.out).trans HGL.out); clear HGL; have HGL := HGL'; clear HGL'; obtain ⟨z0, z1, z2, z3, z4⟩ := cells5v HGL.out))
    go_ret
    exact ⟨rfl, HD.out.below HB.out, HGL.out, Fr.of_below HB.out⟩
def xaddPost (w w' : World) (ok : Nat → Prop) (gl g : Nat) (E : Int) (D' : Dk) (L' : Lg) (e : Ending) : Prop := e = .returned (.int .i64 E) ∧ IsX w' ok g D' ∧ IsLX w' gl g L' ∧ Fr (fun k => ok k ∨ k = gl) w w'
set_option maxHeartbeats 2000000 in
theorem xadd (g gl : Nat) (ok : Nat → Prop) (D : Dk) (L : Lg) (A : Option Addr) (c : Nat) (row : List Int) (N : Int) (w : World) (h : IsX w ok g D) (hL : IsLX w gl g L) (hng : ¬ ok gl) (hG : D.G N) (hN : N < 900000) (hLG : L.G 900000) (hC : Kd.C (Kd.int .u8) w A row.length row) (hc : row.length ≤ c) (hl : row.length ≤ 100000000) (hok : ∀ k, w.heap.size ≤ k → ok k) :
    Calls Try.prog 41 #[.pointer (some ⟨gl, 0, none⟩), .slice A row.length c] w fun e w' => xaddPost w w' ok gl g (adE D L row) (adD D L row) (adL D L row) e := by
  have HB := Aside0.mk (Below.refl w.heap.size w)
  have HD := Aside0.mk h
  have HG := Aside0.mk hG
  have HC := Aside0.mk hC
  have HFR := Aside0.mk hok
  have HNG := Aside0.mk hng
  have HGG := Aside0.mk h.lt
  obtain ⟨sd, gn, rows, st⟩ := L
  have HGL := Aside0.mk (show w.heap[gl]? = some (.cells #[.pointer (some ⟨g, 0, none⟩), .int .i64 gn, .int .i64 sd, .int .i64 rows, .bool st] 92 (0, 0)) from hL)
  have HGLL := Aside0.mk (blk_lt HGL.out)
  have hrw : 0 ≤ rows ∧ rows ≤ 900000 := hLG.2.2.2
  have hc0 := hc
  obtain ⟨b, hb⟩ : ∃ b, recp row = b := ⟨_, rfl⟩
  have HSB := Aside0.mk hb
  have hrl : row.length ≤ 140737488351232 := by omega
  obtain ⟨z0, z1, z2, z3, z4⟩ := cells5v HGL.out
  by_cases k1 : row.length ≤ 60000
  · have hbl2 : b.length ≤ 140737488351232 := by rw [← hb, recp_length k1]; omega
    have HOK := Aside0.mk (show recok row = true from decide_eq_true k1)
    cases st with
    | true =>
      obtain ⟨f1, f2, f3⟩ := ad_no (D := D) (L := ⟨sd, gn, rows, true⟩) (row := row) (by unfold adOk; simp)
      rw [f1, f2, f3]
      clear f1 f2 f3 h hG hC hok hb k1 hL hLG hng hc
      go_enter Try.func41, Try.ntmps41
      go_wp2_with (first | ((with_reducible refine gate_dst (N := 10) rfl ?_); (try (refine gate_guard (by rfl) ?_; dsimp only)); refine goesL_ (some 10) rfl rfl Try.func32 (by kernel_rfl) rfl #[.slice A row.length c] rfl (by (try simp only [List.map_toArray, List.map_cons, List.map_nil]); first | done | rfl | (simp only [List.length_drop, List.length_take]; rfl)) ?_; refine (rput5 A c row _ (Kd.C_below HC.out HB.out) hc0 hrl).mono ?_; rintro e w6 ⟨v6, rfl, ho, hbl⟩; refine ⟨_, rfl, ?_⟩; rw [HOK.out]; rw [HSB.out] at ho; have HO := Aside0.mk (Kd.R_lower ho HB.out.size); have HB' := Aside0.mk (below_step HB.out hbl); clear HB hbl ho; have HB := HB'; clear HB'; obtain ⟨A6, c6, e6⟩ := Kd.R_slice HO.out; subst e6; have HGL' := Aside0.mk ((HB.out.block gl HGLL.out).trans HGL.out); clear HGL; have HGL := HGL'; clear HGL'; obtain ⟨z0, z1, z2, z3, z4⟩ := cells5v HGL.out))
      go_ret
      exact ⟨rfl, HD.out.below HB.out, HGL.out, Fr.of_below HB.out⟩
    | false =>
      have KY := Aside0.mk (show adOk ⟨sd, gn, rows, false⟩ row = true by unfold adOk; rw [HOK.out]; rfl)
      obtain ⟨e2, he2⟩ : ∃ x, D.appE sd b = x := ⟨_, rfl⟩
      obtain ⟨D2, hd2⟩ : ∃ x, D.app sd b = x := ⟨_, rfl⟩
      have HG2 := Aside0.mk (show D2.G (N + 1) by rw [← hd2]; exact hG.app sd b)
      have HE2 := Aside0.mk he2
      have HD2 := Aside0.mk hd2
      by_cases k3 : e2 = 3
      · subst k3
        obtain ⟨f1, f2, f3⟩ := ad_full KY.out (show D.appE sd (recp row) = 3 by rw [hb]; exact he2)
        rw [f1, f2, f3, hb, hd2]
        clear f1 f2 f3 h hG hC hok hb k1 hL hLG hng hc he2 hd2
        go_enter Try.func41, Try.ntmps41
        go_wp2_with (first | ((with_reducible refine gate_dst (N := 10) rfl ?_); (try (refine gate_guard (by rfl) ?_; dsimp only)); refine goesL_ (some 10) rfl rfl Try.func32 (by kernel_rfl) rfl #[.slice A row.length c] rfl (by (try simp only [List.map_toArray, List.map_cons, List.map_nil]); first | done | rfl | (simp only [List.length_drop, List.length_take]; rfl)) ?_; refine (rput5 A c row _ (Kd.C_below HC.out HB.out) hc0 hrl).mono ?_; rintro e w6 ⟨v6, rfl, ho, hbl⟩; refine ⟨_, rfl, ?_⟩; rw [HOK.out]; rw [HSB.out] at ho; have HO := Aside0.mk (Kd.R_lower ho HB.out.size); have HB' := Aside0.mk (below_step HB.out hbl); clear HB hbl ho; have HB := HB'; clear HB'; obtain ⟨A6, c6, e6⟩ := Kd.R_slice HO.out; subst e6; have HGL' := Aside0.mk ((HB.out.block gl HGLL.out).trans HGL.out); clear HGL; have HGL := HGL'; clear HGL'; obtain ⟨z0, z1, z2, z3, z4⟩ := cells5v HGL.out))
        go_region_held (fun w' => w'.cell? ⟨gl, 0, none⟩ = some (.pointer (some ⟨g, 0, none⟩)) ∧ w'.cell? ⟨gl, 2, none⟩ = some (.int .i64 sd)) (first | exact ⟨z0, z2⟩ | exact ⟨y0, y2⟩) ((go_at_call 25; (refine (xapp g (fun k => (ok k ∧ k < w.heap.size) ∨ w6.heap.size ≤ k) D sd A6 c6 b _ ((HD.out.bound.below (below_drew HB.out)).mono (fun _ => .inl)) (HG.out.wf (by omega)) (Kd.C_drew (Kd.R_reads' HO.out).2.2) hbl2 (fun ad e hn hk => absurd (fresh_ne HO.out ad e hn) (by have := HGG.out; omega)) (fun k hk => .inr hk)).mono ?_); rintro e w9 ⟨rfl, hD, hfr⟩; rw [HE2.out]; rw [HD2.out] at hD; have HD9 := Aside0.mk hD; have HF9 := Aside0.mk (Fr.trans (Fr.of_below (ok := fun k => ok k ∨ k = gl) (below_drew HB.out)) (hfr.mono (fun k _ hk => .inl (by rcases hk with h | h; exact h.1; exact HFR.out k (Nat.le_trans HB.out.size h))))); have HGL9 := Aside0.mk (fr_gl hfr (fun hk => by rcases hk with h | h; exact HNG.out h.1; exact absurd h (Nat.not_le.2 (Nat.lt_of_lt_of_le HGLL.out HB.out.size))) (show (w6.drew).heap[gl]? = _ from HGL.out)); clear hD hfr; obtain ⟨y0, y1, y2, y3, y4⟩ := cells5v HGL9.out))
        go_wp2
        go_ret
        exact ⟨rfl, HD9.out.mono (fun k hk => by rcases hk with h | h; exact h.1; exact HFR.out k (Nat.le_trans HB.out.size h)), HGL9.out, HF9.out⟩
      by_cases k5 : e2 = 0
      · subst k5
        obtain ⟨e3, he3⟩ : ∃ x, D2.syncE = x := ⟨_, rfl⟩
        obtain ⟨D3, hd3⟩ : ∃ x, D2.sync = x := ⟨_, rfl⟩
        have HE3 := Aside0.mk he3
        have HD3 := Aside0.mk hd3
        obtain ⟨f1, f2, f3⟩ := ad_sync KY.out (show D.appE sd (recp row) = 0 by rw [hb]; exact he2)
        rw [f1, f2, f3, hb, hd2, he3, hd3]
        clear f1 f2 f3 h hG hC hok hb k1 hL hLG hng hc he2 hd2 he3 hd3 k3
        by_cases k6 : e3 = 0
        · subst k6
          rw [if_pos rfl]
          go_enter Try.func41, Try.ntmps41
          go_wp2_with (first | ((with_reducible refine gate_dst (N := 10) rfl ?_); (try (refine gate_guard (by rfl) ?_; dsimp only)); refine goesL_ (some 10) rfl rfl Try.func32 (by kernel_rfl) rfl #[.slice A row.length c] rfl (by (try simp only [List.map_toArray, List.map_cons, List.map_nil]); first | done | rfl | (simp only [List.length_drop, List.length_take]; rfl)) ?_; refine (rput5 A c row _ (Kd.C_below HC.out HB.out) hc0 hrl).mono ?_; rintro e w6 ⟨v6, rfl, ho, hbl⟩; refine ⟨_, rfl, ?_⟩; rw [HOK.out]; rw [HSB.out] at ho; have HO := Aside0.mk (Kd.R_lower ho HB.out.size); have HB' := Aside0.mk (below_step HB.out hbl); clear HB hbl ho; have HB := HB'; clear HB'; obtain ⟨A6, c6, e6⟩ := Kd.R_slice HO.out; subst e6; have HGL' := Aside0.mk ((HB.out.block gl HGLL.out).trans HGL.out); clear HGL; have HGL := HGL'; clear HGL'; obtain ⟨z0, z1, z2, z3, z4⟩ := cells5v HGL.out))
          go_region_held (fun w' => w'.cell? ⟨gl, 0, none⟩ = some (.pointer (some ⟨g, 0, none⟩)) ∧ w'.cell? ⟨gl, 2, none⟩ = some (.int .i64 sd)) (first | exact ⟨z0, z2⟩ | exact ⟨y0, y2⟩) ((go_at_call 25; (refine (xapp g (fun k => (ok k ∧ k < w.heap.size) ∨ w6.heap.size ≤ k) D sd A6 c6 b _ ((HD.out.bound.below (below_drew HB.out)).mono (fun _ => .inl)) (HG.out.wf (by omega)) (Kd.C_drew (Kd.R_reads' HO.out).2.2) hbl2 (fun ad e hn hk => absurd (fresh_ne HO.out ad e hn) (by have := HGG.out; omega)) (fun k hk => .inr hk)).mono ?_); rintro e w9 ⟨rfl, hD, hfr⟩; rw [HE2.out]; rw [HD2.out] at hD; have HD9 := Aside0.mk hD; have HF9 := Aside0.mk (Fr.trans (Fr.of_below (ok := fun k => ok k ∨ k = gl) (below_drew HB.out)) (hfr.mono (fun k _ hk => .inl (by rcases hk with h | h; exact h.1; exact HFR.out k (Nat.le_trans HB.out.size h))))); have HGL9 := Aside0.mk (fr_gl hfr (fun hk => by rcases hk with h | h; exact HNG.out h.1; exact absurd h (Nat.not_le.2 (Nat.lt_of_lt_of_le HGLL.out HB.out.size))) (show (w6.drew).heap[gl]? = _ from HGL.out)); clear hD hfr; obtain ⟨y0, y1, y2, y3, y4⟩ := cells5v HGL9.out))
          go_wp2_with (first | ((with_reducible refine gate_dst (N := 39) rfl ?_); (try (refine gate_guard (by rfl) ?_; dsimp only)); refine goesL_ (some 39) rfl rfl Try.func26 (by kernel_rfl) rfl #[.pointer (some ⟨g, 0, none⟩)] rfl (by (try simp only [List.map_toArray, List.map_cons, List.map_nil]); first | done | rfl | (simp only [List.length_drop, List.length_take]; rfl)) ?_; refine (xsync g (fun k => (ok k ∧ k < w.heap.size) ∨ w6.heap.size ≤ k) D2 _ HD9.out (HG2.out.wf (by omega))).mono ?_; rintro e w10 ⟨rfl, hD, hfr⟩; refine ⟨_, rfl, ?_⟩; rw [HE3.out]; rw [HD3.out] at hD; have HD10 := Aside0.mk hD; have HF10 := Aside0.mk (Fr.trans HF9.out (hfr.mono (fun k _ hk => .inl (by rcases hk with h | h; exact h.1; exact HFR.out k (Nat.le_trans HB.out.size h))))); have HGL10 := Aside0.mk (fr_gl hfr (fun hk => by rcases hk with h | h; exact HNG.out h.1; exact absurd h (Nat.not_le.2 (Nat.lt_of_lt_of_le HGLL.out HB.out.size))) HGL9.out); clear hD hfr HF9 HD9 HGL9 y0 y1 y2 y3 y4; obtain ⟨y0, y1, y2, y3, y4⟩ := cells5v HGL10.out) | (refine gate_store (t := 3) (p := 48) rfl ?_; (refine store_only rfl _ _ _ rfl gl 3 (.int .i64 (rows + 1)) rfl rfl 92 _ (#[.pointer (some ⟨g, 0, none⟩), .int .i64 gn, .int .i64 sd, .int .i64 (rows + 1), .bool false]) HGL10.out (by kernel_rfl) (by simp) rfl rfl rfl ?_; intro w11 hG11 ho11; have HG11 := Aside0.mk hG11; have HO11 := Aside0.mk ho11; clear hG11 ho11)))
          go_ret
          exact ⟨rfl, (HD10.out.mono (fun k hk => by rcases hk with h | h; exact h.1; exact HFR.out k (Nat.le_trans HB.out.size h))).move (fun k hk hl => HO11.out.2.2.2.2 k (fun e => HNG.out (by rw [← e]; exact hk))), HG11.out, Fr.trans HF10.out (HO11.out.fr (.inr rfl))⟩
        · have t6 : (e3 == 0) = false := beq_eq_false_iff_ne.2 k6
          rw [if_neg k6]
          clear k6
          go_enter Try.func41, Try.ntmps41
          go_wp2_with (first | ((with_reducible refine gate_dst (N := 10) rfl ?_); (try (refine gate_guard (by rfl) ?_; dsimp only)); refine goesL_ (some 10) rfl rfl Try.func32 (by kernel_rfl) rfl #[.slice A row.length c] rfl (by (try simp only [List.map_toArray, List.map_cons, List.map_nil]); first | done | rfl | (simp only [List.length_drop, List.length_take]; rfl)) ?_; refine (rput5 A c row _ (Kd.C_below HC.out HB.out) hc0 hrl).mono ?_; rintro e w6 ⟨v6, rfl, ho, hbl⟩; refine ⟨_, rfl, ?_⟩; rw [HOK.out]; rw [HSB.out] at ho; have HO := Aside0.mk (Kd.R_lower ho HB.out.size); have HB' := Aside0.mk (below_step HB.out hbl); clear HB hbl ho; have HB := HB'; clear HB'; obtain ⟨A6, c6, e6⟩ := Kd.R_slice HO.out; subst e6; have HGL' := Aside0.mk ((HB.out.block gl HGLL.out).trans HGL.out); clear HGL; have HGL := HGL'; clear HGL'; obtain ⟨z0, z1, z2, z3, z4⟩ := cells5v HGL.out))
          go_region_held (fun w' => w'.cell? ⟨gl, 0, none⟩ = some (.pointer (some ⟨g, 0, none⟩)) ∧ w'.cell? ⟨gl, 2, none⟩ = some (.int .i64 sd)) (first | exact ⟨z0, z2⟩ | exact ⟨y0, y2⟩) ((go_at_call 25; (refine (xapp g (fun k => (ok k ∧ k < w.heap.size) ∨ w6.heap.size ≤ k) D sd A6 c6 b _ ((HD.out.bound.below (below_drew HB.out)).mono (fun _ => .inl)) (HG.out.wf (by omega)) (Kd.C_drew (Kd.R_reads' HO.out).2.2) hbl2 (fun ad e hn hk => absurd (fresh_ne HO.out ad e hn) (by have := HGG.out; omega)) (fun k hk => .inr hk)).mono ?_); rintro e w9 ⟨rfl, hD, hfr⟩; rw [HE2.out]; rw [HD2.out] at hD; have HD9 := Aside0.mk hD; have HF9 := Aside0.mk (Fr.trans (Fr.of_below (ok := fun k => ok k ∨ k = gl) (below_drew HB.out)) (hfr.mono (fun k _ hk => .inl (by rcases hk with h | h; exact h.1; exact HFR.out k (Nat.le_trans HB.out.size h))))); have HGL9 := Aside0.mk (fr_gl hfr (fun hk => by rcases hk with h | h; exact HNG.out h.1; exact absurd h (Nat.not_le.2 (Nat.lt_of_lt_of_le HGLL.out HB.out.size))) (show (w6.drew).heap[gl]? = _ from HGL.out)); clear hD hfr; obtain ⟨y0, y1, y2, y3, y4⟩ := cells5v HGL9.out))
          go_wp2_with (first | ((with_reducible refine gate_dst (N := 39) rfl ?_); (try (refine gate_guard (by rfl) ?_; dsimp only)); refine goesL_ (some 39) rfl rfl Try.func26 (by kernel_rfl) rfl #[.pointer (some ⟨g, 0, none⟩)] rfl (by (try simp only [List.map_toArray, List.map_cons, List.map_nil]); first | done | rfl | (simp only [List.length_drop, List.length_take]; rfl)) ?_; refine (xsync g (fun k => (ok k ∧ k < w.heap.size) ∨ w6.heap.size ≤ k) D2 _ HD9.out (HG2.out.wf (by omega))).mono ?_; rintro e w10 ⟨rfl, hD, hfr⟩; refine ⟨_, rfl, ?_⟩; rw [HE3.out]; rw [HD3.out] at hD; have HD10 := Aside0.mk hD; have HF10 := Aside0.mk (Fr.trans HF9.out (hfr.mono (fun k _ hk => .inl (by rcases hk with h | h; exact h.1; exact HFR.out k (Nat.le_trans HB.out.size h))))); have HGL10 := Aside0.mk (fr_gl hfr (fun hk => by rcases hk with h | h; exact HNG.out h.1; exact absurd h (Nat.not_le.2 (Nat.lt_of_lt_of_le HGLL.out HB.out.size))) HGL9.out); clear hD hfr HF9 HD9 HGL9 y0 y1 y2 y3 y4; obtain ⟨y0, y1, y2, y3, y4⟩ := cells5v HGL10.out))
          go_ret
          exact ⟨rfl, HD10.out.mono (fun k hk => by rcases hk with h | h; exact h.1; exact HFR.out k (Nat.le_trans HB.out.size h)), HGL10.out, HF10.out⟩
      · have t5 : (e2 == 0) = false := beq_eq_false_iff_ne.2 k5
        have t3 : (e2 == 3) = false := beq_eq_false_iff_ne.2 k3
        obtain ⟨f1, f2, f3⟩ := ad_app KY.out (show D.appE sd (recp row) = e2 by rw [hb]; exact he2) k5 k3
        rw [f1, f2, f3, hb, hd2]
        clear f1 f2 f3 h hG hC hok hb k1 hL hLG hng hc he2 hd2 k3 k5
        go_enter Try.func41, Try.ntmps41
        go_wp2_with (first | ((with_reducible refine gate_dst (N := 10) rfl ?_); (try (refine gate_guard (by rfl) ?_; dsimp only)); refine goesL_ (some 10) rfl rfl Try.func32 (by kernel_rfl) rfl #[.slice A row.length c] rfl (by (try simp only [List.map_toArray, List.map_cons, List.map_nil]); first | done | rfl | (simp only [List.length_drop, List.length_take]; rfl)) ?_; refine (rput5 A c row _ (Kd.C_below HC.out HB.out) hc0 hrl).mono ?_; rintro e w6 ⟨v6, rfl, ho, hbl⟩; refine ⟨_, rfl, ?_⟩; rw [HOK.out]; rw [HSB.out] at ho; have HO := Aside0.mk (Kd.R_lower ho HB.out.size); have HB' := Aside0.mk (below_step HB.out hbl); clear HB hbl ho; have HB := HB'; clear HB'; obtain ⟨A6, c6, e6⟩ := Kd.R_slice HO.out; subst e6; have HGL' := Aside0.mk ((HB.out.block gl HGLL.out).trans HGL.out); clear HGL; have HGL := HGL'; clear HGL'; obtain ⟨z0, z1, z2, z3, z4⟩ := cells5v HGL.out))
        go_region_held (fun w' => w'.cell? ⟨gl, 0, none⟩ = some (.pointer (some ⟨g, 0, none⟩)) ∧ w'.cell? ⟨gl, 2, none⟩ = some (.int .i64 sd)) (first | exact ⟨z0, z2⟩ | exact ⟨y0, y2⟩) ((go_at_call 25; (refine (xapp g (fun k => (ok k ∧ k < w.heap.size) ∨ w6.heap.size ≤ k) D sd A6 c6 b _ ((HD.out.bound.below (below_drew HB.out)).mono (fun _ => .inl)) (HG.out.wf (by omega)) (Kd.C_drew (Kd.R_reads' HO.out).2.2) hbl2 (fun ad e hn hk => absurd (fresh_ne HO.out ad e hn) (by have := HGG.out; omega)) (fun k hk => .inr hk)).mono ?_); rintro e w9 ⟨rfl, hD, hfr⟩; rw [HE2.out]; rw [HD2.out] at hD; have HD9 := Aside0.mk hD; have HF9 := Aside0.mk (Fr.trans (Fr.of_below (ok := fun k => ok k ∨ k = gl) (below_drew HB.out)) (hfr.mono (fun k _ hk => .inl (by rcases hk with h | h; exact h.1; exact HFR.out k (Nat.le_trans HB.out.size h))))); have HGL9 := Aside0.mk (fr_gl hfr (fun hk => by rcases hk with h | h; exact HNG.out h.1; exact absurd h (Nat.not_le.2 (Nat.lt_of_lt_of_le HGLL.out HB.out.size))) (show (w6.drew).heap[gl]? = _ from HGL.out)); clear hD hfr; obtain ⟨y0, y1, y2, y3, y4⟩ := cells5v HGL9.out))
        go_wp2
        go_ret
        exact ⟨rfl, HD9.out.mono (fun k hk => by rcases hk with h | h; exact h.1; exact HFR.out k (Nat.le_trans HB.out.size h)), HGL9.out, HF9.out⟩
  · have HOK := Aside0.mk (show recok row = false from decide_eq_false k1)
    obtain ⟨f1, f2, f3⟩ := ad_no (D := D) (L := ⟨sd, gn, rows, st⟩) (row := row) (by unfold adOk; rw [HOK.out]; rfl)
    rw [f1, f2, f3]
    clear f1 f2 f3 h hG hC hok hb k1 hL hLG hng hc
    cases st <;> (go_enter Try.func41, Try.ntmps41; go_wp2_with (first | ((with_reducible refine gate_dst (N := 10) rfl ?_); (try (refine gate_guard (by rfl) ?_; dsimp only)); refine goesL_ (some 10) rfl rfl Try.func32 (by kernel_rfl) rfl #[.slice A row.length c] rfl (by (try simp only [List.map_toArray, List.map_cons, List.map_nil]); first | done | rfl | (simp only [List.length_drop, List.length_take]; rfl)) ?_; refine (rput5 A c row _ (Kd.C_below HC.out HB.out) hc0 hrl).mono ?_; rintro e w6 ⟨v6, rfl, ho, hbl⟩; refine ⟨_, rfl, ?_⟩; rw [HOK.out]; rw [HSB.out] at ho; have HO := Aside0.mk (Kd.R_lower ho HB.out.size); have HB' := Aside0.mk (below_step HB.out hbl); clear HB hbl ho; have HB := HB'; clear HB'; obtain ⟨A6, c6, e6⟩ := Kd.R_slice HO.out; subst e6; have HGL' := Aside0.mk ((HB.out.block gl HGLL.out).trans HGL.out); clear HGL; have HGL := HGL'; clear HGL'; obtain ⟨z0, z1, z2, z3, z4⟩ := cells5v HGL.out)); go_ret; exact ⟨rfl, HD.out.below HB.out, HGL.out, Fr.of_below HB.out⟩)
def lsavePost (w w' : World) (ok : Nat → Prop) (gl g : Nat) (E : Int) (D' : Dk) (L' : Lg) (e : Ending) : Prop := e = .returned (.int .i64 E) ∧ IsD w' ok g D' ∧ IsL w' gl g L' ∧ Fr (fun k => ok k ∨ k = gl) w w'
set_option maxHeartbeats 2000000 in
theorem lsave (g gl : Nat) (ok : Nat → Prop) (D : Dk) (L : Lg) (A : Option Addr) (c : Nat) (snap : List Int) (N : Int) (w : World) (h : IsD w ok g D) (hL : IsL w gl g L) (hng : ¬ ok gl) (hG : D.G N) (hN : N < 900000) (hLG : L.G 900000) (hC : Kd.C (Kd.int .u8) w A snap.length snap) (hl : snap.length ≤ 100000000) (hok : ∀ k, w.heap.size ≤ k → ok k) :
    Calls Try.prog 42 #[.pointer (some ⟨gl, 0, none⟩), .slice A snap.length c] w fun e w' => lsavePost w w' ok gl g (svE D (1 - L.side) (L.gen + 1) snap) (svD D (1 - L.side) (L.gen + 1) snap) (saL D L snap) e := by
  have HD := Aside0.mk h
  have HG := Aside0.mk hG
  have HC := Aside0.mk hC
  have HFR := Aside0.mk hok
  have HNG := Aside0.mk hng
  obtain ⟨sd, gn, rows, st⟩ := L
  have HGL := Aside0.mk (show w.heap[gl]? = some (.cells #[.pointer (some ⟨g, 0, none⟩), .int .i64 sd, .int .i64 gn, .int .i64 rows, .bool st] 89 (0, 0)) from hL)
  obtain ⟨z0, z1, z2, z3, z4⟩ := cells5v HGL.out
  have hsd : sd = 0 ∨ sd = 1 := hLG.1
  have hgn : 1 ≤ gn ∧ gn ≤ 4611686018427387904 := ⟨hLG.2.1, hLG.2.2.1⟩
  obtain ⟨ns, hns⟩ : ∃ ns, 1 - sd = ns := ⟨_, rfl⟩
  obtain ⟨ng, hng'⟩ : ∃ ng, gn + 1 = ng := ⟨_, rfl⟩
  have hng2 : -9223372036854775808 ≤ ng ∧ ng < 9223372036854775808 := by omega
  have wn : wrap64 (1 - sd) = ns := by rw [← hns]; unfold wrap64; omega
  have wg : wrap64 (gn + 1) = ng := by rw [← hng']; unfold wrap64; omega
  have wn2 : IntKind.i64.wrap (1 - sd) = ns := by rw [IntKind.wrap_i64]; omega
  have wg2 : IntKind.i64.wrap (gn + 1) = ng := by rw [IntKind.wrap_i64]; omega
  have HN2 := Aside0.mk hng2
  obtain ⟨e, he⟩ : ∃ e, svE D ns ng snap = e := ⟨_, rfl⟩
  have HE := Aside0.mk he
  have HSL := Aside0.mk (show saL D ⟨sd, gn, rows, st⟩ snap = if e = 0 then ⟨ns, ng, 0, false⟩ else ⟨sd, gn, rows, st⟩ by unfold saL; simp only [hns, hng', he])
  simp only [hns, hng']
  rw [HSL.out, he]
  clear h hG hC hok hL hLG hng he hsd hgn hng2 HSL hns hng'
  by_cases k1 : e = 0
  · subst k1
    rw [if_pos rfl]
    go_enter Try.func42, Try.ntmps42
    go_wp2_with fail
    go_region_held (fun w' => w'.cell? ⟨gl, 0, none⟩ = some (.pointer (some ⟨g, 0, none⟩)) ∧ w'.cell? ⟨gl, 1, none⟩ = some (.int .i64 sd) ∧ w'.cell? ⟨gl, 2, none⟩ = some (.int .i64 gn)) (first | exact ⟨z0, z1, z2⟩ | exact ⟨y0, y1, y2⟩) ((go_at_call 51; (refine (lsaves g ok D ns ng A c snap N _ (HD.out.below (below_drew (Below.refl _ _))) HG.out hN HN2.out (Kd.C_drew HC.out) hl HFR.out).mono ?_); rintro e w9 ⟨rfl, hD, hfr⟩; rw [HE.out]; have HD9 := Aside0.mk hD; have HF9 := Aside0.mk (Fr.trans (Fr.of_below (ok := fun k => ok k ∨ k = gl) (below_drew (Below.refl _ _))) (hfr.mono (fun k _ hk => .inl hk))); have HGL9 := Aside0.mk (fr_gl hfr HNG.out (show (w.drew).heap[gl]? = _ from HGL.out)); clear hD hfr; obtain ⟨y0, y1, y2, y3, y4⟩ := cells5v HGL9.out))
    go_wp2_with (first | (refine gate_store (t := 3) (p := 33) rfl ?_; (refine store_only rfl _ _ _ rfl gl 1 (.int .i64 ns) rfl rfl 89 _ (#[.pointer (some ⟨g, 0, none⟩), .int .i64 ns, .int .i64 gn, .int .i64 rows, .bool st]) HGL9.out (by kernel_rfl) (by simp) rfl rfl rfl ?_; intro u0 hGs hos; have HGS0 := Aside0.mk hGs; have HOS0 := Aside0.mk (hos); clear hGs hos; clear y0 y1 y2 y3 y4; obtain ⟨y0, y1, y2, y3, y4⟩ := cells5v HGS0.out)) | (refine gate_store (t := 3) (p := 35) rfl ?_; (refine store_only rfl _ _ _ rfl gl 3 (.int .i64 0) rfl rfl 89 _ (#[.pointer (some ⟨g, 0, none⟩), .int .i64 ns, .int .i64 gn, .int .i64 0, .bool st]) HGS0.out (by kernel_rfl) (by simp) rfl rfl rfl ?_; intro u1 hGs hos; have HGS1 := Aside0.mk hGs; have HOS1 := Aside0.mk (Only.trans HOS0.out hos); clear hGs hos; clear y0 y1 y2 y3 y4; obtain ⟨y0, y1, y2, y3, y4⟩ := cells5v HGS1.out)) | (refine gate_store (t := 4) (p := 37) rfl ?_; (refine store_only rfl _ _ _ rfl gl 4 (.bool false) rfl rfl 89 _ (#[.pointer (some ⟨g, 0, none⟩), .int .i64 ns, .int .i64 gn, .int .i64 0, .bool false]) HGS1.out (by kernel_rfl) (by simp) rfl rfl rfl ?_; intro u2 hGs hos; have HGS2 := Aside0.mk hGs; have HOS2 := Aside0.mk (Only.trans HOS1.out hos); clear hGs hos; clear y0 y1 y2 y3 y4; obtain ⟨y0, y1, y2, y3, y4⟩ := cells5v HGS2.out)) | (refine gate_store (t := 2) (p := 44) rfl ?_; (refine store_only rfl _ _ _ rfl gl 2 (.int .i64 ng) rfl rfl 89 _ (#[.pointer (some ⟨g, 0, none⟩), .int .i64 ns, .int .i64 ng, .int .i64 0, .bool false]) HGS2.out (by kernel_rfl) (by simp) rfl rfl rfl ?_; intro u3 hGs hos; have HGS3 := Aside0.mk hGs; have HOS3 := Aside0.mk (Only.trans HOS2.out hos); clear hGs hos; clear y0 y1 y2 y3 y4; obtain ⟨y0, y1, y2, y3, y4⟩ := cells5v HGS3.out)))
    go_ret
    exact ⟨rfl, HD9.out.move (fun k hk hl => HOS3.out.2.2.2.2 k (fun e => HNG.out (by rw [← e]; exact hk))), HGS3.out, Fr.trans HF9.out (HOS3.out.fr (.inr rfl))⟩
  · have t1 : (e == 0) = false := beq_eq_false_iff_ne.2 k1
    rw [if_neg k1]
    clear k1
    go_enter Try.func42, Try.ntmps42
    go_wp2_with fail
    go_region_held (fun w' => w'.cell? ⟨gl, 0, none⟩ = some (.pointer (some ⟨g, 0, none⟩)) ∧ w'.cell? ⟨gl, 1, none⟩ = some (.int .i64 sd) ∧ w'.cell? ⟨gl, 2, none⟩ = some (.int .i64 gn)) (first | exact ⟨z0, z1, z2⟩ | exact ⟨y0, y1, y2⟩) ((go_at_call 51; (refine (lsaves g ok D ns ng A c snap N _ (HD.out.below (below_drew (Below.refl _ _))) HG.out hN HN2.out (Kd.C_drew HC.out) hl HFR.out).mono ?_); rintro e w9 ⟨rfl, hD, hfr⟩; rw [HE.out]; have HD9 := Aside0.mk hD; have HF9 := Aside0.mk (Fr.trans (Fr.of_below (ok := fun k => ok k ∨ k = gl) (below_drew (Below.refl _ _))) (hfr.mono (fun k _ hk => .inl hk))); have HGL9 := Aside0.mk (fr_gl hfr HNG.out (show (w.drew).heap[gl]? = _ from HGL.out)); clear hD hfr; obtain ⟨y0, y1, y2, y3, y4⟩ := cells5v HGL9.out))
    go_wp2
    go_ret
    exact ⟨rfl, HD9.out, HGL9.out, HF9.out⟩
def xsaveLPost (w w' : World) (ok : Nat → Prop) (gl g : Nat) (E : Int) (D' : Dk) (L' : Lg) (e : Ending) : Prop := e = .returned (.int .i64 E) ∧ IsX w' ok g D' ∧ IsLX w' gl g L' ∧ Fr (fun k => ok k ∨ k = gl) w w'
set_option maxHeartbeats 2000000 in
theorem xsaveL (g gl : Nat) (ok : Nat → Prop) (D : Dk) (L : Lg) (A : Option Addr) (c : Nat) (snap : List Int) (N : Int) (w : World) (h : IsX w ok g D) (hL : IsLX w gl g L) (hng : ¬ ok gl) (hG : D.G N) (hN : N < 900000) (hLG : L.G 900000) (hC : Kd.C (Kd.int .u8) w A snap.length snap) (hl : snap.length ≤ 100000000) (hok : ∀ k, w.heap.size ≤ k → ok k) :
    Calls Try.prog 43 #[.pointer (some ⟨gl, 0, none⟩), .slice A snap.length c] w fun e w' => xsaveLPost w w' ok gl g (svE D (1 - L.side) (L.gen + 1) snap) (svD D (1 - L.side) (L.gen + 1) snap) (saL D L snap) e := by
  have HD := Aside0.mk h
  have HG := Aside0.mk hG
  have HC := Aside0.mk hC
  have HFR := Aside0.mk hok
  have HNG := Aside0.mk hng
  obtain ⟨sd, gn, rows, st⟩ := L
  have HGL := Aside0.mk (show w.heap[gl]? = some (.cells #[.pointer (some ⟨g, 0, none⟩), .int .i64 gn, .int .i64 sd, .int .i64 rows, .bool st] 92 (0, 0)) from hL)
  obtain ⟨z0, z1, z2, z3, z4⟩ := cells5v HGL.out
  have hsd : sd = 0 ∨ sd = 1 := hLG.1
  have hgn : 1 ≤ gn ∧ gn ≤ 4611686018427387904 := ⟨hLG.2.1, hLG.2.2.1⟩
  obtain ⟨ns, hns⟩ : ∃ ns, 1 - sd = ns := ⟨_, rfl⟩
  obtain ⟨ng, hng'⟩ : ∃ ng, gn + 1 = ng := ⟨_, rfl⟩
  have hng2 : -9223372036854775808 ≤ ng ∧ ng < 9223372036854775808 := by omega
  have wn : wrap64 (1 - sd) = ns := by rw [← hns]; unfold wrap64; omega
  have wg : wrap64 (gn + 1) = ng := by rw [← hng']; unfold wrap64; omega
  have wn2 : IntKind.i64.wrap (1 - sd) = ns := by rw [IntKind.wrap_i64]; omega
  have wg2 : IntKind.i64.wrap (gn + 1) = ng := by rw [IntKind.wrap_i64]; omega
  have HN2 := Aside0.mk hng2
  obtain ⟨e, he⟩ : ∃ e, svE D ns ng snap = e := ⟨_, rfl⟩
  have HE := Aside0.mk he
  have HSL := Aside0.mk (show saL D ⟨sd, gn, rows, st⟩ snap = if e = 0 then ⟨ns, ng, 0, false⟩ else ⟨sd, gn, rows, st⟩ by unfold saL; simp only [hns, hng', he])
  simp only [hns, hng']
  rw [HSL.out, he]
  clear h hG hC hok hL hLG hng he hsd hgn hng2 HSL hns hng'
  by_cases k1 : e = 0
  · subst k1
    rw [if_pos rfl]
    go_enter Try.func43, Try.ntmps43
    go_wp2_with fail
    go_region_held (fun w' => w'.cell? ⟨gl, 0, none⟩ = some (.pointer (some ⟨g, 0, none⟩)) ∧ w'.cell? ⟨gl, 2, none⟩ = some (.int .i64 sd) ∧ w'.cell? ⟨gl, 1, none⟩ = some (.int .i64 gn)) (first | exact ⟨z0, z2, z1⟩ | exact ⟨y0, y2, y1⟩) ((go_at_call 52; (refine (xsave g ok D ns ng A c snap N _ (HD.out.below (below_drew (Below.refl _ _))) HG.out hN HN2.out (Kd.C_drew HC.out) hl HFR.out).mono ?_); rintro e w9 ⟨rfl, hD, hfr⟩; rw [HE.out]; have HD9 := Aside0.mk hD; have HF9 := Aside0.mk (Fr.trans (Fr.of_below (ok := fun k => ok k ∨ k = gl) (below_drew (Below.refl _ _))) (hfr.mono (fun k _ hk => .inl hk))); have HGL9 := Aside0.mk (fr_gl hfr HNG.out (show (w.drew).heap[gl]? = _ from HGL.out)); clear hD hfr; obtain ⟨y0, y1, y2, y3, y4⟩ := cells5v HGL9.out))
    go_wp2_with (first | (refine gate_store (t := 2) (p := 30) rfl ?_; (refine store_only rfl _ _ _ rfl gl 1 (.int .i64 ng) rfl rfl 92 _ (#[.pointer (some ⟨g, 0, none⟩), .int .i64 ng, .int .i64 sd, .int .i64 rows, .bool st]) HGL9.out (by kernel_rfl) (by simp) rfl rfl rfl ?_; intro u0 hGs hos; have HGS0 := Aside0.mk hGs; have HOS0 := Aside0.mk (hos); clear hGs hos; clear y0 y1 y2 y3 y4; obtain ⟨y0, y1, y2, y3, y4⟩ := cells5v HGS0.out)) | (refine gate_store (t := 3) (p := 40) rfl ?_; (refine store_only rfl _ _ _ rfl gl 2 (.int .i64 ns) rfl rfl 92 _ (#[.pointer (some ⟨g, 0, none⟩), .int .i64 ng, .int .i64 ns, .int .i64 rows, .bool st]) HGS0.out (by kernel_rfl) (by simp) rfl rfl rfl ?_; intro u1 hGs hos; have HGS1 := Aside0.mk hGs; have HOS1 := Aside0.mk (Only.trans HOS0.out hos); clear hGs hos; clear y0 y1 y2 y3 y4; obtain ⟨y0, y1, y2, y3, y4⟩ := cells5v HGS1.out)) | (refine gate_store (t := 3) (p := 42) rfl ?_; (refine store_only rfl _ _ _ rfl gl 3 (.int .i64 0) rfl rfl 92 _ (#[.pointer (some ⟨g, 0, none⟩), .int .i64 ng, .int .i64 ns, .int .i64 0, .bool st]) HGS1.out (by kernel_rfl) (by simp) rfl rfl rfl ?_; intro u2 hGs hos; have HGS2 := Aside0.mk hGs; have HOS2 := Aside0.mk (Only.trans HOS1.out hos); clear hGs hos; clear y0 y1 y2 y3 y4; obtain ⟨y0, y1, y2, y3, y4⟩ := cells5v HGS2.out)) | (refine gate_store (t := 4) (p := 44) rfl ?_; (refine store_only rfl _ _ _ rfl gl 4 (.bool false) rfl rfl 92 _ (#[.pointer (some ⟨g, 0, none⟩), .int .i64 ng, .int .i64 ns, .int .i64 0, .bool false]) HGS2.out (by kernel_rfl) (by simp) rfl rfl rfl ?_; intro u3 hGs hos; have HGS3 := Aside0.mk hGs; have HOS3 := Aside0.mk (Only.trans HOS2.out hos); clear hGs hos; clear y0 y1 y2 y3 y4; obtain ⟨y0, y1, y2, y3, y4⟩ := cells5v HGS3.out)))
    go_ret
    exact ⟨rfl, HD9.out.move (fun k hk hl => HOS3.out.2.2.2.2 k (fun e => HNG.out (by rw [← e]; exact hk))), HGS3.out, Fr.trans HF9.out (HOS3.out.fr (.inr rfl))⟩
  · have t1 : (e == 0) = false := beq_eq_false_iff_ne.2 k1
    rw [if_neg k1]
    clear k1
    go_enter Try.func43, Try.ntmps43
    go_wp2_with fail
    go_region_held (fun w' => w'.cell? ⟨gl, 0, none⟩ = some (.pointer (some ⟨g, 0, none⟩)) ∧ w'.cell? ⟨gl, 2, none⟩ = some (.int .i64 sd) ∧ w'.cell? ⟨gl, 1, none⟩ = some (.int .i64 gn)) (first | exact ⟨z0, z2, z1⟩ | exact ⟨y0, y2, y1⟩) ((go_at_call 52; (refine (xsave g ok D ns ng A c snap N _ (HD.out.below (below_drew (Below.refl _ _))) HG.out hN HN2.out (Kd.C_drew HC.out) hl HFR.out).mono ?_); rintro e w9 ⟨rfl, hD, hfr⟩; rw [HE.out]; have HD9 := Aside0.mk hD; have HF9 := Aside0.mk (Fr.trans (Fr.of_below (ok := fun k => ok k ∨ k = gl) (below_drew (Below.refl _ _))) (hfr.mono (fun k _ hk => .inl hk))); have HGL9 := Aside0.mk (fr_gl hfr HNG.out (show (w.drew).heap[gl]? = _ from HGL.out)); clear hD hfr; obtain ⟨y0, y1, y2, y3, y4⟩ := cells5v HGL9.out))
    go_wp2
    go_ret
    exact ⟨rfl, HD9.out, HGL9.out, HF9.out⟩
theorem lrows (gl g : Nat) (L : Lg) (w : World) (hL : IsL w gl g L) : Calls Try.prog 44 #[.pointer (some ⟨gl, 0, none⟩)] w fun e w' => e = .returned (.int .i64 L.rows) ∧ Below w.heap.size w w' := by
  have HB := Aside0.mk (Below.refl w.heap.size w)
  obtain ⟨z0, z1, z2, z3, z4⟩ := cells5v (show w.heap[gl]? = some (.cells #[.pointer (some ⟨g, 0, none⟩), .int .i64 L.side, .int .i64 L.gen, .int .i64 L.rows, .bool L.stale] 89 (0, 0)) from hL)
  clear hL
  go_enter Try.func44, Try.ntmps44
  go_wp2
  go_ret
  exact ⟨rfl, HB.out⟩
end Go.Proofs.Ythaeppjhmjpecaa.B
