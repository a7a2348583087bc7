/- Snap: the readers: a row, a row of so many numbers, rows: walks. -/
import Derived.Test.YtpcfceodbemooaaS4
import Derived.Test.YtpcfceodbemooaaT0
namespace Go.Proofs.Ytpcfceodbemooaa.B
open Go.RowKit Go.Proofs.YtpcfceodbemooaaW.PrintWords Go.Proofs.YtpcfceodbemooaaW.PrintLast Go.Proofs.YtpcfceodbemooaaW.PrintMore Go.Proofs.Ytpcfceodbemooaa.PSnapBytes
attribute [local go_sem] max2_int min2_int max_two min_two max_three min_three max_four min_four
set_option linter.unusedVariables false
set_option linter.unusedSimpArgs false

set_option maxHeartbeats 1000000 in
theorem wnextP (A : Option Addr) (c : Nat) (l : List Int) (w : World) (hr : Kd.C (Kd.int .u8) w A l.length l) (hc : l.length ≤ c) (hb : IsB l) (hl : l.length ≤ 140737488351232) :
    Calls Try.prog 35 #[.slice A l.length c] w fun e w' => ∃ (v : Value) (A' : Option Addr) (c' : Nat), e = .returned (.tuple #[v, .slice A' (nextR l).length c', .bool (nextB l)]) ∧ Kd.R (Kd.int .i64) 2 w' w.heap.size (fun _ => True) v (nextL l) ∧ (∀ W0, Kd.C (Kd.int .u8) W0 A l.length l → Kd.C (Kd.int .u8) W0 A' (nextR l).length (nextR l)) ∧ (nextR l).length ≤ c' ∧ Below w.heap.size w w' := by
  have HR := Aside0.mk hr
  have HI := Aside0.mk hb
  have HC := Aside0.mk hc
  clear hr hb hc
  by_cases h8 : l.length < 8
  · have HB := Aside0.mk (nextB_short h8)
    have h8b : decide ((l.length : Int) < 8) = true := decide_eq_true (by omega)
    go_enter Try.func35, Try.ntmps35
    go_wp2
    go_ret3
    exact ⟨_, none, 0, by rw [HB.out, nextR_no HB.out]; rfl, by rw [nextL_no HB.out]; exact Kd.R_nil _ _ _ _ _, by rw [nextR_no HB.out]; exact fun _ _ => Kd.C_nil _ _, by rw [nextR_no HB.out]; exact Nat.le_refl _, Below.refl _ _⟩
  · have h8' : 8 ≤ l.length := by omega
    have h8b : decide ((l.length : Int) < 8) = false := decide_eq_false (by omega)
    have HB := Aside0.mk (Below.refl w.heap.size w)
    obtain ⟨x, hx, hxr, hxC, hxc⟩ := cutH (P := Try.prog) (Kd.int .u8) 31 5 Try.underlying31 info5 .i64 A c l 8 8 rfl h8' HC.out
    have hxl := Aside0.mk (show x.length = 8 by rw [hx.out, List.length_take]; omega)
    have hxd := Aside0.mk (show getl x = [nextN l] by rw [getl_yes (by rw [hxl.out]), gets_eight hxl.out, hx.out]; rfl)
    have hxo := Aside0.mk (show gerr x = 0 from gerr_yes (by rw [hxl.out]))
    have hxb := Aside0.mk (show IsB x by rw [hx.out]; exact HI.out.take _)
    obtain ⟨y, A2, c2, hy, hyr, hyC, hyc, hyB⟩ := cutL (P := Try.prog) (Kd.int .u8) 31 5 Try.underlying31 info5 .i64 A c l 8 8 rfl h8' HC.out
    have hyl := Aside0.mk (show y.length + 8 = l.length by rw [hy.out, List.length_drop]; omega)
    have hyl2 : y.length ≤ 140737488351232 := by have := hyl.out; omega
    obtain ⟨N, hN⟩ : ∃ N, N = nextN l := ⟨_, rfl⟩
    have HN := Aside0.mk hN
    rw [← hN] at hxd
    clear hN h8
    by_cases hneg : N < 0
    · have hB := Aside0.mk (nextB_neg (b := l) (by rw [← HN.out]; exact hneg))
      have hnb : decide (N < 0) = true := decide_eq_true hneg
      go_enter Try.func35, Try.ntmps35
      go_wp2_with (first | ((with_reducible refine gate_dst (N := 14) rfl ?_); (try (refine gate_guard (by rfl) ?_; dsimp only)); refine goesL_ (some 14) rfl rfl Try.func40 (by kernel_rfl) rfl #[.slice A x.length c] rfl (by (try simp only [List.map_toArray, List.map_cons, List.map_nil]); first | done | rfl | (simp only [List.length_drop, List.length_take]; rfl)) ?_; refine (wget A c x _ (hxC.out _ HR.out) hxc hxb.out (by have := hxl.out; omega)).mono ?_; rintro e w2 ⟨v2, rfl, ho, hbl⟩; refine ⟨_, rfl, ?_⟩; rw [hxd.out] at ho; have HO := Aside0.mk ho; have HB2 := Aside0.mk hbl; clear HB ho hbl; have HB := HB2; clear HB2; obtain ⟨A1, c1, e1⟩ := Kd.R_slice HO.out; subst e1; obtain ⟨ad, ea, hcell⟩ := Kd.at_int (Kd.R_reads' HO.out).2.2 0 (by omega) (by simp); cases ea; rw [show ((0 : Int)).toNat = 0 from rfl, Addr.add_zero', show rd [N] 0 = N from rfl] at hcell))
      go_ret3
      exact ⟨_, none, 0, by rw [hB.out, nextR_no hB.out]; rfl, by rw [nextL_no hB.out]; exact Kd.R_nil _ _ _ _ _, by rw [nextR_no hB.out]; exact fun _ _ => Kd.C_nil _ _, by rw [nextR_no hB.out]; exact Nat.le_refl _, HB.out⟩
    · have hN0 : 0 ≤ N := by omega
      have hnb : decide (N < 0) = false := decide_eq_false hneg
      clear hneg
      by_cases hbig : ((l.length - 8) / 8 : Nat) < N
      · have hB := Aside0.mk (nextB_big (b := l) (by rw [← HN.out]; exact hbig))
        have hnc : decide ((y.length : Int) / 8 < N) = true := decide_eq_true (by have := hyl.out; omega)
        go_enter Try.func35, Try.ntmps35
        go_wp2_with (first | ((with_reducible refine gate_dst (N := 14) rfl ?_); (try (refine gate_guard (by rfl) ?_; dsimp only)); refine goesL_ (some 14) rfl rfl Try.func40 (by kernel_rfl) rfl #[.slice A x.length c] rfl (by (try simp only [List.map_toArray, List.map_cons, List.map_nil]); first | done | rfl | (simp only [List.length_drop, List.length_take]; rfl)) ?_; refine (wget A c x _ (hxC.out _ HR.out) hxc hxb.out (by have := hxl.out; omega)).mono ?_; rintro e w2 ⟨v2, rfl, ho, hbl⟩; refine ⟨_, rfl, ?_⟩; rw [hxd.out] at ho; have HO := Aside0.mk ho; have HB2 := Aside0.mk hbl; clear HB ho hbl; have HB := HB2; clear HB2; obtain ⟨A1, c1, e1⟩ := Kd.R_slice HO.out; subst e1; obtain ⟨ad, ea, hcell⟩ := Kd.at_int (Kd.R_reads' HO.out).2.2 0 (by omega) (by simp); cases ea; rw [show ((0 : Int)).toNat = 0 from rfl, Addr.add_zero', show rd [N] 0 = N from rfl] at hcell))
        go_ret3
        exact ⟨_, none, 0, by rw [hB.out, nextR_no hB.out]; rfl, by rw [nextL_no hB.out]; exact Kd.R_nil _ _ _ _ _, by rw [nextR_no hB.out]; exact fun _ _ => Kd.C_nil _ _, by rw [nextR_no hB.out]; exact Nat.le_refl _, HB.out⟩
      · have hN1 : N ≤ (y.length : Int) / 8 := by have := hyl.out; omega
        have hN2 : N ≤ 17592186043904 := by have := hyl.out; omega
        have hB := Aside0.mk (nextB_yes (b := l) h8' (by rw [← HN.out]; exact hN0) (by rw [← HN.out]; omega))
        have hnc : decide ((y.length : Int) / 8 < N) = false := decide_eq_false (by omega)
        clear hbig
        obtain ⟨u, hu, hur, huC, huc⟩ := cutH (P := Try.prog) (Kd.int .u8) 31 5 Try.underlying31 info5 .i64 A2 c2 y (8 * N) (8 * N.toNat) (by omega) (by omega) hyc
        obtain ⟨z, A4, c4, hz, hzr, hzC, hzc, hzB⟩ := cutL (P := Try.prog) (Kd.int .u8) 31 5 Try.underlying31 info5 .i64 A2 c2 y (8 * N) (8 * N.toNat) (by omega) (by omega) hyc
        have hul := Aside0.mk (show u.length % 8 = 0 by rw [hu.out, List.length_take]; have := hyl.out; omega)
        have hul2 := Aside0.mk (show u.length ≤ y.length by rw [hu.out, List.length_take]; omega)
        have hub := Aside0.mk (show IsB u by rw [hu.out, hy.out]; exact (HI.out.drop _).take _)
        have hud := Aside0.mk (show getl u = nextL l by rw [getl_yes hul.out, nextL, hB.out, if_pos rfl, hu.out, hy.out, HN.out])
        have hzd := Aside0.mk (show z = nextR l by rw [nextR, hB.out, if_pos rfl, hz.out, hy.out, List.drop_drop, HN.out])
        go_enter Try.func35, Try.ntmps35
        go_wp2_with (first | ((with_reducible refine gate_dst (N := 14) rfl ?_); (try (refine gate_guard (by rfl) ?_; dsimp only)); refine goesL_ (some 14) rfl rfl Try.func40 (by kernel_rfl) rfl #[.slice A x.length c] rfl (by (try simp only [List.map_toArray, List.map_cons, List.map_nil]); first | done | rfl | (simp only [List.length_drop, List.length_take]; rfl)) ?_; refine (wget A c x _ (hxC.out _ HR.out) hxc hxb.out (by have := hxl.out; omega)).mono ?_; rintro e w2 ⟨v2, rfl, ho, hbl⟩; refine ⟨_, rfl, ?_⟩; rw [hxd.out] at ho; have HO := Aside0.mk ho; have HB2 := Aside0.mk hbl; clear HB ho hbl; have HB := HB2; clear HB2; obtain ⟨A1, c1, e1⟩ := Kd.R_slice HO.out; subst e1; obtain ⟨ad, ea, hcell⟩ := Kd.at_int (Kd.R_reads' HO.out).2.2 0 (by omega) (by simp); cases ea; rw [show ((0 : Int)).toNat = 0 from rfl, Addr.add_zero', show rd [N] 0 = N from rfl] at hcell) | ((with_reducible refine gate_dst (N := 40) rfl ?_); (try (refine gate_guard (by rfl) ?_; dsimp only)); refine goesL_ (some 40) rfl rfl Try.func40 (by kernel_rfl) rfl #[.slice A2 u.length c2] rfl (by (try simp only [List.map_toArray, List.map_cons, List.map_nil]); first | done | rfl | (simp only [List.length_drop, List.length_take]; rfl)) ?_; refine (wget A2 c2 u _ (huC.out _ (hyC.out _ (Kd.C_below HR.out HB.out))) huc hub.out (by have := hul2.out; have := hyl.out; omega)).mono ?_; rintro e w3 ⟨v3, rfl, ho, hbl⟩; refine ⟨_, rfl, ?_⟩; rw [hud.out] at ho; have HO3 := Aside0.mk (Kd.R_lower ho HB.out.size); have HB2 := Aside0.mk (below_step HB.out hbl); have HO4 := Aside0.mk (Kd.R_below HO.out hbl); clear HB ho hbl HO hcell; have HB := HB2; have HO := HO4; clear HB2 HO4))
        go_quiet (fail)
        go_wp2
        go_ret3
        exact ⟨_, A4, c4, by rw [hB.out, ← hzd.out]; rfl, Kd.R_drewN HO3.out _, by rw [← hzd.out]; exact fun W0 h0 => hzC.out _ (hyC.out _ h0), by rw [← hzd.out]; exact hzc, pw_below_drewN HB.out _⟩

set_option maxHeartbeats 1000000 in
theorem next2P (A : Option Addr) (c : Nat) (l : List Int) (w : World) (hr : Kd.C (Kd.int .u8) w A l.length l) (hc : l.length ≤ c) (hb : IsB l) (hl : l.length ≤ 140737488351232) :
    Calls Try.prog 38 #[.slice A l.length c] w fun e w' => ∃ (v : Value) (A' : Option Addr) (c' : Nat), e = .returned (.tuple #[v, .slice A' (nextR l).length c', .bool (nextB l)]) ∧ Kd.R (Kd.int .i64) 2 w' w.heap.size (fun _ => True) v (nextL l) ∧ (∀ W0, Kd.C (Kd.int .u8) W0 A l.length l → Kd.C (Kd.int .u8) W0 A' (nextR l).length (nextR l)) ∧ (nextR l).length ≤ c' ∧ Below w.heap.size w w' := by
  have HR := Aside0.mk hr
  have HI := Aside0.mk hb
  have HC := Aside0.mk hc
  clear hr hb hc
  by_cases h8 : l.length < 8
  · have HB := Aside0.mk (nextB_short h8)
    have h8b : decide ((l.length : Int) < 8) = true := decide_eq_true (by omega)
    go_enter Try.func38, Try.ntmps38
    go_wp2
    go_ret3
    exact ⟨_, none, 0, by rw [HB.out, nextR_no HB.out]; rfl, by rw [nextL_no HB.out]; exact Kd.R_nil _ _ _ _ _, by rw [nextR_no HB.out]; exact fun _ _ => Kd.C_nil _ _, by rw [nextR_no HB.out]; exact Nat.le_refl _, Below.refl _ _⟩
  · have h8' : 8 ≤ l.length := by omega
    have h8b : decide ((l.length : Int) < 8) = false := decide_eq_false (by omega)
    have HB := Aside0.mk (Below.refl w.heap.size w)
    obtain ⟨x, hx, hxr, hxC, hxc⟩ := cutH (P := Try.prog) (Kd.int .u8) 31 5 Try.underlying31 info5 .i64 A c l 8 8 rfl h8' HC.out
    have hxl := Aside0.mk (show x.length = 8 by rw [hx.out, List.length_take]; omega)
    have hxb := Aside0.mk (show IsB x by rw [hx.out]; exact HI.out.take _)
    obtain ⟨N, hN⟩ : ∃ N, N = nextN l := ⟨_, rfl⟩
    have HN := Aside0.mk hN
    have hxd := Aside0.mk (show dec8 x = N by rw [hN, hx.out]; rfl)
    clear hN h8
    by_cases hneg : N < 0
    · have hB := Aside0.mk (nextB_neg (b := l) (by rw [← HN.out]; exact hneg))
      have hnb : decide (N < 0) = true := decide_eq_true hneg
      go_enter Try.func38, Try.ntmps38
      go_wp2_with (first | ((with_reducible refine gate_dst (N := 13) rfl ?_); (try (refine gate_guard (by rfl) ?_; dsimp only)); refine goesL_ (some 13) rfl rfl Try.func41 (by kernel_rfl) rfl #[.slice A x.length c] rfl (by (try simp only [List.map_toArray, List.map_cons, List.map_nil]); first | done | rfl | (simp only [List.length_drop, List.length_take]; rfl)) ?_; refine (one2 A c x _ (hxC.out _ HR.out) hxb.out hxl.out).mono ?_; rintro e w2 ⟨rfl, ⟨m1, rfl⟩⟩; refine ⟨_, rfl, ?_⟩; rw [hxd.out]; have HB2 := Aside0.mk (pw_below_drewN HB.out m1); clear HB; have HB := HB2; clear HB2))
      go_ret3
      exact ⟨_, none, 0, by rw [hB.out, nextR_no hB.out]; rfl, by rw [nextL_no hB.out]; exact Kd.R_nil _ _ _ _ _, by rw [nextR_no hB.out]; exact fun _ _ => Kd.C_nil _ _, by rw [nextR_no hB.out]; exact Nat.le_refl _, HB.out⟩
    · have hN0 : 0 ≤ N := by omega
      have hnb : decide (N < 0) = false := decide_eq_false hneg
      clear hneg
      by_cases hbig : ((l.length - 8) / 8 : Nat) < N
      · have hB := Aside0.mk (nextB_big (b := l) (by rw [← HN.out]; exact hbig))
        have hnc : decide (((l.length : Int) - 8) / 8 < N) = true := decide_eq_true (by omega)
        clear hbig
        go_enter Try.func38, Try.ntmps38
        go_wp2_with (first | ((with_reducible refine gate_dst (N := 13) rfl ?_); (try (refine gate_guard (by rfl) ?_; dsimp only)); refine goesL_ (some 13) rfl rfl Try.func41 (by kernel_rfl) rfl #[.slice A x.length c] rfl (by (try simp only [List.map_toArray, List.map_cons, List.map_nil]); first | done | rfl | (simp only [List.length_drop, List.length_take]; rfl)) ?_; refine (one2 A c x _ (hxC.out _ HR.out) hxb.out hxl.out).mono ?_; rintro e w2 ⟨rfl, ⟨m1, rfl⟩⟩; refine ⟨_, rfl, ?_⟩; rw [hxd.out]; have HB2 := Aside0.mk (pw_below_drewN HB.out m1); clear HB; have HB := HB2; clear HB2))
        go_ret3
        exact ⟨_, none, 0, by rw [hB.out, nextR_no hB.out]; rfl, by rw [nextL_no hB.out]; exact Kd.R_nil _ _ _ _ _, by rw [nextR_no hB.out]; exact fun _ _ => Kd.C_nil _ _, by rw [nextR_no hB.out]; exact Nat.le_refl _, HB.out⟩
      · have hN1 : N ≤ ((l.length : Int) - 8) / 8 := by omega
        have hB := Aside0.mk (nextB_yes (b := l) h8' (by rw [← HN.out]; exact hN0) (by rw [← HN.out]; omega))
        have hnc : decide (((l.length : Int) - 8) / 8 < N) = false := decide_eq_false (by omega)
        have hN2 : N ≤ 17592186043904 := by omega
        clear hbig
        obtain ⟨u, A2, c2, hu, hur, huC, huc, huB⟩ := cutM (P := Try.prog) (Kd.int .u8) 31 5 Try.underlying31 info5 .i64 .i64 A c l 8 (8 + 8 * N) 8 (8 + 8 * N.toNat) (by omega) (by omega) (by omega) (by omega) HC.out
        obtain ⟨z, A4, c4, hz, hzr, hzC, hzc, hzB⟩ := cutL (P := Try.prog) (Kd.int .u8) 31 5 Try.underlying31 info5 .i64 A c l (8 + 8 * N) (8 + 8 * N.toNat) (by omega) (by omega) HC.out
        have hul := Aside0.mk (show u.length % 8 = 0 by rw [hu.out, List.length_drop, List.length_take]; omega)
        have hul2 := Aside0.mk (show u.length ≤ l.length by rw [hu.out, List.length_drop, List.length_take]; omega)
        have hub := Aside0.mk (show IsB u by rw [hu.out]; exact (HI.out.take _).drop _)
        have hud := Aside0.mk (show getl u = nextL l by rw [getl_yes hul.out, nextL, hB.out, if_pos rfl, hu.out, HN.out, List.drop_take]; congr 2; omega)
        have hzd := Aside0.mk (show z = nextR l by rw [nextR, hB.out, if_pos rfl, hz.out, HN.out])
        go_enter Try.func38, Try.ntmps38
        go_wp2_with (first | ((with_reducible refine gate_dst (N := 13) rfl ?_); (try (refine gate_guard (by rfl) ?_; dsimp only)); refine goesL_ (some 13) rfl rfl Try.func41 (by kernel_rfl) rfl #[.slice A x.length c] rfl (by (try simp only [List.map_toArray, List.map_cons, List.map_nil]); first | done | rfl | (simp only [List.length_drop, List.length_take]; rfl)) ?_; refine (one2 A c x _ (hxC.out _ HR.out) hxb.out hxl.out).mono ?_; rintro e w2 ⟨rfl, ⟨m1, rfl⟩⟩; refine ⟨_, rfl, ?_⟩; rw [hxd.out]; have HB2 := Aside0.mk (pw_below_drewN HB.out m1); clear HB; have HB := HB2; clear HB2) | ((with_reducible refine gate_dst (N := 30) rfl ?_); (try (refine gate_guard (by rfl) ?_; dsimp only)); refine goesL_ (some 30) rfl rfl Try.func42 (by kernel_rfl) rfl #[.slice A2 u.length c2] rfl (by (try simp only [List.map_toArray, List.map_cons, List.map_nil]); first | done | rfl | (simp only [List.length_drop, List.length_take]; rfl)) ?_; refine (get2 A2 c2 u _ (huC.out _ (Kd.C_below HR.out HB.out)) huc hub.out (by have := hul2.out; omega)).mono ?_; rintro e w3 ⟨v3, rfl, ho, hbl⟩; refine ⟨_, rfl, ?_⟩; rw [hud.out] at ho; have HO3 := Aside0.mk (Kd.R_lower ho HB.out.size); have HB2 := Aside0.mk (below_step HB.out hbl); clear HB ho hbl; have HB := HB2; clear HB2))
        go_quiet (fail)
        go_wp2
        go_ret3
        exact ⟨_, A4, c4, by rw [hB.out, ← hzd.out]; rfl, Kd.R_drewN HO3.out _, by rw [← hzd.out]; exact fun W0 h0 => hzC.out _ h0, by rw [← hzd.out]; exact hzc, pw_below_drewN HB.out _⟩

theorem cells2 {W : World} {g t : Nat} {a0 a1 : Value} (h : W.heap[g]? = some (.cells #[a0, a1] t (0, 0))) : W.cell? ⟨g, 0, none⟩ = some a0 ∧ W.cell? ⟨g, 1, none⟩ = some a1 ∧ W.frozen? ⟨g, 0, none⟩ = false ∧ W.frozen? ⟨g, 1, none⟩ = false := ⟨(blk_cell h 0).trans rfl, (blk_cell h 1).trans rfl, blk_frozen h 0, blk_frozen h 1⟩
theorem set2_0 {W : World} {g t : Nat} {a0 a1 : Value} (h : W.heap[g]? = some (.cells #[a0, a1] t (0, 0))) (u : Value) : (W.setCell ⟨g, 0, none⟩ u).heap[g]? = some (.cells #[u, a1] t (0, 0)) := by
  rw [blk_set h 0 u]
  rfl
theorem set2_1 {W : World} {g t : Nat} {a0 a1 : Value} (h : W.heap[g]? = some (.cells #[a0, a1] t (0, 0))) (u : Value) : (W.setCell ⟨g, 1, none⟩ u).heap[g]? = some (.cells #[a0, u] t (0, 0)) := by
  rw [blk_set h 1 u]
  rfl
/-- A reader: bytes that are left, and a flag; the bytes lie in what was there ahead. -/
structure RB (ty : Nat) (w0 W : World) (g : Nat) (b : List Int) (fl : Bool) : Prop where
  mk ::
  blk : ∃ A c, W.heap[g]? = some (.cells #[.slice A b.length c, .bool fl] ty (0, 0)) ∧ Kd.C (Kd.int .u8) w0 A b.length b ∧ b.length ≤ c
  by_ : IsB b
  len : b.length ≤ 140737488351232
  ge : w0.heap.size ≤ g
  base : Below w0.heap.size w0 W
/-- What is changed behind a reader's block, or new. -/
def Fg (g : Nat) (W W' : World) : Prop := Fr (fun k => k = g) W W'
theorem R_fg {α : Type} {d : Kd α} {e B : Nat} {ok : Nat → Prop} {W W' : World} {v : Value} {xs : List α} {g : Nat} (h : d.R e W B ok v xs) (hf : Fg g W W') (hg : g < B) : d.R e W' B ok v xs :=
  Kd.R_mono (Kd.R_step (Kd.R_bound h) (fun k hk hlt => hf.2.2.2.2 k hlt (fun e => by have := hk.2.1; omega))) (fun k hk => hk.1)
theorem RB.lt {ty : Nat} {w0 W : World} {g : Nat} {b : List Int} {fl : Bool} (h : RB ty w0 W g b fl) : g < W.heap.size := by
  obtain ⟨⟨A, c, h1, _⟩, _⟩ := h
  exact blk_lt h1
theorem RB.below {ty : Nat} {w0 W W' : World} {g : Nat} {b : List Int} {fl : Bool} (h : RB ty w0 W g b fl) (hb : Below W.heap.size W W') : RB ty w0 W' g b fl := by
  obtain ⟨⟨A, c, h1, h2, h3⟩, h4, h5, h6, h7⟩ := h
  exact ⟨⟨A, c, blk_below h1 hb, h2, h3⟩, h4, h5, h6, below_step h7 hb⟩
theorem RB.fr {ty : Nat} {w0 W W' : World} {g : Nat} {b : List Int} {fl : Bool} {ok : Nat → Prop} (h : RB ty w0 W g b fl) (hf : Fr ok W W') (hg : ¬ ok g) (hok : ∀ k, ok k → w0.heap.size ≤ k) : RB ty w0 W' g b fl := by
  obtain ⟨⟨A, c, h1, h2, h3⟩, h4, h5, h6, h7⟩ := h
  exact ⟨⟨A, c, (hf.2.2.2.2 g (blk_lt h1) hg).trans h1, h2, h3⟩, h4, h5, h6, hf.below' h7 hok⟩
theorem nextR_len (b : List Int) : (nextR b).length ≤ b.length := by
  unfold nextR
  split
  · rw [List.length_drop]; omega
  · exact Nat.zero_le _
/-- So many numbers, or zeros. -/
def jsL (n : Nat) (b : List Int) : List Int := if (nextL b).length = n then nextL b else List.replicate n 0
def jsB (n : Nat) (b : List Int) (bad : Bool) : Bool := if (nextL b).length = n then (bad || !nextB b) else true
theorem jsL_len (n : Nat) (b : List Int) : (jsL n b).length = n := by unfold jsL; split; assumption; exact List.length_replicate ..
theorem nextL_len (b : List Int) : (nextL b).length ≤ b.length := by
  unfold nextL
  split
  · unfold gets
    rw [getn_length]
    have : ((b.drop 8).take (8 * (nextN b).toNat)).length ≤ b.length := by rw [List.length_take, List.length_drop]; omega
    omega
  · exact Nat.zero_le _
/-- Rows, one behind the other, while all is well: at most f. -/
def its {α : Type} (rd : List Int → α) (bd : List Int → Bool → Bool) : Nat → Int → List Int → Bool → List α × List Int × Bool
  | 0, _, b, bad => ([], b, bad)
  | f + 1, n, b, bad => if 0 < n ∧ bad = false then (rd b :: (its rd bd f (n - 1) (nextR b) (bd b bad)).1, (its rd bd f (n - 1) (nextR b) (bd b bad)).2) else ([], b, bad)
theorem its_go {α : Type} (rd : List Int → α) (bd : List Int → Bool → Bool) {f : Nat} {n : Int} {b : List Int} {bad : Bool} (h : 0 < n) (h2 : bad = false) : its rd bd (f + 1) n b bad = (rd b :: (its rd bd f (n - 1) (nextR b) (bd b bad)).1, (its rd bd f (n - 1) (nextR b) (bd b bad)).2) := by
  simp only [its]; rw [if_pos ⟨h, h2⟩]
theorem its_end {α : Type} (rd : List Int → α) (bd : List Int → Bool → Bool) {f : Nat} {n : Int} {b : List Int} {bad : Bool} (h : ¬ (0 < n ∧ bad = false)) : its rd bd (f + 1) n b bad = ([], b, bad) := by
  simp only [its]; rw [if_neg h]
def rowB (b : List Int) (bad : Bool) : Bool := bad || !nextB b
/-- Is there fuel? -/
def Fz (f : Nat) (b : List Int) (bad : Bool) : Prop := 1 ≤ f ∧ (bad = false → b.length + 2 ≤ f)
theorem nextR_less {b : List Int} (h : nextB b = true) : (nextR b).length + 8 ≤ b.length := by
  have h0 := h
  unfold nextB at h0
  simp only [Bool.and_eq_true, decide_eq_true_iff] at h0
  unfold nextR
  rw [if_pos h, List.length_drop]
  omega
theorem Fz.step {f : Nat} {b : List Int} {bad bad' : Bool} (h : Fz (f + 1) b bad) (hb : bad = false) (hs : bad' = false → nextB b = true) : Fz f (nextR b) bad' := by
  have h2 := h.2 hb
  refine ⟨by omega, fun h3 => ?_⟩
  have := nextR_less (hs h3)
  omega
theorem rowB_ok {b : List Int} {bad : Bool} (h : rowB b bad = false) : nextB b = true := by
  unfold rowB at h
  cases hn : nextB b
  · rw [hn] at h; cases bad <;> cases h
  · rfl
theorem jsB_ok {n : Nat} {b : List Int} {bad : Bool} (h : jsB n b bad = false) : nextB b = true := by
  unfold jsB at h
  split at h
  · exact rowB_ok h
  · cases h

set_option maxHeartbeats 2000000 in
theorem sRow (w0 : World) (g : Nat) (b : List Int) (bad : Bool) (w : World) (h : RB 47 w0 w g b bad) :
    Calls Try.prog 19 #[.pointer (some ⟨g, 0, none⟩)] w fun e w' => ∃ v : Value, e = .returned v ∧ Kd.R (Kd.int .i64) 2 w' w.heap.size (fun _ => True) v (nextL b) ∧ RB 47 w0 w' g (nextR b) (rowB b bad) ∧ Fg g w w' := by
  obtain ⟨⟨A, c, hG, hC, hc⟩, hI, hl, hge, hB⟩ := h
  have HG := Aside0.mk hG
  have HC := Aside0.mk hC
  have HI := Aside0.mk hI
  have HBB := Aside0.mk hB
  obtain ⟨z0, z1, zf0, zf1⟩ := cells2 HG.out
  have hlt := blk_lt hG
  clear hG hC hI hB
  obtain ⟨nb, hnb⟩ : ∃ nb, nextB b = nb := ⟨_, rfl⟩
  rw [show rowB b bad = (bad || !nb) by unfold rowB; rw [hnb]]
  have HN := Aside0.mk hnb
  clear hnb
  cases bad
  · cases nb
    · go_enter Try.func19, Try.ntmps19
      go_wp2_with (first | ((with_reducible refine gate_dst (N := 11) rfl ?_); (try (refine gate_guard (by rfl) ?_; dsimp only)); refine goesL_ (some 11) rfl rfl Try.func35 (by kernel_rfl) rfl #[.slice A b.length c] rfl (by (try simp only [List.map_toArray, List.map_cons, List.map_nil]); first | done | rfl | (simp only [List.length_drop, List.length_take]; rfl)) ?_; refine (wnextP A c b _ (Kd.C_below HC.out HBB.out) hc HI.out (by omega)).mono ?_; rintro e w2 ⟨v2, A2, c2, rfl, ho, hC2, hc2, hbl⟩; refine ⟨_, rfl, ?_⟩; rw [HN.out]; have HO := Aside0.mk ho; have HC2 := Aside0.mk (hC2 _ HC.out); have HG2 := Aside0.mk (blk_below HG.out hbl); have HB2 := Aside0.mk hbl; clear ho hC2 hbl HG z0 z1 zf0 zf1; obtain ⟨z0, z1, zf0, zf1⟩ := cells2 HG2.out))
      go_ret
      have hF : Fg g w2 ((w2.setCell ⟨g, 0, none⟩ (.slice A2 (nextR b).length c2)).setCell ⟨g, 1, none⟩ (.bool true)) := Only.fr (Only.trans (Only.set g 0 w2 _) (Only.set g 1 _ _)) rfl
      have hF2 : Fg g w ((w2.setCell ⟨g, 0, none⟩ (.slice A2 (nextR b).length c2)).setCell ⟨g, 1, none⟩ (.bool true)) := Fr.trans (Fr.of_below HB2.out) hF
      exact ⟨_, rfl, R_fg HO.out hF hlt, ⟨⟨A2, c2, set2_1 (set2_0 HG2.out _) _, HC2.out, hc2⟩, nextR_bytes HI.out, Nat.le_trans (nextR_len b) hl, hge, Fr.below' hF2 HBB.out (fun k hk => by rw [hk]; exact hge)⟩, hF2⟩
    · go_enter Try.func19, Try.ntmps19
      go_wp2_with (first | ((with_reducible refine gate_dst (N := 11) rfl ?_); (try (refine gate_guard (by rfl) ?_; dsimp only)); refine goesL_ (some 11) rfl rfl Try.func35 (by kernel_rfl) rfl #[.slice A b.length c] rfl (by (try simp only [List.map_toArray, List.map_cons, List.map_nil]); first | done | rfl | (simp only [List.length_drop, List.length_take]; rfl)) ?_; refine (wnextP A c b _ (Kd.C_below HC.out HBB.out) hc HI.out (by omega)).mono ?_; rintro e w2 ⟨v2, A2, c2, rfl, ho, hC2, hc2, hbl⟩; refine ⟨_, rfl, ?_⟩; rw [HN.out]; have HO := Aside0.mk ho; have HC2 := Aside0.mk (hC2 _ HC.out); have HG2 := Aside0.mk (blk_below HG.out hbl); have HB2 := Aside0.mk hbl; clear ho hC2 hbl HG z0 z1 zf0 zf1; obtain ⟨z0, z1, zf0, zf1⟩ := cells2 HG2.out))
      go_ret
      have hF : Fg g w2 ((w2.setCell ⟨g, 0, none⟩ (.slice A2 (nextR b).length c2)).setCell ⟨g, 1, none⟩ (.bool false)) := Only.fr (Only.trans (Only.set g 0 w2 _) (Only.set g 1 _ _)) rfl
      have hF2 : Fg g w ((w2.setCell ⟨g, 0, none⟩ (.slice A2 (nextR b).length c2)).setCell ⟨g, 1, none⟩ (.bool false)) := Fr.trans (Fr.of_below HB2.out) hF
      exact ⟨_, rfl, R_fg HO.out hF hlt, ⟨⟨A2, c2, set2_1 (set2_0 HG2.out _) _, HC2.out, hc2⟩, nextR_bytes HI.out, Nat.le_trans (nextR_len b) hl, hge, Fr.below' hF2 HBB.out (fun k hk => by rw [hk]; exact hge)⟩, hF2⟩
  · cases nb
    · go_enter Try.func19, Try.ntmps19
      go_wp2_with (first | ((with_reducible refine gate_dst (N := 11) rfl ?_); (try (refine gate_guard (by rfl) ?_; dsimp only)); refine goesL_ (some 11) rfl rfl Try.func35 (by kernel_rfl) rfl #[.slice A b.length c] rfl (by (try simp only [List.map_toArray, List.map_cons, List.map_nil]); first | done | rfl | (simp only [List.length_drop, List.length_take]; rfl)) ?_; refine (wnextP A c b _ (Kd.C_below HC.out HBB.out) hc HI.out (by omega)).mono ?_; rintro e w2 ⟨v2, A2, c2, rfl, ho, hC2, hc2, hbl⟩; refine ⟨_, rfl, ?_⟩; rw [HN.out]; have HO := Aside0.mk ho; have HC2 := Aside0.mk (hC2 _ HC.out); have HG2 := Aside0.mk (blk_below HG.out hbl); have HB2 := Aside0.mk hbl; clear ho hC2 hbl HG z0 z1 zf0 zf1; obtain ⟨z0, z1, zf0, zf1⟩ := cells2 HG2.out))
      go_ret
      have hF : Fg g w2 ((w2.setCell ⟨g, 0, none⟩ (.slice A2 (nextR b).length c2)).setCell ⟨g, 1, none⟩ (.bool true)) := Only.fr (Only.trans (Only.set g 0 w2 _) (Only.set g 1 _ _)) rfl
      have hF2 : Fg g w ((w2.setCell ⟨g, 0, none⟩ (.slice A2 (nextR b).length c2)).setCell ⟨g, 1, none⟩ (.bool true)) := Fr.trans (Fr.of_below HB2.out) hF
      exact ⟨_, rfl, R_fg HO.out hF hlt, ⟨⟨A2, c2, set2_1 (set2_0 HG2.out _) _, HC2.out, hc2⟩, nextR_bytes HI.out, Nat.le_trans (nextR_len b) hl, hge, Fr.below' hF2 HBB.out (fun k hk => by rw [hk]; exact hge)⟩, hF2⟩
    · go_enter Try.func19, Try.ntmps19
      go_wp2_with (first | ((with_reducible refine gate_dst (N := 11) rfl ?_); (try (refine gate_guard (by rfl) ?_; dsimp only)); refine goesL_ (some 11) rfl rfl Try.func35 (by kernel_rfl) rfl #[.slice A b.length c] rfl (by (try simp only [List.map_toArray, List.map_cons, List.map_nil]); first | done | rfl | (simp only [List.length_drop, List.length_take]; rfl)) ?_; refine (wnextP A c b _ (Kd.C_below HC.out HBB.out) hc HI.out (by omega)).mono ?_; rintro e w2 ⟨v2, A2, c2, rfl, ho, hC2, hc2, hbl⟩; refine ⟨_, rfl, ?_⟩; rw [HN.out]; have HO := Aside0.mk ho; have HC2 := Aside0.mk (hC2 _ HC.out); have HG2 := Aside0.mk (blk_below HG.out hbl); have HB2 := Aside0.mk hbl; clear ho hC2 hbl HG z0 z1 zf0 zf1; obtain ⟨z0, z1, zf0, zf1⟩ := cells2 HG2.out))
      go_ret
      have hF : Fg g w2 ((w2.setCell ⟨g, 0, none⟩ (.slice A2 (nextR b).length c2)).setCell ⟨g, 1, none⟩ (.bool true)) := Only.fr (Only.trans (Only.set g 0 w2 _) (Only.set g 1 _ _)) rfl
      have hF2 : Fg g w ((w2.setCell ⟨g, 0, none⟩ (.slice A2 (nextR b).length c2)).setCell ⟨g, 1, none⟩ (.bool true)) := Fr.trans (Fr.of_below HB2.out) hF
      exact ⟨_, rfl, R_fg HO.out hF hlt, ⟨⟨A2, c2, set2_1 (set2_0 HG2.out _) _, HC2.out, hc2⟩, nextR_bytes HI.out, Nat.le_trans (nextR_len b) hl, hge, Fr.below' hF2 HBB.out (fun k hk => by rw [hk]; exact hge)⟩, hF2⟩

set_option maxHeartbeats 2000000 in
theorem xRow (w0 : World) (g : Nat) (b : List Int) (bad : Bool) (w : World) (h : RB 61 w0 w g b (!bad)) :
    Calls Try.prog 33 #[.pointer (some ⟨g, 0, none⟩)] w fun e w' => ∃ v : Value, e = .returned v ∧ Kd.R (Kd.int .i64) 2 w' w.heap.size (fun _ => True) v (nextL b) ∧ RB 61 w0 w' g (nextR b) (!rowB b bad) ∧ Fg g w w' := by
  obtain ⟨⟨A, c, hG, hC, hc⟩, hI, hl, hge, hB⟩ := h
  have HG := Aside0.mk hG
  have HC := Aside0.mk hC
  have HI := Aside0.mk hI
  have HBB := Aside0.mk hB
  obtain ⟨z0, z1, zf0, zf1⟩ := cells2 HG.out
  have hlt := blk_lt hG
  clear hG hC hI hB
  obtain ⟨nb, hnb⟩ : ∃ nb, nextB b = nb := ⟨_, rfl⟩
  rw [show rowB b bad = (bad || !nb) by unfold rowB; rw [hnb]]
  have HN := Aside0.mk hnb
  clear hnb
  cases bad
  · cases nb
    · go_enter Try.func33, Try.ntmps33
      go_wp2_with (first | ((with_reducible refine gate_dst (N := 11) rfl ?_); (try (refine gate_guard (by rfl) ?_; dsimp only)); refine goesL_ (some 11) rfl rfl Try.func38 (by kernel_rfl) rfl #[.slice A b.length c] rfl (by (try simp only [List.map_toArray, List.map_cons, List.map_nil]); first | done | rfl | (simp only [List.length_drop, List.length_take]; rfl)) ?_; refine (next2P A c b _ (Kd.C_below HC.out HBB.out) hc HI.out (by omega)).mono ?_; rintro e w2 ⟨v2, A2, c2, rfl, ho, hC2, hc2, hbl⟩; refine ⟨_, rfl, ?_⟩; rw [HN.out]; have HO := Aside0.mk ho; have HC2 := Aside0.mk (hC2 _ HC.out); have HG2 := Aside0.mk (blk_below HG.out hbl); have HB2 := Aside0.mk hbl; clear ho hC2 hbl HG z0 z1 zf0 zf1; obtain ⟨z0, z1, zf0, zf1⟩ := cells2 HG2.out))
      go_ret
      have hF : Fg g w2 ((w2.setCell ⟨g, 0, none⟩ (.slice A2 (nextR b).length c2)).setCell ⟨g, 1, none⟩ (.bool false)) := Only.fr (Only.trans (Only.set g 0 w2 _) (Only.set g 1 _ _)) rfl
      have hF2 : Fg g w ((w2.setCell ⟨g, 0, none⟩ (.slice A2 (nextR b).length c2)).setCell ⟨g, 1, none⟩ (.bool false)) := Fr.trans (Fr.of_below HB2.out) hF
      exact ⟨_, rfl, R_fg HO.out hF hlt, ⟨⟨A2, c2, set2_1 (set2_0 HG2.out _) _, HC2.out, hc2⟩, nextR_bytes HI.out, Nat.le_trans (nextR_len b) hl, hge, Fr.below' hF2 HBB.out (fun k hk => by rw [hk]; exact hge)⟩, hF2⟩
    · go_enter Try.func33, Try.ntmps33
      go_wp2_with (first | ((with_reducible refine gate_dst (N := 11) rfl ?_); (try (refine gate_guard (by rfl) ?_; dsimp only)); refine goesL_ (some 11) rfl rfl Try.func38 (by kernel_rfl) rfl #[.slice A b.length c] rfl (by (try simp only [List.map_toArray, List.map_cons, List.map_nil]); first | done | rfl | (simp only [List.length_drop, List.length_take]; rfl)) ?_; refine (next2P A c b _ (Kd.C_below HC.out HBB.out) hc HI.out (by omega)).mono ?_; rintro e w2 ⟨v2, A2, c2, rfl, ho, hC2, hc2, hbl⟩; refine ⟨_, rfl, ?_⟩; rw [HN.out]; have HO := Aside0.mk ho; have HC2 := Aside0.mk (hC2 _ HC.out); have HG2 := Aside0.mk (blk_below HG.out hbl); have HB2 := Aside0.mk hbl; clear ho hC2 hbl HG z0 z1 zf0 zf1; obtain ⟨z0, z1, zf0, zf1⟩ := cells2 HG2.out))
      go_ret
      have hF : Fg g w2 ((w2.setCell ⟨g, 0, none⟩ (.slice A2 (nextR b).length c2)).setCell ⟨g, 1, none⟩ (.bool true)) := Only.fr (Only.trans (Only.set g 0 w2 _) (Only.set g 1 _ _)) rfl
      have hF2 : Fg g w ((w2.setCell ⟨g, 0, none⟩ (.slice A2 (nextR b).length c2)).setCell ⟨g, 1, none⟩ (.bool true)) := Fr.trans (Fr.of_below HB2.out) hF
      exact ⟨_, rfl, R_fg HO.out hF hlt, ⟨⟨A2, c2, set2_1 (set2_0 HG2.out _) _, HC2.out, hc2⟩, nextR_bytes HI.out, Nat.le_trans (nextR_len b) hl, hge, Fr.below' hF2 HBB.out (fun k hk => by rw [hk]; exact hge)⟩, hF2⟩
  · cases nb
    · go_enter Try.func33, Try.ntmps33
      go_wp2_with (first | ((with_reducible refine gate_dst (N := 11) rfl ?_); (try (refine gate_guard (by rfl) ?_; dsimp only)); refine goesL_ (some 11) rfl rfl Try.func38 (by kernel_rfl) rfl #[.slice A b.length c] rfl (by (try simp only [List.map_toArray, List.map_cons, List.map_nil]); first | done | rfl | (simp only [List.length_drop, List.length_take]; rfl)) ?_; refine (next2P A c b _ (Kd.C_below HC.out HBB.out) hc HI.out (by omega)).mono ?_; rintro e w2 ⟨v2, A2, c2, rfl, ho, hC2, hc2, hbl⟩; refine ⟨_, rfl, ?_⟩; rw [HN.out]; have HO := Aside0.mk ho; have HC2 := Aside0.mk (hC2 _ HC.out); have HG2 := Aside0.mk (blk_below HG.out hbl); have HB2 := Aside0.mk hbl; clear ho hC2 hbl HG z0 z1 zf0 zf1; obtain ⟨z0, z1, zf0, zf1⟩ := cells2 HG2.out))
      go_ret
      have hF : Fg g w2 ((w2.setCell ⟨g, 0, none⟩ (.slice A2 (nextR b).length c2)).setCell ⟨g, 1, none⟩ (.bool false)) := Only.fr (Only.trans (Only.set g 0 w2 _) (Only.set g 1 _ _)) rfl
      have hF2 : Fg g w ((w2.setCell ⟨g, 0, none⟩ (.slice A2 (nextR b).length c2)).setCell ⟨g, 1, none⟩ (.bool false)) := Fr.trans (Fr.of_below HB2.out) hF
      exact ⟨_, rfl, R_fg HO.out hF hlt, ⟨⟨A2, c2, set2_1 (set2_0 HG2.out _) _, HC2.out, hc2⟩, nextR_bytes HI.out, Nat.le_trans (nextR_len b) hl, hge, Fr.below' hF2 HBB.out (fun k hk => by rw [hk]; exact hge)⟩, hF2⟩
    · go_enter Try.func33, Try.ntmps33
      go_wp2_with (first | ((with_reducible refine gate_dst (N := 11) rfl ?_); (try (refine gate_guard (by rfl) ?_; dsimp only)); refine goesL_ (some 11) rfl rfl Try.func38 (by kernel_rfl) rfl #[.slice A b.length c] rfl (by (try simp only [List.map_toArray, List.map_cons, List.map_nil]); first | done | rfl | (simp only [List.length_drop, List.length_take]; rfl)) ?_; refine (next2P A c b _ (Kd.C_below HC.out HBB.out) hc HI.out (by omega)).mono ?_; rintro e w2 ⟨v2, A2, c2, rfl, ho, hC2, hc2, hbl⟩; refine ⟨_, rfl, ?_⟩; rw [HN.out]; have HO := Aside0.mk ho; have HC2 := Aside0.mk (hC2 _ HC.out); have HG2 := Aside0.mk (blk_below HG.out hbl); have HB2 := Aside0.mk hbl; clear ho hC2 hbl HG z0 z1 zf0 zf1; obtain ⟨z0, z1, zf0, zf1⟩ := cells2 HG2.out))
      go_ret
      have hF : Fg g w2 ((w2.setCell ⟨g, 0, none⟩ (.slice A2 (nextR b).length c2)).setCell ⟨g, 1, none⟩ (.bool false)) := Only.fr (Only.trans (Only.set g 0 w2 _) (Only.set g 1 _ _)) rfl
      have hF2 : Fg g w ((w2.setCell ⟨g, 0, none⟩ (.slice A2 (nextR b).length c2)).setCell ⟨g, 1, none⟩ (.bool false)) := Fr.trans (Fr.of_below HB2.out) hF
      exact ⟨_, rfl, R_fg HO.out hF hlt, ⟨⟨A2, c2, set2_1 (set2_0 HG2.out _) _, HC2.out, hc2⟩, nextR_bytes HI.out, Nat.le_trans (nextR_len b) hl, hge, Fr.below' hF2 HBB.out (fun k hk => by rw [hk]; exact hge)⟩, hF2⟩
end Go.Proofs.Ytpcfceodbemooaa.B
