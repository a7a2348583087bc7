/- LogSides: the walk. -/
import Derived.Test.YthaeppjhmjpecaaLC
namespace Go.Proofs.Ythaeppjhmjpecaa.B
open Go.RowKit Go.Proofs.YthaeppjhmjpecaaW.PrintWords Go.Proofs.YthaeppjhmjpecaaW.PrintLast Go.Proofs.YthaeppjhmjpecaaW.PrintMore
attribute [local go_sem] max2_int min2_int max_two min_two max_three min_three max_four min_four
set_option linter.unusedVariables false
set_option linter.unusedSimpArgs false
theorem lopen_nil (w : World) : Calls Try.prog 37 #[.pointer none, .slice none 0 0] w fun e w' => e = .returned (.tuple #[.pointer none, .slice none 0 0, .slice none 0 0, .int .i64 11]) ∧ Below w.heap.size w w' := by
  have HB := Aside0.mk (Below.refl w.heap.size w)
  go_enter Try.func37, Try.ntmps37
  go_wp2
  exact bodyPost_ret (v := .tuple #[.pointer none, .slice none 0 0, .slice none 0 0, .int .i64 11]) (by simp [results, Try.results37, go_sem]) rfl ⟨rfl, HB.out⟩
theorem ladd_nil (w : World) : Calls Try.prog 40 #[.pointer none, .slice none 0 0] w fun e w' => e = .returned (.int .i64 11) ∧ Below w.heap.size w w' := by
  have HB := Aside0.mk (Below.refl w.heap.size w)
  go_enter Try.func40, Try.ntmps40
  go_wp2
  go_ret
  exact ⟨rfl, HB.out⟩
theorem lsave_nil (w : World) : Calls Try.prog 42 #[.pointer none, .slice none 0 0] w fun e w' => e = .returned (.int .i64 11) ∧ Below w.heap.size w w' := by
  have HB := Aside0.mk (Below.refl w.heap.size w)
  go_enter Try.func42, Try.ntmps42
  go_wp2
  go_ret
  exact ⟨rfl, HB.out⟩
theorem lrows_nil (w : World) : Calls Try.prog 44 #[.pointer none] w fun e w' => e = .returned (.int .i64 0) ∧ Below w.heap.size w w' := by
  have HB := Aside0.mk (Below.refl w.heap.size w)
  go_enter Try.func44, Try.ntmps44
  go_wp2
  go_ret
  exact ⟨rfl, HB.out⟩
theorem two_open : opE (Dk.zero 500) [115] = 0 ∧ opD (Dk.zero 500) [115] = Dk.one 500 (lf 1 [115] []) 3 ∧ opS (Dk.zero 500) [115] = [115] ∧ opR (Dk.zero 500) = [] ∧ opL (Dk.zero 500) = ⟨0, 1, 0, false⟩ := zero_open_yes (room := 500) (s := [115]) (show 8 + 1 ≤ 60000 by decide) (show (10 : Int) + ((1 : Nat) : Int) ≤ 500 by decide)
/-- Behind a save: the side's bytes, a snapshot of one byte, nothing armed. -/
def Lone (R : Int) (D : Dk) (side g x : Int) : Prop := Lk R D side g [x] [] ∧ (side = 0 → D.b0 = lf g [x] []) ∧ (side = 1 → D.b1 = lf g [x] []) ∧ D.armed = false ∧ (0 ≤ x ∧ x < 256)
theorem fit1 (x : Int) : Fit [x] [] := ⟨show 8 + 1 ≤ 60000 by decide, fun r hr => by cases hr⟩
theorem lf1_len (g x : Int) : (lf g [x] []).length = 11 := by rw [lf_nil]; exact svB_length (snap := [x]) (show 8 + 1 ≤ 60000 by decide)
theorem lone_start (R : Int) (hR : 100 ≤ R) : Lone R (Dk.one R (lf 1 [115] []) 3) 0 1 115 := by
  have hl := lf1_len 1 115
  obtain ⟨q1, q2, q3⟩ := heldG_lf (g := 1) (fit1 115) (by decide)
  refine ⟨⟨rfl, rfl, rfl, rfl, ⟨lf_bytes (b1_bytes (by decide)) IsBs.nil, IsB.nil⟩, ?_, ?_, by decide, .inl ⟨rfl, q1, q2, q3, ?_⟩⟩, fun _ => rfl, fun h => absurd h (by decide), rfl, by decide⟩
  · show ((lf 1 [115] []).length : Int) ≤ R; omega
  · show ((0 : Nat) : Int) ≤ R; omega
  · show heldG [] < 1; rw [heldG_nil]; decide
/-- A row, then a snapshot. -/
theorem lone_step {R : Int} {D : Dk} {side g x n y : Int} (h : Lone R D side g x) (hR : 100 ≤ R) (hg : g < 4611686018427387904) (hy : 0 ≤ y ∧ y < 256) :
    adE D ⟨side, g, n, false⟩ [114] = 0 ∧ adL D ⟨side, g, n, false⟩ [114] = ⟨side, g, n + 1, false⟩ ∧ svE (adD D ⟨side, g, n, false⟩ [114]) (1 - side) (g + 1) [y] = 0 ∧ saL (adD D ⟨side, g, n, false⟩ [114]) ⟨side, g, n + 1, false⟩ [y] = ⟨1 - side, g + 1, 0, false⟩ ∧ Lone R (svD (adD D ⟨side, g, n, false⟩ [114]) (1 - side) (g + 1) [y]) (1 - side) (g + 1) y := by
  obtain ⟨h1, h2, h3, h4, h5⟩ := h
  have hl := lf1_len g x
  rcases h1.side01 with rfl | rfl
  · rcases add_cases0 (n := n) (row := [114]) h1 (h2 rfl) (fit1 x) (by decide) (b1_bytes (by decide)) (by rw [h2 rfl, hl]; show ((11 : Nat) : Int) + (2 + ((1 : Nat) : Int)) ≤ R; omega) with ⟨a1, a2, a3, a4, a5⟩ | ⟨a1, _⟩
    · rcases save_cases0 (n := n + 1) (st := false) (snap := [y]) a2 (show 8 + 1 ≤ 60000 by decide) (b1_bytes hy) (show (10 : Int) + ((1 : Nat) : Int) ≤ R by omega) hg with ⟨b1, b2, b3, b4, b5⟩ | ⟨b1, _⟩
      · exact ⟨a1, a5, b1, b5, b2, fun e => absurd e (by decide), fun _ => b3, by rw [b4, a4, h4], hy⟩
      · rw [a4, h4] at b1; cases b1
    · rw [h4] at a1; cases a1
  · rcases add_cases1 (n := n) (row := [114]) h1 (h3 rfl) (fit1 x) (by decide) (b1_bytes (by decide)) (by rw [h3 rfl, hl]; show ((11 : Nat) : Int) + (2 + ((1 : Nat) : Int)) ≤ R; omega) with ⟨a1, a2, a3, a4, a5⟩ | ⟨a1, _⟩
    · rcases save_cases1 (n := n + 1) (st := false) (snap := [y]) a2 (show 8 + 1 ≤ 60000 by decide) (b1_bytes hy) (show (10 : Int) + ((1 : Nat) : Int) ≤ R by omega) hg with ⟨b1, b2, b3, b4, b5⟩ | ⟨b1, _⟩
      · exact ⟨a1, a5, b1, b5, b2, fun _ => b3, fun e => absurd e (by decide), by rw [b4, a4, h4], hy⟩
      · rw [a4, h4] at b1; cases b1
    · rw [h4] at a1; cases a1
theorem one_G3 : (Dk.one 500 (lf 1 [115] []) 3).G 3 := one_G (by rw [lf1_len]; decide) (by decide) (by decide)
set_option maxRecDepth 100000 in
set_option maxHeartbeats 4000000 in
theorem lawSides (n : Int) (w : World) :
    Calls Try.prog 12 #[.int .i64 n] w fun e w' => e = .returned (.bool true) ∧ Below w.heap.size w w' := by
  have HB := Aside0.mk (Below.refl w.heap.size w)
  by_cases c0 : n < 0
  · have t0 : decide (n < 0) = true := decide_eq_true c0
    go_enter Try.func12, Try.ntmps12
    go_wp2
    go_ret
    exact ⟨rfl, HB.out⟩
  have t0 : decide (n < 0) = false := decide_eq_false c0
  by_cases c1 : 20 < n
  · have t1 : decide (20 < n) = true := decide_eq_true c1
    go_enter Try.func12, Try.ntmps12
    go_wp2
    go_ret
    exact ⟨rfl, HB.out⟩
  have t1 : decide (20 < n) = false := decide_eq_false c1
  have hn : 0 ≤ n ∧ n ≤ 20 := by omega
  have HOP := Aside0.mk two_open
  have kc := fun (w : World) (C : Array Value) (n c : Nat) => Lib.run_convert_bytes_const (P := Try.prog) w 22 5 C n c Try.underlying22 Try.underlying5
  clear c0 c1
  go_enter Try.func12, Try.ntmps12
  go_wp2_with (first | ((with_reducible refine gate_dst (N := 25) rfl ?_); (try (refine gate_guard (by rfl) ?_; dsimp only)); refine goesL_ (some 25) rfl rfl Try.func14 (by kernel_rfl) rfl #[.int .i64 500] rfl (by (try simp only [List.map_toArray, List.map_cons, List.map_nil]); first | done | rfl | (simp only [List.length_drop, List.length_take]; rfl)) ?_; refine (tnew 500 _ (by decide) (by decide) (fun k => w.heap.size ≤ k) (Nat.le_refl _)).mono ?_; rintro e w1 ⟨rfl, hD, hbl⟩; refine ⟨_, rfl, ?_⟩; have HD := Aside0.mk (show IsD w1 (fun k => w.heap.size ≤ k) w.heap.size (Dk.zero 500) from hD); have HB' := Aside0.mk (below_step HB.out hbl); clear HB hbl hD; have HB := HB'; clear HB') | ((with_reducible refine gate_dst (N := 30) rfl ?_); (try (refine gate_guard (by rfl) ?_; dsimp only)); refine goesL_ (some 30) rfl rfl Try.func37 (by kernel_rfl) rfl #[.pointer (some ⟨w.heap.size, 0, none⟩), .slice (some ⟨w1.heap.size, 0, none⟩) 1 1] rfl (by (try simp only [List.map_toArray, List.map_cons, List.map_nil]); first | done | rfl | (simp only [List.length_drop, List.length_take]; rfl)) ?_; refine ((lopen w.heap.size (fun k => w.heap.size ≤ k ∧ k ≠ w1.heap.size) (Dk.zero 500) (some ⟨w1.heap.size, 0, none⟩) 1 [115] 0 _ ((HD.out.bound.mono (fun k hk => ⟨hk.1, Nat.ne_of_lt hk.2⟩)).below (below_alloc (Below.refl _ _) _)) ⟨IsB.nil, IsB.nil⟩ (zero_G (by decide)) (by decide) (C_const w1 [115] _ _ _ rfl (by decide)) (by decide) (fun k hk => by have h1 := HB.out.size; have h2 : w1.heap.size + 1 ≤ k := (by simpa using hk); exact ⟨by omega, by omega⟩) (fun ad e _ hk => by cases e; exact hk.2 rfl)).mono (fun e w' h => OpenedV.inv h HOP.out.1)).mono ?_; rintro e w3 ⟨gl, M, v1, v2, rfl, hfr, hM, hgl, hD, hL, hv⟩; refine ⟨_, rfl, ?_⟩; have hM2 : w.heap.size ≤ M := Nat.le_trans (below_alloc HB.out _).size hM; have hLT := LT.new (w := w) (L := ⟨0, 1, 0, false⟩) (okd := fun k => w.heap.size ≤ k ∧ k < M) (by rw [HOP.out.2.1] at hD; exact hD.mono (fun k hk => ⟨hk.1.1, hk.2⟩)) (by rw [HOP.out.2.2.2.2] at hL; exact hL) (fun k hk => ⟨hk.1, by have := hk.2; omega⟩) (by omega) (hfr.below' (below_alloc HB.out _) (fun k h => h.1)); have HLT := Aside0.mk hLT; clear HB HD hfr hM hM2 hgl hD hL hLT; obtain ⟨Ax, cx, Ay, cy, ex, ey, hx1, hx2, hx3, hx4⟩ := hv; subst ex ey; clear hx1 hx2 hx3 hx4))
  go_loopg [8] 30 (fun kq v8 w' => ∃ i : Nat, v8 = .int .i64 (i : Int) ∧ 1 ≤ i ∧ i ≤ 21 ∧ Aside0 (kq + i = 31) ∧ Aside0 (∃ (D : Dk) (x : Int), LT w' w w.heap.size gl D ⟨((i : Int) - 1) % 2, i, 0, false⟩ [] (.slice none 0 0) ∧ Lone 500 D (((i : Int) - 1) % 2) i x ∧ D.G (5 * (i : Int))))
  case atStart => exact ⟨1, rfl, Nat.le_refl _, by decide, ⟨rfl⟩, ⟨_, 115, HLT.out, lone_start 500 (by decide), one_G3.mono (by decide)⟩⟩
  case round =>
    clear HLT HOP
    obtain ⟨i, rfl, hi1, hi2, HK, ⟨D, x, hLT, hLO, hG⟩⟩ := hrel
    have HLT := Aside0.mk hLT
    have HG := Aside0.mk hG
    by_cases ci : (i : Int) ≤ n
    · have cib : decide ((i : Int) ≤ n) = true := decide_eq_true ci
      obtain ⟨sd, hsd⟩ : ∃ sd, ((i : Int) - 1) % 2 = sd := ⟨_, rfl⟩
      have hsd2 : 1 - sd = (i : Int) % 2 := by omega
      have HST := Aside0.mk (lone_step (n := 0) (y := (i : Int)) hLO (by decide) (by omega) (by omega))
      rw [hsd] at HST HLT
      have hsd01 : sd = 0 ∨ sd = 1 := by omega
      have HLG := Aside0.mk (show Lg.G ⟨sd, i, 0, false⟩ 900000 from ⟨hsd01, show (1 : Int) ≤ i by omega, show (i : Int) ≤ 4611686018427387904 by omega, Int.le_refl 0, show (0 : Int) ≤ 900000 by decide⟩)
      have HLG2 := Aside0.mk (show Lg.G ⟨sd, i, 0 + 1, false⟩ 900000 from ⟨hsd01, show (1 : Int) ≤ i by omega, show (i : Int) ≤ 4611686018427387904 by omega, show (0 : Int) ≤ 0 + 1 by decide, show (0 : Int) + 1 ≤ 900000 by decide⟩)
      obtain ⟨D1, hD1⟩ : ∃ D', adD D ⟨sd, i, 0, false⟩ [114] = D' := ⟨_, rfl⟩
      have HD1 := Aside0.mk hD1
      have HG1 := Aside0.mk (show D1.G (5 * (i : Int) + 2) by rw [← hD1]; exact adD_G hG _ _)
      obtain ⟨D2, hD2⟩ : ∃ D', svD D1 (1 - sd) ((i : Int) + 1) [(i : Int)] = D' := ⟨_, rfl⟩
      have HD2 := Aside0.mk hD2
      have HG2 := Aside0.mk (show D2.G (5 * (i : Int) + 5) by rw [← hD2]; exact svD_G HG1.out _ _ _)
      rw [hD1, hD2] at HST
      have HSD2 := Aside0.mk hsd2
      have HLO2 := Aside0.mk (show Lone 500 D2 ((i : Int) % 2) ((i : Int) + 1) i by rw [← hsd2]; exact HST.out.2.2.2.2)
      have HLK := Aside0.mk HLO2.out.1.look
      have HI2 := Aside0.mk HLO2.out.1.ib
      clear hLT hLO hG hsd hsd2 hsd01 hD1 hD2
      go_wp2_with (first | ((with_reducible refine gate_dst (N := 47) rfl ?_); (try (refine gate_guard (by rfl) ?_; dsimp only)); refine goesL_ (some 47) rfl rfl Try.func40 (by kernel_rfl) rfl #[.pointer (some ⟨gl, 0, none⟩), .slice (some ⟨wr.heap.size, 0, none⟩) 1 1] rfl (by (try simp only [List.map_toArray, List.map_cons, List.map_nil]); first | done | rfl | (simp only [List.length_drop, List.length_take]; rfl)) ?_; refine (LT.add (HLT.out.below (below_alloc (Below.refl _ _) _)) (some ⟨wr.heap.size, 0, none⟩) 1 [114] _ HG.out (by omega) HLG.out (C_const wr [114] _ _ _ rfl (by decide)) (by decide) (by decide)).mono ?_; rintro e w47 ⟨rfl, hLT⟩; refine ⟨_, rfl, ?_⟩; rw [HST.out.1]; rw [HD1.out, HST.out.2.1] at hLT; have HLT' := Aside0.mk hLT; clear HLT hLT; have HLT := HLT'; clear HLT') | ((with_reducible refine gate_dst (N := 54) rfl ?_); (try (refine gate_guard (by rfl) ?_; dsimp only)); refine goesL_ (some 54) rfl rfl Try.func42 (by kernel_rfl) rfl #[.pointer (some ⟨gl, 0, none⟩), .slice (some ⟨w47.heap.size, 0, none⟩) 1 1] rfl (by (try simp only [List.map_toArray, List.map_cons, List.map_nil]); first | done | rfl | (simp only [List.length_drop, List.length_take]; rfl)) ?_; refine (LT.save (HLT.out.below (below_alloc (Below.refl _ _) _)) (some ⟨w47.heap.size, 0, none⟩) 1 [(i : Int)] _ HG1.out (by omega) HLG2.out (C_const w47 [(i : Int)] _ _ _ rfl (show 1 ≤ 9223372036854775807 by decide)) (show 1 ≤ 100000000 by decide)).mono ?_; rintro e w54 ⟨rfl, hLT⟩; refine ⟨_, rfl, ?_⟩; rw [show svE D1 (1 - Lg.side ⟨sd, i, 0 + 1, false⟩) (Lg.gen ⟨sd, i, 0 + 1, false⟩ + 1) [(i : Int)] = 0 from HST.out.2.2.1]; rw [show svD D1 (1 - Lg.side ⟨sd, i, 0 + 1, false⟩) (Lg.gen ⟨sd, i, 0 + 1, false⟩ + 1) [(i : Int)] = D2 from HD2.out, HST.out.2.2.2.1, HSD2.out] at hLT; have HLT' := Aside0.mk hLT; clear HLT hLT; have HLT := HLT'; clear HLT') | ((with_reducible refine gate_dst (N := 59) rfl ?_); (try (refine gate_guard (by rfl) ?_; dsimp only)); refine goesL_ (some 59) rfl rfl Try.func34 (by kernel_rfl) rfl #[.pointer (some ⟨w.heap.size, 0, none⟩)] rfl (by (try simp only [List.map_toArray, List.map_cons, List.map_nil]); first | done | rfl | (simp only [List.length_drop, List.length_take]; rfl)) ?_; refine (LT.look HLT.out (G_len HG2.out) HI2.out).mono ?_; rintro e w59 ⟨A1, c1, A2, c2, rfl, hx, hy, hbl⟩; refine ⟨_, rfl, ?_⟩; rw [HLK.out.1, HLK.out.2.1, HLK.out.2.2.1, HLK.out.2.2.2]; rw [HLK.out.2.2.1] at hx; have hLT := HLT.out.below hbl; have HLT' := Aside0.mk hLT; clear HLT hLT; have HLT := HLT'; clear HLT'; have hs1 := (show (convert 22 9 (.slice A1 1 c1)).run Try.prog w59 = .ok (.string (strOfNums [(i : Int)])) w59 from cstr (c := c1) hx); have hs2 := (show (convert 22 9 (.slice (some ⟨w59.heap.size, 0, none⟩) 1 1)).run Try.prog (w59.alloc (.cells #[.int .u8 (i : Int)] 5)) = .ok (.string (strOfNums [(i : Int)])) (w59.alloc (.cells #[.int .u8 (i : Int)] 5)) from cstr (c := 1) (C_const w59 [(i : Int)] _ _ _ rfl (show 1 ≤ 9223372036854775807 by decide))); have hLT := HLT.out.below (below_alloc (Below.refl _ _) (.cells #[.int .u8 (i : Int)] 5)); have HLT' := Aside0.mk hLT; clear HLT hLT; have HLT := HLT'; clear HLT'; clear hx hy hbl))
      go_roundg (31 - (i + 1))
      case measure => have := HK.out; omega
      case rel => exact ⟨i + 1, by go_num, by omega, by omega, ⟨by omega⟩, ⟨D2, (i : Int), by
        have h := HLT.out
        rw [show (((i + 1 : Nat) : Int) - 1) % 2 = (i : Int) % 2 by omega]
        exact h, by
        have h := HLO2.out
        rw [show (((i + 1 : Nat) : Int) - 1) % 2 = (i : Int) % 2 by omega]
        exact h, HG2.out.mono (by omega)⟩⟩
    · have cib : decide ((i : Int) ≤ n) = false := decide_eq_false ci
      clear hLT hLO hG HG
      go_wp2_with (first | ((with_reducible refine gate_dst (N := 94) rfl ?_); (try (refine gate_guard (by rfl) ?_; dsimp only)); refine goesL_ (some 94) rfl rfl Try.func37 (by kernel_rfl) rfl #[.pointer none, .slice none 0 0] rfl (by (try simp only [List.map_toArray, List.map_cons, List.map_nil]); first | done | rfl | (simp only [List.length_drop, List.length_take]; rfl)) ?_; refine (lopen_nil _).mono ?_; rintro e w94 ⟨rfl, hbl⟩; refine ⟨_, rfl, ?_⟩; have HB := Aside0.mk (below_step HLT.out.base hbl); clear hbl) | ((with_reducible refine gate_dst (N := 103) rfl ?_); (try (refine gate_guard (by rfl) ?_; dsimp only)); refine goesL_ (some 103) rfl rfl Try.func40 (by kernel_rfl) rfl #[.pointer none, .slice none 0 0] rfl (by (try simp only [List.map_toArray, List.map_cons, List.map_nil]); first | done | rfl | (simp only [List.length_drop, List.length_take]; rfl)) ?_; refine (ladd_nil _).mono ?_; rintro e w103 ⟨rfl, hbl⟩; refine ⟨_, rfl, ?_⟩; have HB_ := Aside0.mk (below_step HB.out hbl); clear HB; have HB := HB_; clear HB_; clear hbl) | ((with_reducible refine gate_dst (N := 108) rfl ?_); (try (refine gate_guard (by rfl) ?_; dsimp only)); refine goesL_ (some 108) rfl rfl Try.func42 (by kernel_rfl) rfl #[.pointer none, .slice none 0 0] rfl (by (try simp only [List.map_toArray, List.map_cons, List.map_nil]); first | done | rfl | (simp only [List.length_drop, List.length_take]; rfl)) ?_; refine (lsave_nil _).mono ?_; rintro e w108 ⟨rfl, hbl⟩; refine ⟨_, rfl, ?_⟩; have HB_ := Aside0.mk (below_step HB.out hbl); clear HB; have HB := HB_; clear HB_; clear hbl) | ((with_reducible refine gate_dst (N := 113) rfl ?_); (try (refine gate_guard (by rfl) ?_; dsimp only)); refine goesL_ (some 113) rfl rfl Try.func44 (by kernel_rfl) rfl #[.pointer none] rfl (by (try simp only [List.map_toArray, List.map_cons, List.map_nil]); first | done | rfl | (simp only [List.length_drop, List.length_take]; rfl)) ?_; refine (lrows_nil _).mono ?_; rintro e w113 ⟨rfl, hbl⟩; refine ⟨_, rfl, ?_⟩; have HB_ := Aside0.mk (below_step HB.out hbl); clear HB; have HB := HB_; clear HB_; clear hbl) | ((with_reducible refine gate_dst (N := 121) rfl ?_); (try (refine gate_guard (by rfl) ?_; dsimp only)); refine goesL_ (some 121) rfl rfl Try.func35 (by kernel_rfl) rfl #[] rfl (by (try simp only [List.map_toArray, List.map_cons, List.map_nil]); first | done | rfl | (simp only [List.length_drop, List.length_take]; rfl)) ?_; refine (known6 _).mono ?_; rintro e w121 ⟨rfl, hbl⟩; refine ⟨_, rfl, ?_⟩; have HB_ := Aside0.mk (below_step HB.out hbl); clear HB; have HB := HB_; clear HB_; clear hbl))
      go_ret
      exact ⟨rfl, HB.out⟩
end Go.Proofs.Ythaeppjhmjpecaa.B
