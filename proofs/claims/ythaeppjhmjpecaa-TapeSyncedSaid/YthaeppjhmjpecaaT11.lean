/- TapeSynced: the walk. -/
import Derived.Deep.RegionHeld
import Derived.Test.YthaeppjhmjpecaaT10
namespace Go.Proofs.Ythaeppjhmjpecaa.B
open Go.RowKit Go.Proofs.YthaeppjhmjpecaaW.PrintWords Go.Proofs.YthaeppjhmjpecaaW.PrintLast Go.Proofs.YthaeppjhmjpecaaW.PrintMore
attribute [local go_sem] max2_int min2_int max_two min_two max_three min_three max_four min_four
set_option linter.unusedVariables false
set_option linter.unusedSimpArgs false

set_option maxRecDepth 100000 in
set_option maxHeartbeats 4000000 in
theorem lawTSync (A : Option Addr) (ca : Nat) (a : List Int) (B : Option Addr) (cb : Nat) (l : List (List Int)) (t kp : Int) (w : World) (hr : Kd.C (Kd.int .u8) w A a.length a) (hc : a.length ≤ ca) (hb : IsB a) (hl : a.length ≤ 140737488351232)
    (hr2 : Kd.C (Kd.slice 5 (Kd.int .u8)) w B l.length l) (hc2 : l.length ≤ cb) (hb2 : ∀ r ∈ l, ∀ x ∈ r, 0 ≤ x ∧ x < 256) (ht : -9223372036854775808 ≤ t ∧ t < 9223372036854775808) (hkp : -9223372036854775808 ≤ kp ∧ kp < 9223372036854775808) :
    Calls Try.prog 6 #[.slice A a.length ca, .slice B l.length cb, .int .i64 t, .int .i64 kp] w fun e w' => e = .returned (.bool true) ∧ Below w.heap.size w w' := by
  have HR := Aside0.mk hr
  have HR2 := Aside0.mk hr2
  have HAL := Aside0.mk (C_block hr)
  have HB := Aside0.mk (Below.refl w.heap.size w)
  have HKP := Aside0.mk hkp
  clear hr hr2 hb hb2 ht hkp
  by_cases c1 : 100 < a.length
  · have h1 : decide (100 < (a.length : Int)) = true := decide_eq_true (by omega)
    have h1n : decide (100 < a.length) = true := decide_eq_true c1
    go_enter Try.func6, Try.ntmps6
    go_wp2
    go_ret
    exact ⟨rfl, HB.out⟩
  have h1 : decide (100 < (a.length : Int)) = false := decide_eq_false (by omega)
  have h1n : decide (100 < a.length) = false := decide_eq_false c1
  by_cases c2 : 10 < l.length
  · have h2 : decide (10 < (l.length : Int)) = true := decide_eq_true (by omega)
    have h2n : decide (10 < l.length) = true := decide_eq_true c2
    go_enter Try.func6, Try.ntmps6
    go_wp2
    go_ret
    exact ⟨rfl, HB.out⟩
  have h2 : decide (10 < (l.length : Int)) = false := decide_eq_false (by omega)
  have h2n : decide (10 < l.length) = false := decide_eq_false c2
  have ha : a.length ≤ 100 := by omega
  have hll : l.length ≤ 10 := by omega
  have E1 := Aside0.mk (show Dk.app ⟨5000, [], 0, [], 0, 0, 0, false, false, 0⟩ 0 a = ⟨5000, a, 0, [], 0, 0, 0, false, false, 1⟩ from (app_ok0 (D := ⟨5000, [], 0, [], 0, 0, 0, false, false, 0⟩) (l := a) rfl (show ¬ (5000 : Int) - ((0 : Nat) : Int) < (a.length : Int) by omega) rfl).2)
  have E2 := Aside0.mk (show Dk.sync ⟨5000, a, 0, [], 0, 0, 0, false, false, 1⟩ = ⟨5000, a, a.length, [], 0, 0, 0, false, false, 2⟩ from (sync_ok (D := ⟨5000, a, 0, [], 0, 0, 0, false, false, 1⟩) rfl rfl).2)
  have F0 := Aside0.mk (show Dk.Wf ⟨5000, [], 0, [], 0, 0, 0, false, false, 0⟩ by unfold Dk.Wf; decide)
  have F1 := Aside0.mk (show Dk.Wf ⟨5000, a, 0, [], 0, 0, 0, false, false, 1⟩ from ⟨Nat.zero_le _, Nat.zero_le _, show (a.length : Int) ≤ 5000 by omega, show (0 : Int) ≤ 5000 by decide, show (5000 : Int) ≤ 200000 by decide, show (0 : Int) ≤ 1 by decide, show (1 : Int) < 1000000 by decide, show (-9223372036854775808 : Int) ≤ 0 by decide, show (0 : Int) < 9223372036854775808 by decide⟩)
  have F3 := Aside0.mk (show Dk.G (Dk.arm ⟨5000, a, a.length, [], 0, 0, 0, false, false, 2⟩ t kp) 2 from ⟨Nat.le_refl _, Nat.zero_le _, show (a.length : Int) ≤ 5000 by omega, show (0 : Int) ≤ 5000 by decide, show (5000 : Int) ≤ 200000 by decide, show (0 : Int) ≤ 2 by decide, show (2 : Int) ≤ 2 by decide, HKP.out⟩)
  have F4 := Aside0.mk (show Dk.KA (Dk.arm ⟨5000, a, a.length, [], 0, 0, 0, false, false, 2⟩ t kp) a from ⟨Nat.le_refl _, List.take_length⟩)
  clear c1 c2
  go_enter Try.func6, Try.ntmps6
  go_wp2_with (first | ((with_reducible refine gate_dst (N := 20) rfl ?_); (try (refine gate_guard (by rfl) ?_; dsimp only)); refine goesL_ (some 20) rfl rfl Try.func14 (by kernel_rfl) rfl #[.int .i64 5000] rfl (by (try simp only [List.map_toArray, List.map_cons, List.map_nil]); first | done | rfl | (simp only [List.length_drop, List.length_take]; rfl)) ?_; refine (tnew 5000 _ (by decide) (by decide) (fun k => w.heap.size ≤ k) (Nat.le_refl _)).mono ?_; rintro e w1 ⟨rfl, hD, hbl⟩; refine ⟨_, rfl, ?_⟩; have HD := Aside0.mk hD; have HB' := Aside0.mk (below_step HB.out hbl); clear HB hbl hD; have HB := HB'; clear HB') | ((with_reducible refine gate_dst (N := 23) rfl ?_); (try (refine gate_guard (by rfl) ?_; dsimp only)); refine goesL_ (some 23) rfl rfl Try.func15 (by kernel_rfl) rfl #[.pointer (some ⟨w.heap.size, 0, none⟩), .int .i64 0, .slice A a.length ca] rfl (by (try simp only [List.map_toArray, List.map_cons, List.map_nil]); first | done | rfl | (simp only [List.length_drop, List.length_take]; rfl)) ?_; refine (tapp w.heap.size (fun k => w.heap.size ≤ k) ⟨5000, [], 0, [], 0, 0, 0, false, false, 0⟩ 0 A ca a _ HD.out F0.out (Kd.C_below HR.out HB.out) (by omega) (fun ad e hp => Nat.ne_of_lt (HAL.out ad e hp)) (fun k hk => Nat.le_trans HB.out.size hk)).mono ?_; rintro e w2 ⟨rfl, hD, hfr⟩; refine ⟨_, rfl, ?_⟩; rw [E1.out] at hD; have HB' := Aside0.mk (Fr.below' hfr HB.out (fun _ h => h)); clear HB HD hfr; have HD := Aside0.mk hD; have HB := HB'; clear HB' hD) | ((with_reducible refine gate_dst (N := 25) rfl ?_); (try (refine gate_guard (by rfl) ?_; dsimp only)); refine goesL_ (some 25) rfl rfl Try.func21 (by kernel_rfl) rfl #[.pointer (some ⟨w.heap.size, 0, none⟩)] rfl (by (try simp only [List.map_toArray, List.map_cons, List.map_nil]); first | done | rfl | (simp only [List.length_drop, List.length_take]; rfl)) ?_; refine (tsync w.heap.size (fun k => w.heap.size ≤ k) ⟨5000, a, 0, [], 0, 0, 0, false, false, 1⟩ _ HD.out F1.out).mono ?_; rintro e w3 ⟨rfl, hD, hfr⟩; refine ⟨_, rfl, ?_⟩; rw [E2.out] at hD; have HB' := Aside0.mk (Fr.below' hfr HB.out (fun _ h => h)); clear HB HD hfr; have HD := Aside0.mk hD; have HB := HB'; clear HB' hD) | ((with_reducible refine gate_dst (N := 30) rfl ?_); (try (refine gate_guard (by rfl) ?_; dsimp only)); refine goesL_ (some 30) rfl rfl Try.func18 (by kernel_rfl) rfl #[.pointer (some ⟨w.heap.size, 0, none⟩), .agg #[.int .i64 t, .int .i64 kp]] rfl (by (try simp only [List.map_toArray, List.map_cons, List.map_nil]); first | done | rfl | (simp only [List.length_drop, List.length_take]; rfl)) ?_; refine (tarm w.heap.size (fun k => w.heap.size ≤ k) ⟨5000, a, a.length, [], 0, 0, 0, false, false, 2⟩ t kp _ HD.out).mono ?_; rintro e w4 ⟨rfl, hD, hfr⟩; refine ⟨_, rfl, ?_⟩; have HB' := Aside0.mk (Fr.below' hfr HB.out (fun _ h => h)); clear HB HD hfr; have HD := Aside0.mk hD; have HB := HB'; clear HB' hD))
  go_loopg [10] l.length (fun kq v10 w' => ∃ i : Nat, v10 = .int .i64 (i : Int) ∧ i ≤ l.length ∧ Aside0 (kq + i = l.length) ∧ Aside0 (∃ D : Dk, IsD w' (fun k => w.heap.size ≤ k) w.heap.size D ∧ D.G (2 + 3 * (i : Int)) ∧ D.KA a) ∧ Aside0 (Below w.heap.size w w'))
  case atStart => exact ⟨0, rfl, Nat.zero_le _, ⟨rfl⟩, ⟨_, HD.out, F3.out, F4.out⟩, HB⟩
  case round =>
    clear HD HB F0 F1 F3 F4 E1 E2
    obtain ⟨i, rfl, hi, HK, ⟨D, hD, hG, hKA⟩, HB⟩ := hrel
    have HD := Aside0.mk hD
    have HG := Aside0.mk hG
    have HKA := Aside0.mk hKA
    clear hD hG hKA
    by_cases c : i < l.length
    · have cb : decide ((i : Int) < (l.length : Int)) = true := decide_eq_true (by exact_mod_cast c)
      obtain ⟨u, hu⟩ : ∃ u, rd_L1 l (i : Int) = u := ⟨_, rfl⟩
      obtain ⟨ad, A0, c0, e0, hcellw, hc0, hroww⟩ := at_L1 HR2.out (i : Int) (by omega) (by exact_mod_cast c)
      cases e0
      rw [hu] at hcellw hc0 hroww
      rw [Int.toNat_natCast] at hcellw
      have hcell0 := Aside0.mk (fun {W : World} (hb : Below w.heap.size w W) => pw_cell_below hb hcellw)
      have hrow0 := Aside0.mk (fun (W : World) (hb : Below w.heap.size w W) => Kd.C_below hroww hb)
      have hne0 := Aside0.mk (show ∀ a, A0 = some a → 0 < u.length → a.block ≠ w.heap.size from fun a e hp => Nat.ne_of_lt (C_block hroww a e hp))
      have hcell := hcell0.out HB.out
      clear hcellw hroww hu
      by_cases c3 : 100 < u.length
      · have h3 : decide (100 < (u.length : Int)) = true := decide_eq_true (by omega)
        have h3n : decide (100 < u.length) = true := decide_eq_true c3
        clear c3
        go_wp2
        go_ret
        exact ⟨rfl, HB.out⟩
      · have h3 : decide (100 < (u.length : Int)) = false := decide_eq_false (by omega)
        have h3n : decide (100 < u.length) = false := decide_eq_false c3
        have hu100 : u.length ≤ 100 := by omega
        by_cases c4 : (i : Int) % 3 = 1
        · have h4 : (((i : Int) % 3) == 1) = true := by rw [beq_iff_eq]; exact c4
          clear c3 c4
          go_wp2_with (first | ((with_reducible refine gate_dst (N := 44) rfl ?_); (try (refine gate_guard (by rfl) ?_; dsimp only)); refine goesL_ (some 44) rfl rfl Try.func23 (by kernel_rfl) rfl #[.pointer (some ⟨w.heap.size, 0, none⟩), .int .i64 1] rfl (by (try simp only [List.map_toArray, List.map_cons, List.map_nil]); first | done | rfl | (simp only [List.length_drop, List.length_take]; rfl)) ?_; refine (twipe w.heap.size (fun k => w.heap.size ≤ k) D 1 _ HD.out (HG.out.wf (by omega))).mono ?_; rintro e w44 ⟨rfl, hD, hfr⟩; refine ⟨_, rfl, ?_⟩; have HB' := Aside0.mk (Fr.below' hfr HB.out (fun _ h => h)); clear HB HD hfr; have HD := Aside0.mk hD; have HB := HB'; clear HB' hD; have HG1 := Aside0.mk (HG.out.wipe 1); have HK1 := Aside0.mk (HKA.out.wipe1); clear HG HKA; have hcell1 := hcell0.out HB.out) | ((with_reducible refine gate_dst (N := 52) rfl ?_); (try (refine gate_guard (by rfl) ?_; dsimp only)); refine goesL_ (some 52) rfl rfl Try.func15 (by kernel_rfl) rfl #[.pointer (some ⟨w.heap.size, 0, none⟩), .int .i64 (HMod.hMod (i : Int) (2 : Int) : Int), .slice A0 u.length c0] rfl (by (try simp only [List.map_toArray, List.map_cons, List.map_nil]); first | done | rfl | (simp only [List.length_drop, List.length_take]; rfl)) ?_; refine (tapp w.heap.size (fun k => w.heap.size ≤ k) (D.wipe 1) _ A0 c0 u _ HD.out (HG1.out.wf (by omega)) (hrow0.out _ HB.out) (by omega) (hne0.out) (fun k hk => Nat.le_trans HB.out.size hk)).mono ?_; rintro e w52 ⟨rfl, hD, hfr⟩; refine ⟨_, rfl, ?_⟩; have HB' := Aside0.mk (Fr.below' hfr HB.out (fun _ h => h)); clear HB HD hfr; have HD := Aside0.mk hD; have HB := HB'; clear HB' hD; have HG2 := Aside0.mk (HG1.out.app (HMod.hMod (i : Int) (2 : Int) : Int) u); have HK2 := Aside0.mk (HK1.out.app HG1.out (HMod.hMod (i : Int) (2 : Int) : Int) u); clear HG1 HK1 hcell1) | ((with_reducible refine gate_dst (N := 57) rfl ?_); (try (refine gate_guard (by rfl) ?_; dsimp only)); refine goesL_ (some 57) rfl rfl Try.func21 (by kernel_rfl) rfl #[.pointer (some ⟨w.heap.size, 0, none⟩)] rfl (by (try simp only [List.map_toArray, List.map_cons, List.map_nil]); first | done | rfl | (simp only [List.length_drop, List.length_take]; rfl)) ?_; refine (tsync w.heap.size (fun k => w.heap.size ≤ k) _ _ HD.out (HG2.out.wf (by omega))).mono ?_; rintro e w57 ⟨rfl, hD, hfr⟩; refine ⟨_, rfl, ?_⟩; have HB' := Aside0.mk (Fr.below' hfr HB.out (fun _ h => h)); clear HB HD hfr; have HD := Aside0.mk hD; have HB := HB'; clear HB' hD; have HG3 := Aside0.mk HG2.out.sync; have HK3 := Aside0.mk (HK2.out.sync HG2.out); clear HG2 HK2))
          go_roundg (l.length - (i + 1))
          case measure => have := HK.out; omega
          case rel => exact ⟨i + 1, by go_num, by omega, ⟨by omega⟩, ⟨_, HD.out, HG3.out.mono (by omega), HK3.out⟩, HB⟩
        · have h4 : (((i : Int) % 3) == 1) = false := by rw [beq_eq_false_iff_ne]; exact c4
          clear c3 c4
          go_wp2_with (first | ((with_reducible refine gate_dst (N := 44) rfl ?_); (try (refine gate_guard (by rfl) ?_; dsimp only)); refine goesL_ (some 44) rfl rfl Try.func23 (by kernel_rfl) rfl #[.pointer (some ⟨w.heap.size, 0, none⟩), .int .i64 1] rfl (by (try simp only [List.map_toArray, List.map_cons, List.map_nil]); first | done | rfl | (simp only [List.length_drop, List.length_take]; rfl)) ?_; refine (twipe w.heap.size (fun k => w.heap.size ≤ k) D 1 _ HD.out (HG.out.wf (by omega))).mono ?_; rintro e w44 ⟨rfl, hD, hfr⟩; refine ⟨_, rfl, ?_⟩; have HB' := Aside0.mk (Fr.below' hfr HB.out (fun _ h => h)); clear HB HD hfr; have HD := Aside0.mk hD; have HB := HB'; clear HB' hD; have HG1 := Aside0.mk (HG.out.wipe 1); have HK1 := Aside0.mk (HKA.out.wipe1); clear HG HKA; have hcell1 := hcell0.out HB.out) | ((with_reducible refine gate_dst (N := 52) rfl ?_); (try (refine gate_guard (by rfl) ?_; dsimp only)); refine goesL_ (some 52) rfl rfl Try.func15 (by kernel_rfl) rfl #[.pointer (some ⟨w.heap.size, 0, none⟩), .int .i64 (HMod.hMod (i : Int) (2 : Int) : Int), .slice A0 u.length c0] rfl (by (try simp only [List.map_toArray, List.map_cons, List.map_nil]); first | done | rfl | (simp only [List.length_drop, List.length_take]; rfl)) ?_; refine (tapp w.heap.size (fun k => w.heap.size ≤ k) (D.wipe 1) _ A0 c0 u _ HD.out (HG1.out.wf (by omega)) (hrow0.out _ HB.out) (by omega) (hne0.out) (fun k hk => Nat.le_trans HB.out.size hk)).mono ?_; rintro e w52 ⟨rfl, hD, hfr⟩; refine ⟨_, rfl, ?_⟩; have HB' := Aside0.mk (Fr.below' hfr HB.out (fun _ h => h)); clear HB HD hfr; have HD := Aside0.mk hD; have HB := HB'; clear HB' hD; have HG2 := Aside0.mk (HG1.out.app (HMod.hMod (i : Int) (2 : Int) : Int) u); have HK2 := Aside0.mk (HK1.out.app HG1.out (HMod.hMod (i : Int) (2 : Int) : Int) u); clear HG1 HK1 hcell1))
          go_roundg (l.length - (i + 1))
          case measure => have := HK.out; omega
          case rel => exact ⟨i + 1, by go_num, by omega, ⟨by omega⟩, ⟨_, HD.out, HG2.out.mono (by omega), HK2.out⟩, HB⟩
    · have cb : decide ((i : Int) < (l.length : Int)) = false := decide_eq_false (by omega)
      have cbn : decide (i < l.length) = false := decide_eq_false c
      have hge : l.length ≤ i := by omega
      obtain ⟨x, hx⟩ : ∃ x, Dk.read D.restart 0 = x := ⟨_, rfl⟩
      have HX := Aside0.mk hx
      have hkr := HKA.out.restart
      have hgr := HG.out.restart (by omega)
      have hxe : x = Dk.b0 D.restart := by rw [← hx]; rfl
      have hxl : a.length ≤ x.length := by rw [hxe]; exact Nat.le_trans hkr.1 hgr.1
      have hxa := Aside0.mk (show x.take a.length = a by rw [hxe]; exact hkr.2)
      have hxb : x.length ≤ 200000 := by rw [hxe]; have := hgr.2.2.1; have := hgr.2.2.2.2.1; omega
      have h5 : decide ((a.length : Int) ≤ (x.length : Int)) = true := decide_eq_true (by omega)
      have h5n : decide (a.length ≤ x.length) = true := decide_eq_true hxl
      have HLB := Aside0.mk (show (Dk.b0 D.restart).length ≤ 140737488351232 ∧ (Dk.b1 D.restart).length ≤ 140737488351232 by have := hgr.2.2.1; have := hgr.2.2.2.1; have := hgr.2.2.2.2.1; omega)
      clear hx hkr hgr hxe c
      go_wp2_with (first | ((with_reducible refine gate_dst (N := 59) rfl ?_); (try (refine gate_guard (by rfl) ?_; dsimp only)); refine goesL_ (some 59) rfl rfl Try.func22 (by kernel_rfl) rfl #[.pointer (some ⟨w.heap.size, 0, none⟩)] rfl (by (try simp only [List.map_toArray, List.map_cons, List.map_nil]); first | done | rfl | (simp only [List.length_drop, List.length_take]; rfl)) ?_; refine (trestart w.heap.size (fun k => w.heap.size ≤ k) D _ HD.out ⟨HG.out.1, HG.out.2.1⟩).mono ?_; rintro e w59 ⟨rfl, hD, hfr⟩; refine ⟨_, rfl, ?_⟩; have HB' := Aside0.mk (Fr.below' hfr HB.out (fun _ h => h)); clear HB HD hfr; have HD := Aside0.mk hD; have HB := HB'; clear HB' hD) | ((with_reducible refine gate_dst (N := 61) rfl ?_); (try (refine gate_guard (by rfl) ?_; dsimp only)); refine goesL_ (some 61) rfl rfl Try.func16 (by kernel_rfl) rfl #[.pointer (some ⟨w.heap.size, 0, none⟩), .int .i64 0] rfl (by (try simp only [List.map_toArray, List.map_cons, List.map_nil]); first | done | rfl | (simp only [List.length_drop, List.length_take]; rfl)) ?_; refine (tread w.heap.size (fun k => w.heap.size ≤ k) D.restart 0 _ HD.out HLB.out.1 HLB.out.2).mono ?_; rintro e w61 ⟨v61, rfl, ho, hbl⟩; refine ⟨_, rfl, ?_⟩; rw [HX.out] at ho; have HD' := Aside0.mk (HD.out.below hbl); have HB' := Aside0.mk (below_step HB.out hbl); clear HD HB hbl; have HD := HD'; have HB := HB'; clear HD' HB'; obtain ⟨Ax, cx, ex⟩ := Kd.R_slice ho; subst ex; have H6 := Aside0.mk (Kd.R_reads' ho).2; clear ho))
      obtain ⟨y, hy, hyr, hyC, hyc⟩ := cutH (P := Try.prog) (Kd.int .u8) 22 5 Try.underlying22 info5 .i64 Ax cx x (a.length : Int) a.length rfl hxl H6.out.1
      have hya : y = a := by rw [hy.out]; exact hxa.out
      subst hya
      have HCY := Aside0.mk (hyC.out _ H6.out.2)
      have HCA := Aside0.mk (Kd.C_below HR.out HB.out)
      have hr1 : ∀ W : World, (Instr.slice 22 (.slice Ax x.length cx) none (some (.int .i64 (y.length : Int))) none).run Try.prog W = .ok (.slice Ax y.length cx) W := hyr
      clear hyr hyC hyc
      go_region_held (fun w' => Aside0 (IsD w' (fun k => w.heap.size ≤ k) w.heap.size D.restart) ∧ Aside0 (Below w.heap.size w w') ∧ Aside0 (Kd.C (Kd.int .u8) w' Ax y.length y) ∧ Aside0 (Kd.C (Kd.int .u8) w' A y.length y) ∧ (convert 22 9 (.slice Ax y.length cx)).run Try.prog w' = .ok (.string (strOfNums y)) w' ∧ (convert 22 9 (.slice A y.length ca)).run Try.prog w' = .ok (.string (strOfNums y)) w') (first | exact ⟨⟨HD.out.below (below_drew (Below.refl _ _))⟩, ⟨below_drew HB.out⟩, ⟨Kd.C_drew HCY.out⟩, ⟨Kd.C_drew HCA.out⟩, cstr (Kd.C_drew HCY.out), cstr (Kd.C_drew HCA.out)⟩ | exact ⟨⟨s1.out.below hbl⟩, ⟨below_step s2.out hbl⟩, ⟨Kd.C_below s3.out hbl⟩, ⟨Kd.C_below s4.out hbl⟩, cstr (Kd.C_below s3.out hbl), cstr (Kd.C_below s4.out hbl)⟩)
        (first | (go_at_call 19; obtain ⟨s1, s2, s3, s4, s5⟩ := (by assumption : Aside0 (IsD _ (fun k => w.heap.size ≤ k) w.heap.size D.restart) ∧ _ ∧ _ ∧ _ ∧ _ ∧ _); clear s5; refine (tdown' w.heap.size (fun k => w.heap.size ≤ k) D.restart _ s1.out).mono ?_; rintro e w79 ⟨rfl, hbl⟩; rw [show Dk.down D.restart = false from rfl]) | (go_at_call 17; obtain ⟨s1, s2, s3, s4, s5⟩ := (by assumption : Aside0 (IsD _ (fun k => w.heap.size ≤ k) w.heap.size D.restart) ∧ _ ∧ _ ∧ _ ∧ _ ∧ _); clear s5; refine (known4 _).mono ?_; rintro e w83 ⟨rfl, hbl⟩))
      go_wp2
      go_ret
      exact ⟨rfl, by obtain ⟨s1, s2, s3, s4, s5⟩ := (by assumption : Aside0 (IsD _ (fun k => w.heap.size ≤ k) w.heap.size D.restart) ∧ _ ∧ _ ∧ _ ∧ _ ∧ _); exact s2.out⟩
end Go.Proofs.Ythaeppjhmjpecaa.B
