/- TapeKeeps: the walk. -/
import Derived.Deep.RegionHeld
import Derived.Laws.Concat
import Derived.Deep.DrawnRows
import Derived.Test.YthaeppjhmjpecaaT10
namespace Go.Proofs.Ythaeppjhmjpecaa.B
open Go.RowKit Go.Proofs.YthaeppjhmjpecaaW.PrintWords Go.Proofs.YthaeppjhmjpecaaW.PrintLast Go.Proofs.YthaeppjhmjpecaaW.PrintMore
attribute [local go_sem] max2_int min2_int max_two min_two max_three min_three max_four min_four
set_option linter.unusedVariables false
set_option linter.unusedSimpArgs false

attribute [local go_sem ↓] Go.wp_at_zero Go.wp_at_succ

theorem str_append (a b : List Int) : strOfNums a ++ strOfNums b = strOfNums (a ++ b) := by
  apply ByteArray.ext
  rw [ByteArray.data_append]
  simp [strOfNums]
set_option maxRecDepth 100000 in
set_option maxHeartbeats 4000000 in
theorem lawTKeeps (A : Option Addr) (ca : Nat) (a : List Int) (B : Option Addr) (cb : Nat) (b : List Int) (C : Option Addr) (cc : Nat) (c : List Int) (kp : Int) (w : World) (hr : Kd.C (Kd.int .u8) w A a.length a) (hc : a.length ≤ ca) (hb : IsB a) (hl : a.length ≤ 140737488351232)
    (hr2 : Kd.C (Kd.int .u8) w B b.length b) (hc2 : b.length ≤ cb) (hb2 : IsB b) (hl2 : b.length ≤ 140737488351232) (hr3 : Kd.C (Kd.int .u8) w C c.length c) (hc3 : c.length ≤ cc) (hb3 : IsB c) (hl3 : c.length ≤ 140737488351232) (hkp : -9223372036854775808 ≤ kp ∧ kp < 9223372036854775808) :
    Calls Try.prog 5 #[.slice A a.length ca, .slice B b.length cb, .slice C c.length cc, .int .i64 kp] w fun e w' => e = .returned (.bool true) ∧ Below w.heap.size w w' := by
  have HR := Aside0.mk hr
  have HR2 := Aside0.mk hr2
  have HR3 := Aside0.mk hr3
  have HA1 := Aside0.mk (C_block hr)
  have HA2 := Aside0.mk (C_block hr2)
  have HA3 := Aside0.mk (C_block hr3)
  have HB := Aside0.mk (Below.refl w.heap.size w)
  have HKP := Aside0.mk hkp
  clear hr hr2 hr3 hb hb2 hb3
  by_cases c0 : 100 < a.length
  · have h0 : decide (100 < (a.length : Int)) = true := decide_eq_true (by omega)
    have h0n : decide (100 < a.length) = true := decide_eq_true c0
    go_enter Try.func5, Try.ntmps5
    go_wp2
    go_ret
    exact ⟨rfl, HB.out⟩
  have h0 : decide (100 < (a.length : Int)) = false := decide_eq_false (by omega)
  have h0n : decide (100 < a.length) = false := decide_eq_false c0
  by_cases c1 : 100 < b.length
  · have h1 : decide (100 < (b.length : Int)) = true := decide_eq_true (by omega)
    have h1n : decide (100 < b.length) = true := decide_eq_true c1
    go_enter Try.func5, Try.ntmps5
    go_wp2
    go_ret
    exact ⟨rfl, HB.out⟩
  have h1 : decide (100 < (b.length : Int)) = false := decide_eq_false (by omega)
  have h1n : decide (100 < b.length) = false := decide_eq_false c1
  by_cases c2 : 100 < c.length
  · have h2 : decide (100 < (c.length : Int)) = true := decide_eq_true (by omega)
    have h2n : decide (100 < c.length) = true := decide_eq_true c2
    go_enter Try.func5, Try.ntmps5
    go_wp2
    go_ret
    exact ⟨rfl, HB.out⟩
  have h2 : decide (100 < (c.length : Int)) = false := decide_eq_false (by omega)
  have h2n : decide (100 < c.length) = false := decide_eq_false c2
  have la : a.length ≤ 100 := by omega
  have lb : b.length ≤ 100 := by omega
  have lc : c.length ≤ 100 := by omega
  have E1 := Aside0.mk (show Dk.appE ⟨500, [], 0, [], 0, 0, 0, false, false, 0⟩ 1 a = 0 ∧ Dk.app ⟨500, [], 0, [], 0, 0, 0, false, false, 0⟩ 1 a = ⟨500, [], 0, a, 0, 0, 0, false, false, 1⟩ from app_ok1 (D := ⟨500, [], 0, [], 0, 0, 0, false, false, 0⟩) (l := a) rfl (show ¬ (500 : Int) - ((0 : Nat) : Int) < (a.length : Int) by omega) rfl)
  have E2 := Aside0.mk (show Dk.syncE ⟨500, [], 0, a, 0, 0, 0, false, false, 1⟩ = 0 ∧ Dk.sync ⟨500, [], 0, a, 0, 0, 0, false, false, 1⟩ = ⟨500, [], 0, a, a.length, 0, 0, false, false, 2⟩ from sync_ok (D := ⟨500, [], 0, a, 0, 0, 0, false, false, 1⟩) rfl rfl)
  have E3 := Aside0.mk (show Dk.appE ⟨500, [], 0, a, a.length, 4, kp, true, false, 2⟩ 1 c = 0 ∧ Dk.app ⟨500, [], 0, a, a.length, 4, kp, true, false, 2⟩ 1 c = ⟨500, [], 0, a ++ c, a.length, 4, kp, true, false, 3⟩ from app_ok1 (D := ⟨500, [], 0, a, a.length, 4, kp, true, false, 2⟩) (l := c) rfl (show ¬ (500 : Int) - (a.length : Int) < (c.length : Int) by omega) rfl)
  have E4 := Aside0.mk (show Dk.appE ⟨500, [], 0, a ++ c, a.length, 4, kp, true, false, 3⟩ 0 b = 0 ∧ Dk.app ⟨500, [], 0, a ++ c, a.length, 4, kp, true, false, 3⟩ 0 b = ⟨500, b, 0, a ++ c, a.length, 4, kp, true, false, 4⟩ from app_ok0 (D := ⟨500, [], 0, a ++ c, a.length, 4, kp, true, false, 3⟩) (l := b) rfl (show ¬ (500 : Int) - ((0 : Nat) : Int) < (b.length : Int) by omega) rfl)
  have E5 := Aside0.mk (show Dk.syncE ⟨500, b, 0, a ++ c, a.length, 4, kp, true, false, 4⟩ = 11 ∧ Dk.sync ⟨500, b, 0, a ++ c, a.length, 4, kp, true, false, 4⟩ = (Dk.crash ⟨500, b, 0, a ++ c, a.length, 4, kp, true, false, 4⟩) from sync_hit (D := ⟨500, b, 0, a ++ c, a.length, 4, kp, true, false, 4⟩) rfl rfl)
  have F0 := Aside0.mk (show Dk.Wf ⟨500, [], 0, [], 0, 0, 0, false, false, 0⟩ by unfold Dk.Wf; decide)
  have F1 := Aside0.mk (show Dk.Wf ⟨500, [], 0, a, 0, 0, 0, false, false, 1⟩ from ⟨Nat.zero_le _, Nat.zero_le _, show ((0 : Nat) : Int) ≤ 500 by omega, show ((a.length : Nat) : Int) ≤ 500 by omega, show (500 : Int) ≤ 200000 by decide, show (0 : Int) ≤ 1 by decide, show (1 : Int) < 1000000 by decide, ⟨show (-9223372036854775808 : Int) ≤ 0 by decide, show (0 : Int) < 9223372036854775808 by decide⟩⟩)
  have F3 := Aside0.mk (show Dk.Wf ⟨500, [], 0, a, a.length, 4, kp, true, false, 2⟩ from ⟨Nat.zero_le _, Nat.le_refl _, show ((0 : Nat) : Int) ≤ 500 by omega, show ((a.length : Nat) : Int) ≤ 500 by omega, show (500 : Int) ≤ 200000 by decide, show (0 : Int) ≤ 2 by decide, show (2 : Int) < 1000000 by decide, HKP.out⟩)
  have F4 := Aside0.mk (show Dk.Wf ⟨500, [], 0, a ++ c, a.length, 4, kp, true, false, 3⟩ from ⟨Nat.zero_le _, show a.length ≤ (a ++ c).length by simp, show ((0 : Nat) : Int) ≤ 500 by omega, show (((a ++ c).length : Nat) : Int) ≤ 500 by simp; omega, show (500 : Int) ≤ 200000 by decide, show (0 : Int) ≤ 3 by decide, show (3 : Int) < 1000000 by decide, HKP.out⟩)
  have F5 := Aside0.mk (show Dk.Wf ⟨500, b, 0, a ++ c, a.length, 4, kp, true, false, 4⟩ from ⟨Nat.zero_le _, show a.length ≤ (a ++ c).length by simp, show ((b.length : Nat) : Int) ≤ 500 by omega, show (((a ++ c).length : Nat) : Int) ≤ 500 by simp; omega, show (500 : Int) ≤ 200000 by decide, show (0 : Int) ≤ 4 by decide, show (4 : Int) < 1000000 by decide, HKP.out⟩)
  obtain ⟨L, hL⟩ : ∃ L : Nat, L = kp.toNat := ⟨_, rfl⟩
  obtain ⟨k, hk⟩ : ∃ k : Nat, k = min L b.length := ⟨_, rfl⟩
  obtain ⟨L1, hL1⟩ : ∃ L1 : Nat, L1 = L - k := ⟨_, rfl⟩
  obtain ⟨j, hj⟩ : ∃ j : Nat, j = min L1 c.length := ⟨_, rfl⟩
  have hm0 : (if kp < 0 then 0 else kp) = (L : Int) := by rw [hL]; split <;> omega
  have hm1 : (if (b.length : Int) < (L : Int) then (b.length : Int) else (L : Int)) = (k : Int) := by rw [hk]; split <;> omega
  have hm1n : (if b.length < L then (b.length : Int) else (L : Int)) = (k : Int) := by rw [hk]; split <;> omega
  have hm3n : (if c.length < L1 then (c.length : Int) else (L1 : Int)) = (j : Int) := by rw [hj]; split <;> omega
  have hm2 : (L : Int) - (k : Int) = (L1 : Int) := by omega
  have hm3 : (if (c.length : Int) < (L1 : Int) then (c.length : Int) else (L1 : Int)) = (j : Int) := by rw [hj]; split <;> omega
  have hkb : k ≤ b.length ∧ k ≤ L ∧ j ≤ c.length := by omega
  have hm4 : IntKind.i64.wrap ((L : Int) - (k : Int)) = (L1 : Int) := by rw [hm2]; simp [IntKind.wrap, IntKind.bits, IntKind.signed]; have := hkp.2; omega
  obtain ⟨x, hx, hxr, hxC, hxc⟩ := cutH (P := Try.prog) (Kd.int .u8) 22 5 Try.underlying22 info5 .i64 B cb b (k : Int) k rfl hkb.1 hc2
  obtain ⟨z, hz, hzr, hzC, hzc⟩ := cutH (P := Try.prog) (Kd.int .u8) 22 5 Try.underlying22 info5 .i64 C cc c (j : Int) j rfl hkb.2.2 hc3
  obtain ⟨y, hy⟩ : ∃ y, y = a ++ z := ⟨_, rfl⟩
  have RD := Aside0.mk (show Dk.read (Dk.crash ⟨500, b, 0, a ++ c, a.length, 4, kp, true, false, 4⟩) 0 = x ∧ Dk.read (Dk.crash ⟨500, b, 0, a ++ c, a.length, 4, kp, true, false, 4⟩) 1 = y ∧ Dk.read (Dk.restart (Dk.crash ⟨500, b, 0, a ++ c, a.length, 4, kp, true, false, 4⟩)) 0 = x ∧ Dk.read (Dk.restart (Dk.crash ⟨500, b, 0, a ++ c, a.length, 4, kp, true, false, 4⟩)) 1 = y by
    have e0 : Dk.k0 ⟨500, b, 0, a ++ c, a.length, 4, kp, true, false, 4⟩ = k := by show min kp.toNat (b.length - 0) = k; rw [← hL, hk, Nat.sub_zero]
    have e1 : Dk.k1 ⟨500, b, 0, a ++ c, a.length, 4, kp, true, false, 4⟩ = j := by
      show min (kp.toNat - Dk.k0 ⟨500, b, 0, a ++ c, a.length, 4, kp, true, false, 4⟩) ((a ++ c).length - a.length) = j
      rw [e0, ← hL, ← hL1, hj, List.length_append, Nat.add_sub_cancel_left]
    have r0 : Dk.read (Dk.crash ⟨500, b, 0, a ++ c, a.length, 4, kp, true, false, 4⟩) 0 = x := by
      show b.take (0 + Dk.k0 ⟨500, b, 0, a ++ c, a.length, 4, kp, true, false, 4⟩) = x
      rw [e0, Nat.zero_add, hx.out]
    have r1 : Dk.read (Dk.crash ⟨500, b, 0, a ++ c, a.length, 4, kp, true, false, 4⟩) 1 = y := by
      show (a ++ c).take (a.length + Dk.k1 ⟨500, b, 0, a ++ c, a.length, 4, kp, true, false, 4⟩) = y
      rw [e1, hy, hz.out, List.take_append, List.take_of_length_le (by omega), Nat.add_sub_cancel_left]
    refine ⟨r0, r1, ?_, ?_⟩
    · show (b.take (0 + Dk.k0 ⟨500, b, 0, a ++ c, a.length, 4, kp, true, false, 4⟩)).take (0 + Dk.k0 ⟨500, b, 0, a ++ c, a.length, 4, kp, true, false, 4⟩) = x
      rw [List.take_take, Nat.min_self]
      exact r0
    · show ((a ++ c).take (a.length + Dk.k1 ⟨500, b, 0, a ++ c, a.length, 4, kp, true, false, 4⟩)).take (a.length + Dk.k1 ⟨500, b, 0, a ++ c, a.length, 4, kp, true, false, 4⟩) = y
      rw [List.take_take, Nat.min_self]
      exact r1)
  have hcat : strOfNums a ++ strOfNums z = strOfNums y := by rw [hy]; exact str_append a z
  have hsa : (strOfNums a).size ≤ 100 := by rw [strOfNums_size]; omega
  have hsz : (strOfNums z).size ≤ 100 := by rw [strOfNums_size, hz.out, List.length_take]; omega
  have hadd : ∀ W, (Op.stringOp .add (strOfNums a) (strOfNums z)).run Try.prog W = .ok (.string (strOfNums y)) W := fun W => by rw [← hcat]; exact run_string_add_sum _ (strOfNums a) (strOfNums z) (Nat.le_trans (Nat.add_le_add hsa hsz) (by decide))
  have hxy : x.length ≤ 100 ∧ y.length ≤ 200 ∧ z.length ≤ 100 := by rw [hy, hx.out, hz.out, List.length_append, List.length_take, List.length_take]; omega
  have HLB := Aside0.mk (show (Dk.b0 (Dk.crash ⟨500, b, 0, a ++ c, a.length, 4, kp, true, false, 4⟩)).length ≤ 140737488351232 ∧ (Dk.b1 (Dk.crash ⟨500, b, 0, a ++ c, a.length, 4, kp, true, false, 4⟩)).length ≤ 140737488351232 by
    constructor
    · show (b.take _).length ≤ _
      rw [List.length_take]; omega
    · show ((a ++ c).take _).length ≤ _
      rw [List.length_take, List.length_append]; omega)
  have HLR := Aside0.mk (show (Dk.b0 (Dk.restart (Dk.crash ⟨500, b, 0, a ++ c, a.length, 4, kp, true, false, 4⟩))).length ≤ 140737488351232 ∧ (Dk.b1 (Dk.restart (Dk.crash ⟨500, b, 0, a ++ c, a.length, 4, kp, true, false, 4⟩))).length ≤ 140737488351232 by
    constructor
    · show ((b.take _).take _).length ≤ _
      rw [List.length_take, List.length_take]; omega
    · show (((a ++ c).take _).take _).length ≤ _
      rw [List.length_take, List.length_take, List.length_append]; omega)
  have HRS := Aside0.mk (show Dk.s0 (Dk.crash ⟨500, b, 0, a ++ c, a.length, 4, kp, true, false, 4⟩) ≤ (Dk.b0 (Dk.crash ⟨500, b, 0, a ++ c, a.length, 4, kp, true, false, 4⟩)).length ∧ Dk.s1 (Dk.crash ⟨500, b, 0, a ++ c, a.length, 4, kp, true, false, 4⟩) ≤ (Dk.b1 (Dk.crash ⟨500, b, 0, a ++ c, a.length, 4, kp, true, false, 4⟩)).length by
    constructor
    · show 0 + Dk.k0 ⟨500, b, 0, a ++ c, a.length, 4, kp, true, false, 4⟩ ≤ (b.take (0 + Dk.k0 ⟨500, b, 0, a ++ c, a.length, 4, kp, true, false, 4⟩)).length
      have := Dk.k0_le ⟨500, b, 0, a ++ c, a.length, 4, kp, true, false, 4⟩ (Nat.zero_le _)
      rw [List.length_take]
      have : 0 + Dk.k0 ⟨500, b, 0, a ++ c, a.length, 4, kp, true, false, 4⟩ ≤ b.length := this
      omega
    · show a.length + Dk.k1 ⟨500, b, 0, a ++ c, a.length, 4, kp, true, false, 4⟩ ≤ ((a ++ c).take (a.length + Dk.k1 ⟨500, b, 0, a ++ c, a.length, 4, kp, true, false, 4⟩)).length
      have : a.length + Dk.k1 ⟨500, b, 0, a ++ c, a.length, 4, kp, true, false, 4⟩ ≤ (a ++ c).length := Dk.k1_le ⟨500, b, 0, a ++ c, a.length, 4, kp, true, false, 4⟩ (show a.length ≤ (a ++ c).length by simp)
      rw [List.length_take]
      omega)
  clear c0 c1 c2 hL hk hL1 hj hy
  go_enter Try.func5, Try.ntmps5
  go_wp2_with (first | ((with_reducible refine gate_dst (N := 30) rfl ?_); (try (refine gate_guard (by rfl) ?_; dsimp only)); refine goesL_ (some 30) rfl rfl Try.func14 (by kernel_rfl) rfl #[.int .i64 500] rfl (by (try simp only [List.map_toArray, List.map_cons, List.map_nil]); first | done | rfl | (simp only [List.length_drop, List.length_take]; rfl)) ?_; refine (tnew 500 _ (by decide) (by decide) (fun k => w.heap.size ≤ k) (Nat.le_refl _)).mono ?_; rintro e w1 ⟨rfl, hD, hbl⟩; refine ⟨_, rfl, ?_⟩; have HD := Aside0.mk hD; have HB' := Aside0.mk (below_step HB.out hbl); clear HB hbl hD; have HB := HB'; clear HB') | ((with_reducible refine gate_dst (N := 33) rfl ?_); (try (refine gate_guard (by rfl) ?_; dsimp only)); refine goesL_ (some 33) rfl rfl Try.func15 (by kernel_rfl) rfl #[.pointer (some ⟨w.heap.size, 0, none⟩), .int .i64 1, .slice A a.length ca] rfl (by (try simp only [List.map_toArray, List.map_cons, List.map_nil]); first | done | rfl | (simp only [List.length_drop, List.length_take]; rfl)) ?_; refine (tapp w.heap.size (fun k => w.heap.size ≤ k) _ 1 A ca a _ HD.out F0.out (Kd.C_below HR.out HB.out) (by omega) (fun ad e hp => Nat.ne_of_lt (HA1.out ad e hp)) (fun k hk => Nat.le_trans HB.out.size hk)).mono ?_; rintro e w2 ⟨rfl, hD, hfr⟩; refine ⟨_, rfl, ?_⟩; rw [E1.out.1]; rw [E1.out.2] at hD; have HB' := Aside0.mk (Fr.below' hfr HB.out (fun _ h => h)); clear HB HD hfr; have HD := Aside0.mk hD; have HB := HB'; clear HB' hD) | ((with_reducible refine gate_dst (N := 37) rfl ?_); (try (refine gate_guard (by rfl) ?_; dsimp only)); refine goesL_ (some 37) rfl rfl Try.func21 (by kernel_rfl) rfl #[.pointer (some ⟨w.heap.size, 0, none⟩)] rfl (by (try simp only [List.map_toArray, List.map_cons, List.map_nil]); first | done | rfl | (simp only [List.length_drop, List.length_take]; rfl)) ?_; refine (tsync w.heap.size (fun k => w.heap.size ≤ k) _ _ HD.out F1.out).mono ?_; rintro e w3 ⟨rfl, hD, hfr⟩; refine ⟨_, rfl, ?_⟩; rw [E2.out.1]; rw [E2.out.2] at hD; have HB' := Aside0.mk (Fr.below' hfr HB.out (fun _ h => h)); clear HB HD hfr; have HD := Aside0.mk hD; have HB := HB'; clear HB' hD) | ((with_reducible refine gate_dst (N := 43) rfl ?_); (try (refine gate_guard (by rfl) ?_; dsimp only)); refine goesL_ (some 43) rfl rfl Try.func18 (by kernel_rfl) rfl #[.pointer (some ⟨w.heap.size, 0, none⟩), .agg #[.int .i64 4, .int .i64 kp]] rfl (by (try simp only [List.map_toArray, List.map_cons, List.map_nil]); first | done | rfl | (simp only [List.length_drop, List.length_take]; rfl)) ?_; refine (tarm w.heap.size (fun k => w.heap.size ≤ k) ⟨500, [], 0, a, a.length, 0, 0, false, false, 2⟩ 4 kp _ HD.out).mono ?_; rintro e w4 ⟨rfl, hD, hfr⟩; refine ⟨_, rfl, ?_⟩; replace hD := (show IsD w4 (fun k => w.heap.size ≤ k) w.heap.size ⟨500, [], 0, a, a.length, 4, kp, true, false, 2⟩ from hD); have HB' := Aside0.mk (Fr.below' hfr HB.out (fun _ h => h)); clear HB HD hfr; have HD := Aside0.mk hD; have HB := HB'; clear HB' hD) | ((with_reducible refine gate_dst (N := 46) rfl ?_); (try (refine gate_guard (by rfl) ?_; dsimp only)); refine goesL_ (some 46) rfl rfl Try.func15 (by kernel_rfl) rfl #[.pointer (some ⟨w.heap.size, 0, none⟩), .int .i64 1, .slice C c.length cc] rfl (by (try simp only [List.map_toArray, List.map_cons, List.map_nil]); first | done | rfl | (simp only [List.length_drop, List.length_take]; rfl)) ?_; refine (tapp w.heap.size (fun k => w.heap.size ≤ k) _ 1 C cc c _ HD.out F3.out (Kd.C_below HR3.out HB.out) (by omega) (fun ad e hp => Nat.ne_of_lt (HA3.out ad e hp)) (fun k hk => Nat.le_trans HB.out.size hk)).mono ?_; rintro e w5 ⟨rfl, hD, hfr⟩; refine ⟨_, rfl, ?_⟩; rw [E3.out.1]; rw [E3.out.2] at hD; have HB' := Aside0.mk (Fr.below' hfr HB.out (fun _ h => h)); clear HB HD hfr; have HD := Aside0.mk hD; have HB := HB'; clear HB' hD) | ((with_reducible refine gate_dst (N := 49) rfl ?_); (try (refine gate_guard (by rfl) ?_; dsimp only)); refine goesL_ (some 49) rfl rfl Try.func15 (by kernel_rfl) rfl #[.pointer (some ⟨w.heap.size, 0, none⟩), .int .i64 0, .slice B b.length cb] rfl (by (try simp only [List.map_toArray, List.map_cons, List.map_nil]); first | done | rfl | (simp only [List.length_drop, List.length_take]; rfl)) ?_; refine (tapp w.heap.size (fun k => w.heap.size ≤ k) _ 0 B cb b _ HD.out F4.out (Kd.C_below HR2.out HB.out) (by omega) (fun ad e hp => Nat.ne_of_lt (HA2.out ad e hp)) (fun k hk => Nat.le_trans HB.out.size hk)).mono ?_; rintro e w6 ⟨rfl, hD, hfr⟩; refine ⟨_, rfl, ?_⟩; rw [E4.out.1]; rw [E4.out.2] at hD; have HB' := Aside0.mk (Fr.below' hfr HB.out (fun _ h => h)); clear HB HD hfr; have HD := Aside0.mk hD; have HB := HB'; clear HB' hD) | ((with_reducible refine gate_dst (N := 51) rfl ?_); (try (refine gate_guard (by rfl) ?_; dsimp only)); refine goesL_ (some 51) rfl rfl Try.func21 (by kernel_rfl) rfl #[.pointer (some ⟨w.heap.size, 0, none⟩)] rfl (by (try simp only [List.map_toArray, List.map_cons, List.map_nil]); first | done | rfl | (simp only [List.length_drop, List.length_take]; rfl)) ?_; refine (tsync w.heap.size (fun k => w.heap.size ≤ k) _ _ HD.out F5.out).mono ?_; rintro e w7 ⟨rfl, hD, hfr⟩; refine ⟨_, rfl, ?_⟩; rw [E5.out.1]; rw [E5.out.2] at hD; have HB' := Aside0.mk (Fr.below' hfr HB.out (fun _ h => h)); clear HB HD hfr; have HD := Aside0.mk hD; have HB := HB'; clear HB' hD))
  go_region_held (fun w' => Aside0 (IsD w' (fun k => w.heap.size ≤ k) w.heap.size (Dk.crash ⟨500, b, 0, a ++ c, a.length, 4, kp, true, false, 4⟩)) ∧ Aside0 (Below w.heap.size w w')) (first | exact ⟨⟨HD.out.below (below_drew (Below.refl _ _))⟩, ⟨below_drew HB.out⟩⟩ | exact ⟨⟨s1.out.below hblA⟩, ⟨below_step s2.out hblA⟩⟩ | exact ⟨⟨s3.out.below hblB⟩, ⟨below_step s4.out hblB⟩⟩)
    (first | (go_at_call 16; obtain ⟨s1, s2⟩ := (by assumption : Aside0 (IsD _ (fun k => w.heap.size ≤ k) w.heap.size (Dk.crash ⟨500, b, 0, a ++ c, a.length, 4, kp, true, false, 4⟩)) ∧ _); (with_reducible refine (tread w.heap.size (fun k => w.heap.size ≤ k) (Dk.crash ⟨500, b, 0, a ++ c, a.length, 4, kp, true, false, 4⟩) 0 _ s1.out HLB.out.1 HLB.out.2).mono ?_); rintro e wA ⟨vA, rfl, ho, hblA⟩; rw [RD.out.1] at ho; obtain ⟨Ax, cx, ex⟩ := Kd.R_slice ho; subst ex; have hs65 := cstr (c := cx) (Kd.R_reads' ho).2.2; have H65 := Aside0.mk (Kd.R_reads' ho).2.2; clear ho) | (go_at_call 16; obtain ⟨s3, s4⟩ := (by assumption : Aside0 (IsD _ (fun k => w.heap.size ≤ k) w.heap.size (Dk.crash ⟨500, b, 0, a ++ c, a.length, 4, kp, true, false, 4⟩)) ∧ _); (with_reducible refine (tread w.heap.size (fun k => w.heap.size ≤ k) (Dk.crash ⟨500, b, 0, a ++ c, a.length, 4, kp, true, false, 4⟩) 1 _ s3.out HLB.out.1 HLB.out.2).mono ?_); rintro e wB ⟨vB, rfl, ho, hblB⟩; rw [RD.out.2.1] at ho; obtain ⟨Ay, cy, ey⟩ := Kd.R_slice ho; subst ey; have hs68 := cstr (c := cy) (Kd.R_reads' ho).2.2; have hs66 := cstr (c := cx) (Kd.C_below H65.out hblB); clear ho))
  all_goals obtain ⟨s5, s6⟩ := (by assumption : Aside0 (IsD wB (fun k => w.heap.size ≤ k) w.heap.size (Dk.crash ⟨500, b, 0, a ++ c, a.length, 4, kp, true, false, 4⟩)) ∧ _)
  all_goals rename_i Q0 K0 hK hHeld
  all_goals refine hK _ _ ?_
  all_goals clear hK K0 hHeld hs65 hs68 hs66 H65 s1 s2 s3 s4 hblA hblB HD HB
  all_goals go_wp2_with (first | ((with_reducible refine gate_dst (N := 71) rfl ?_); (try (refine gate_guard (by rfl) ?_; dsimp only)); refine goesL_ (some 71) rfl rfl Try.func22 (by kernel_rfl) rfl #[.pointer (some ⟨w.heap.size, 0, none⟩)] rfl (by (try simp only [List.map_toArray, List.map_cons, List.map_nil]); first | done | rfl | (simp only [List.length_drop, List.length_take]; rfl)) ?_; refine (trestart w.heap.size (fun k => w.heap.size ≤ k) (Dk.crash ⟨500, b, 0, a ++ c, a.length, 4, kp, true, false, 4⟩) _ s5.out HRS.out).mono ?_; rintro e w71 ⟨rfl, hD, hfr⟩; refine ⟨_, rfl, ?_⟩; have HB := Aside0.mk (Fr.below' hfr s6.out (fun _ h => h)); have HD := Aside0.mk hD; clear hD hfr s5 s6))
  all_goals have HCX := Aside0.mk (hxC.out _ (Kd.C_below HR2.out HB.out))
  all_goals have HCA := Aside0.mk (Kd.C_below HR.out HB.out)
  all_goals have HCZ := Aside0.mk (hzC.out _ (Kd.C_below HR3.out HB.out))
  all_goals go_region_held (fun w' => Aside0 (IsD w' (fun k => w.heap.size ≤ k) w.heap.size (Dk.restart (Dk.crash ⟨500, b, 0, a ++ c, a.length, 4, kp, true, false, 4⟩))) ∧ Aside0 (Below w.heap.size w w') ∧ Aside0 (Kd.C (Kd.int .u8) w' B x.length x) ∧ Aside0 (Kd.C (Kd.int .u8) w' A a.length a) ∧ Aside0 (Kd.C (Kd.int .u8) w' C z.length z) ∧ (convert 22 9 (.slice B x.length cb)).run Try.prog w' = .ok (.string (strOfNums x)) w' ∧ (convert 22 9 (.slice A a.length ca)).run Try.prog w' = .ok (.string (strOfNums a)) w' ∧ (convert 22 9 (.slice C z.length cc)).run Try.prog w' = .ok (.string (strOfNums z)) w') (first | exact ⟨⟨HD.out.below (below_drew (Below.refl _ _))⟩, ⟨below_drew HB.out⟩, ⟨Kd.C_drew HCX.out⟩, ⟨Kd.C_drew HCA.out⟩, ⟨Kd.C_drew HCZ.out⟩, cstr (Kd.C_drew HCX.out), cstr (Kd.C_drew HCA.out), cstr (Kd.C_drew HCZ.out)⟩ | exact ⟨⟨t1.out.below hbl⟩, ⟨below_step t2.out hbl⟩, ⟨Kd.C_below t3.out hbl⟩, ⟨Kd.C_below t4.out hbl⟩, ⟨Kd.C_below t5.out hbl⟩, cstr (Kd.C_below t3.out hbl), cstr (Kd.C_below t4.out hbl), cstr (Kd.C_below t5.out hbl)⟩)
    (first | (go_at_call 16; obtain ⟨t1, t2, t3, t4, t5, t6⟩ := (by assumption : Aside0 (IsD _ (fun k => w.heap.size ≤ k) w.heap.size (Dk.restart (Dk.crash ⟨500, b, 0, a ++ c, a.length, 4, kp, true, false, 4⟩))) ∧ _ ∧ _ ∧ _ ∧ _ ∧ _); clear t6; (with_reducible refine (tread w.heap.size (fun k => w.heap.size ≤ k) (Dk.restart (Dk.crash ⟨500, b, 0, a ++ c, a.length, 4, kp, true, false, 4⟩)) 0 _ t1.out HLR.out.1 HLR.out.2).mono ?_); rintro e wE ⟨vE, rfl, ho, hbl⟩; rw [RD.out.2.2.1] at ho; obtain ⟨Ae, ce, ee⟩ := Kd.R_slice ho; subst ee; have hsE := cstr (c := ce) (Kd.R_reads' ho).2.2; clear ho) | (go_at_call 16; obtain ⟨t1, t2, t3, t4, t5, t6⟩ := (by assumption : Aside0 (IsD _ (fun k => w.heap.size ≤ k) w.heap.size (Dk.restart (Dk.crash ⟨500, b, 0, a ++ c, a.length, 4, kp, true, false, 4⟩))) ∧ _ ∧ _ ∧ _ ∧ _ ∧ _); clear t6; (with_reducible refine (tread w.heap.size (fun k => w.heap.size ≤ k) (Dk.restart (Dk.crash ⟨500, b, 0, a ++ c, a.length, 4, kp, true, false, 4⟩)) 1 _ t1.out HLR.out.1 HLR.out.2).mono ?_); rintro e wF ⟨vF, rfl, ho, hbl⟩; rw [RD.out.2.2.2] at ho; obtain ⟨Af, cf, ef⟩ := Kd.R_slice ho; subst ef; have hsF := cstr (c := cf) (Kd.R_reads' ho).2.2; clear ho) | (go_at_call 19; obtain ⟨t1, t2, t3, t4, t5, t6⟩ := (by assumption : Aside0 (IsD _ (fun k => w.heap.size ≤ k) w.heap.size (Dk.restart (Dk.crash ⟨500, b, 0, a ++ c, a.length, 4, kp, true, false, 4⟩))) ∧ _ ∧ _ ∧ _ ∧ _ ∧ _); clear t6; refine (tdown' w.heap.size (fun k => w.heap.size ≤ k) (Dk.restart (Dk.crash ⟨500, b, 0, a ++ c, a.length, 4, kp, true, false, 4⟩)) _ t1.out).mono ?_; rintro e wG ⟨rfl, hbl⟩; rw [show Dk.down (Dk.restart (Dk.crash ⟨500, b, 0, a ++ c, a.length, 4, kp, true, false, 4⟩)) = false from rfl]) | (go_at_call 20; obtain ⟨t1, t2, t3, t4, t5, t6⟩ := (by assumption : Aside0 (IsD _ (fun k => w.heap.size ≤ k) w.heap.size (Dk.restart (Dk.crash ⟨500, b, 0, a ++ c, a.length, 4, kp, true, false, 4⟩))) ∧ _ ∧ _ ∧ _ ∧ _ ∧ _); clear t6; refine (tops' w.heap.size (fun k => w.heap.size ≤ k) (Dk.restart (Dk.crash ⟨500, b, 0, a ++ c, a.length, 4, kp, true, false, 4⟩)) _ t1.out).mono ?_; rintro e wH ⟨rfl, hbl⟩; rw [show Dk.ops (Dk.restart (Dk.crash ⟨500, b, 0, a ++ c, a.length, 4, kp, true, false, 4⟩)) = 0 from rfl]) | (go_at_call 17; obtain ⟨t1, t2, t3, t4, t5, t6⟩ := (by assumption : Aside0 (IsD _ (fun k => w.heap.size ≤ k) w.heap.size (Dk.restart (Dk.crash ⟨500, b, 0, a ++ c, a.length, 4, kp, true, false, 4⟩))) ∧ _ ∧ _ ∧ _ ∧ _ ∧ _); clear t6; refine (known4 _).mono ?_; rintro e wI ⟨rfl, hbl⟩))
  all_goals go_wp2
  all_goals go_ret
  all_goals exact ⟨rfl, by obtain ⟨t1, t2, t3, t4, t5, t6⟩ := (by assumption : Aside0 (IsD _ (fun k => w.heap.size ≤ k) w.heap.size (Dk.restart (Dk.crash ⟨500, b, 0, a ++ c, a.length, 4, kp, true, false, 4⟩))) ∧ _ ∧ _ ∧ _ ∧ _ ∧ _); exact t2.out⟩
end Go.Proofs.Ythaeppjhmjpecaa.B
