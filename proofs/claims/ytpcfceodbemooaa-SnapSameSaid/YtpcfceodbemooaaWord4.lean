/- word.Get: what the printed walk computes, as plain lists; the contract; word.Next and giroref2.Next. -/
import Derived.Test.YtpcfceodbemooaaWord3
import Derived.Test.YtpcfceodbemooaaQGet
namespace Go.Proofs.Ytpcfceodbemooaa.B
open Go.RowKit Go.Proofs.YtpcfceodbemooaaW.PrintWords Go.Proofs.YtpcfceodbemooaaW.PrintLast Go.Proofs.YtpcfceodbemooaaW.PrintMore
attribute [local go_sem] max2_int min2_int max_two min_two max_three min_three max_four min_four
set_option linter.unusedVariables false
set_option linter.unusedSimpArgs false

theorem wrap64_id {x : Int} (h0 : -9223372036854775808 ≤ x) (h1 : x < 9223372036854775808) : wrap64 x = x := by unfold wrap64; omega
theorem rd_take (l : List Int) (m i : Nat) (h : i < m) : rd (l.take m) i = rd l i := by
  unfold Go.Proofs.YtpcfceodbemooaaW.PrintWords.rd
  rw [Int.toNat_natCast, List.getD_eq_getElem?_getD, List.getD_eq_getElem?_getD, List.getElem?_take_of_lt h]
theorem get_l1 (x0 x4 : List Int) (h8 : 8 ≤ x0.length) (hb : IsB x0) (h4 : x4.length < 17592186044416) (d : Nat) : ∀ (k i : Nat), i + d = 8 →
    word_Get.l1 (k + d + 1) x0 x4 (hor (x0.take i)) (x0.take 8) 8 i = word_Get.l0 k (x0.drop 8) (x4 ++ [dec8 (x0.take 8)]) := by
  induction d with
  | zero =>
    intro k i hi
    obtain rfl : i = 8 := by omega
    simp only [word_Get.l1]
    rw [if_neg (by omega), if_pos h4, if_pos (by omega)]
    rfl
  | succ d ih =>
    intro k i hi
    have hlt : i < 8 := by omega
    have hl : (x0.take 8).length = 8 := by rw [List.length_take]; omega
    have hb1 := hb.rd i
    have hh := hor_small hb (i := i) (by omega)
    have e2 : IntKind.u64.wrap (hor (x0.take i) * 256) = hor (x0.take i) * 256 := u64_small (by omega) (by omega)
    have e3 : IntKind.u64.wrap (rd x0 i) = rd x0 i := u64_small (by omega) (by omega)
    show word_Get.l1 (k + d + 1 + 1) x0 x4 (hor (x0.take i)) (x0.take 8) 8 i = _
    simp only [word_Get.l1]
    rw [if_pos (by omega), if_pos (by omega), if_pos (by omega), rd_take _ _ _ hlt, e2, e3, or_byte hh.1 hh.2 hb1.1 hb1.2, ← hor_take_succ (by omega), wrap64_id (by omega) (by omega)]
    exact ih k (i + 1) (by omega)
theorem get_l0 (n : Nat) : ∀ (k : Nat) (x0 x4 : List Int), x0.length = 8 * n → IsB x0 → x4.length + n < 17592186044416 → word_Get.l0 (k + 10 * n + 1) x0 x4 = some (x4 ++ getn n x0, 0) := by
  induction n with
  | zero =>
    intro k x0 x4 hl hb h4
    simp only [word_Get.l0]
    rw [if_neg (by omega)]
    simp [getn]
  | succ n ih =>
    intro k x0 x4 hl hb h4
    have h8 : 8 ≤ x0.length := by omega
    have hl8 : ((x0.take 8).length : Int) = 8 := by rw [List.length_take]; omega
    show word_Get.l0 (k + 10 * n + 10 + 1) x0 x4 = _
    simp only [word_Get.l0]
    rw [if_pos (by omega), if_pos (by omega)]
    simp only [Option.bind_some]
    rw [hl8]
    have := get_l1 x0 x4 h8 hb (by omega) 8 (k + 10 * n + 1) 0 rfl
    rw [show k + 10 * n + 10 = k + 10 * n + 1 + 8 + 1 by omega]
    rw [show hor (x0.take 0) = 0 from rfl, show ((0 : Nat) : Int) = 0 from rfl] at this
    rw [this, ih k (x0.drop 8) (x4 ++ [dec8 (x0.take 8)]) (by rw [List.length_drop]; omega) (hb.drop 8) (by rw [List.length_append, List.length_singleton]; omega)]
    rw [getn, List.append_assoc]
    rfl
theorem get_f (l : List Int) (hb : IsB l) (hl : l.length ≤ 140737488351232) : ∃ k, word_Get.f k l = some (getl l, gerr l) := by
  by_cases h8 : l.length % 8 = 0
  · refine ⟨0 + 10 * (l.length / 8) + 1, ?_⟩
    unfold word_Get.f
    rw [if_pos (by omega), get_l0 (l.length / 8) 0 l [] (by omega) hb (by simp; omega), gerr_yes h8, getl_yes h8]
    rfl
  · refine ⟨0, ?_⟩
    unfold word_Get.f
    rw [if_neg (by omega), gerr_no h8, getl_no h8]
/-- What is read is read wherever the blocks are as they were. -/
theorem F_of_C {enc : Int → Value} {h1 : ∀ x, (enc x).oneCell' = true} {w : World} {A : Option Addr} {n : Nat} {xs : List Int} (h : (Kd.scalar enc h1).C w A n xs) : Kd.F (Kd.scalar enc h1) w (fun _ => True) A n xs := by
  intro w' hw
  obtain ⟨a, b, c⟩ := h
  refine ⟨a, b, fun hp => ?_⟩
  obtain ⟨ad, rfl, hc⟩ := c hp
  refine ⟨ad, rfl, fun j p hj => ?_⟩
  obtain ⟨cs, hl, hr, hcell⟩ := hc j p hj
  exact ⟨cs, hl, hr, fun i u hu => Kd.cell_heap (fun k hk => hw k trivial hk) (hcell i u hu)⟩
theorem wget (A : Option Addr) (c : Nat) (l : List Int) (w : World) (hr : Kd.C (Kd.int .u8) w A l.length l) (hc : l.length ≤ c) (hb : IsB l) (hl : l.length ≤ 140737488351232) :
    Calls Try.prog 40 #[.slice A l.length c] w fun e w' => ∃ v : Value, e = .returned (.tuple #[v, .int .i64 (gerr l)]) ∧ Kd.R (Kd.int .i64) 2 w' w.heap.size (fun _ => True) v (getl l) ∧ Below w.heap.size w w' := by
  obtain ⟨k, hk⟩ := get_f l hb hl
  refine (word_Get.calls k (fun _ => True) A c l _ _ w (Kd.V_mk hc (F_of_C hr)) hk).mono ?_
  rintro e w' ⟨v, rfl, ho, hbl⟩
  exact ⟨v, rfl, Kd.R_mono ho (fun _ _ => trivial), hbl⟩
theorem nextB_short {b : List Int} (h : b.length < 8) : nextB b = false := by
  unfold nextB
  rw [show decide (8 ≤ b.length) = false from decide_eq_false (by omega)]
  rfl
theorem nextL_no {b : List Int} (h : nextB b = false) : nextL b = [] := by unfold nextL; rw [h]; rfl
theorem nextR_no {b : List Int} (h : nextB b = false) : nextR b = [] := by unfold nextR; rw [h]; rfl
theorem nextB_neg {b : List Int} (h : nextN b < 0) : nextB b = false := by
  unfold nextB
  rw [show decide (0 ≤ nextN b) = false from decide_eq_false (by omega)]
  simp
theorem nextB_big {b : List Int} (h : ((b.length - 8) / 8 : Nat) < nextN b) : nextB b = false := by
  unfold nextB
  rw [show decide (nextN b ≤ ((b.length - 8) / 8 : Nat)) = false from decide_eq_false (by omega)]
  simp
theorem nextB_yes {b : List Int} (h8 : 8 ≤ b.length) (h0 : 0 ≤ nextN b) (h : nextN b ≤ ((b.length - 8) / 8 : Nat)) : nextB b = true := by
  unfold nextB
  rw [decide_eq_true h8, decide_eq_true h0, decide_eq_true h]
  rfl
theorem gets_eight {b : List Int} (h : b.length = 8) : gets b = [dec8 b] := by
  unfold gets
  rw [h, show 8 / 8 = 1 from rfl, getn, getn, List.take_of_length_le (by omega)]

set_option maxHeartbeats 1000000 in
theorem wnext (A : Option Addr) (c : Nat) (l : List Int) (w : World) (hr : Kd.C (Kd.int .u8) w A l.length l) (hc : l.length ≤ c) (hb : IsB l) (hl : l.length ≤ 140737488351232) :
    Calls Try.prog 35 #[.slice A l.length c] w fun e w' => ∃ (v : Value) (A' : Option Addr) (c' : Nat), e = .returned (.tuple #[v, .slice A' (nextR l).length c', .bool (nextB l)]) ∧ Kd.R (Kd.int .i64) 2 w' w.heap.size (fun _ => True) v (nextL l) ∧ Kd.C (Kd.int .u8) w' A' (nextR l).length (nextR l) ∧ (nextR l).length ≤ c' ∧ Below w.heap.size w w' := by
  have HR := Aside0.mk hr
  have HI := Aside0.mk hb
  have HC := Aside0.mk hc
  clear hr hb hc
  by_cases h8 : l.length < 8
  · have HB := Aside0.mk (nextB_short h8)
    have h8b : decide ((l.length : Int) < 8) = true := decide_eq_true (by omega)
    go_enter Try.func35, Try.ntmps35
    go_wp2
    go_ret3
    exact ⟨_, none, 0, by rw [HB.out, nextR_no HB.out]; rfl, by rw [nextL_no HB.out]; exact Kd.R_nil _ _ _ _ _, by rw [nextR_no HB.out]; exact Kd.C_nil _ _, by rw [nextR_no HB.out]; exact Nat.le_refl _, Below.refl _ _⟩
  · have h8' : 8 ≤ l.length := by omega
    have h8b : decide ((l.length : Int) < 8) = false := decide_eq_false (by omega)
    have HB := Aside0.mk (Below.refl w.heap.size w)
    obtain ⟨x, hx, hxr, hxC, hxc⟩ := cutH (P := Try.prog) (Kd.int .u8) 31 5 Try.underlying31 info5 .i64 A c l 8 8 rfl h8' HC.out
    have hxl := Aside0.mk (show x.length = 8 by rw [hx.out, List.length_take]; omega)
    have hxd := Aside0.mk (show getl x = [nextN l] by rw [getl_yes (by rw [hxl.out]), gets_eight hxl.out, hx.out]; rfl)
    have hxo := Aside0.mk (show gerr x = 0 from gerr_yes (by rw [hxl.out]))
    have hxb := Aside0.mk (show IsB x by rw [hx.out]; exact HI.out.take _)
    obtain ⟨y, A2, c2, hy, hyr, hyC, hyc, hyB⟩ := cutL (P := Try.prog) (Kd.int .u8) 31 5 Try.underlying31 info5 .i64 A c l 8 8 rfl h8' HC.out
    have hyl := Aside0.mk (show y.length + 8 = l.length by rw [hy.out, List.length_drop]; omega)
    have hyl2 : y.length ≤ 140737488351232 := by have := hyl.out; omega
    obtain ⟨N, hN⟩ : ∃ N, N = nextN l := ⟨_, rfl⟩
    have HN := Aside0.mk hN
    rw [← hN] at hxd
    clear hN h8
    by_cases hneg : N < 0
    · have hB := Aside0.mk (nextB_neg (b := l) (by rw [← HN.out]; exact hneg))
      have hnb : decide (N < 0) = true := decide_eq_true hneg
      go_enter Try.func35, Try.ntmps35
      go_wp2_with (first | ((with_reducible refine gate_dst (N := 14) rfl ?_); (try (refine gate_guard (by rfl) ?_; dsimp only)); refine goesL_ (some 14) rfl rfl Try.func40 (by kernel_rfl) rfl #[.slice A x.length c] rfl (by (try simp only [List.map_toArray, List.map_cons, List.map_nil]); first | done | rfl | (simp only [List.length_drop, List.length_take]; rfl)) ?_; refine (wget A c x _ (hxC.out _ HR.out) hxc hxb.out (by have := hxl.out; omega)).mono ?_; rintro e w2 ⟨v2, rfl, ho, hbl⟩; refine ⟨_, rfl, ?_⟩; rw [hxd.out] at ho; have HO := Aside0.mk ho; have HB2 := Aside0.mk hbl; clear HB ho hbl; have HB := HB2; clear HB2; obtain ⟨A1, c1, e1⟩ := Kd.R_slice HO.out; subst e1; obtain ⟨ad, ea, hcell⟩ := Kd.at_int (Kd.R_reads' HO.out).2.2 0 (by omega) (by simp); cases ea; rw [show ((0 : Int)).toNat = 0 from rfl, Addr.add_zero', show rd [N] 0 = N from rfl] at hcell))
      go_ret3
      exact ⟨_, none, 0, by rw [hB.out, nextR_no hB.out]; rfl, by rw [nextL_no hB.out]; exact Kd.R_nil _ _ _ _ _, by rw [nextR_no hB.out]; exact Kd.C_nil _ _, by rw [nextR_no hB.out]; exact Nat.le_refl _, HB.out⟩
    · have hN0 : 0 ≤ N := by omega
      have hnb : decide (N < 0) = false := decide_eq_false hneg
      clear hneg
      by_cases hbig : ((l.length - 8) / 8 : Nat) < N
      · have hB := Aside0.mk (nextB_big (b := l) (by rw [← HN.out]; exact hbig))
        have hnc : decide ((y.length : Int) / 8 < N) = true := decide_eq_true (by have := hyl.out; omega)
        go_enter Try.func35, Try.ntmps35
        go_wp2_with (first | ((with_reducible refine gate_dst (N := 14) rfl ?_); (try (refine gate_guard (by rfl) ?_; dsimp only)); refine goesL_ (some 14) rfl rfl Try.func40 (by kernel_rfl) rfl #[.slice A x.length c] rfl (by (try simp only [List.map_toArray, List.map_cons, List.map_nil]); first | done | rfl | (simp only [List.length_drop, List.length_take]; rfl)) ?_; refine (wget A c x _ (hxC.out _ HR.out) hxc hxb.out (by have := hxl.out; omega)).mono ?_; rintro e w2 ⟨v2, rfl, ho, hbl⟩; refine ⟨_, rfl, ?_⟩; rw [hxd.out] at ho; have HO := Aside0.mk ho; have HB2 := Aside0.mk hbl; clear HB ho hbl; have HB := HB2; clear HB2; obtain ⟨A1, c1, e1⟩ := Kd.R_slice HO.out; subst e1; obtain ⟨ad, ea, hcell⟩ := Kd.at_int (Kd.R_reads' HO.out).2.2 0 (by omega) (by simp); cases ea; rw [show ((0 : Int)).toNat = 0 from rfl, Addr.add_zero', show rd [N] 0 = N from rfl] at hcell))
        go_ret3
        exact ⟨_, none, 0, by rw [hB.out, nextR_no hB.out]; rfl, by rw [nextL_no hB.out]; exact Kd.R_nil _ _ _ _ _, by rw [nextR_no hB.out]; exact Kd.C_nil _ _, by rw [nextR_no hB.out]; exact Nat.le_refl _, HB.out⟩
      · have hN1 : N ≤ (y.length : Int) / 8 := by have := hyl.out; omega
        have hN2 : N ≤ 17592186043904 := by have := hyl.out; omega
        have hB := Aside0.mk (nextB_yes (b := l) h8' (by rw [← HN.out]; exact hN0) (by rw [← HN.out]; omega))
        have hnc : decide ((y.length : Int) / 8 < N) = false := decide_eq_false (by omega)
        clear hbig
        obtain ⟨u, hu, hur, huC, huc⟩ := cutH (P := Try.prog) (Kd.int .u8) 31 5 Try.underlying31 info5 .i64 A2 c2 y (8 * N) (8 * N.toNat) (by omega) (by omega) hyc
        obtain ⟨z, A4, c4, hz, hzr, hzC, hzc, hzB⟩ := cutL (P := Try.prog) (Kd.int .u8) 31 5 Try.underlying31 info5 .i64 A2 c2 y (8 * N) (8 * N.toNat) (by omega) (by omega) hyc
        have hul := Aside0.mk (show u.length % 8 = 0 by rw [hu.out, List.length_take]; have := hyl.out; omega)
        have hul2 := Aside0.mk (show u.length ≤ y.length by rw [hu.out, List.length_take]; omega)
        have hub := Aside0.mk (show IsB u by rw [hu.out, hy.out]; exact (HI.out.drop _).take _)
        have hud := Aside0.mk (show getl u = nextL l by rw [getl_yes hul.out, nextL, hB.out, if_pos rfl, hu.out, hy.out, HN.out])
        have hzd := Aside0.mk (show z = nextR l by rw [nextR, hB.out, if_pos rfl, hz.out, hy.out, List.drop_drop, HN.out])
        go_enter Try.func35, Try.ntmps35
        go_wp2_with (first | ((with_reducible refine gate_dst (N := 14) rfl ?_); (try (refine gate_guard (by rfl) ?_; dsimp only)); refine goesL_ (some 14) rfl rfl Try.func40 (by kernel_rfl) rfl #[.slice A x.length c] rfl (by (try simp only [List.map_toArray, List.map_cons, List.map_nil]); first | done | rfl | (simp only [List.length_drop, List.length_take]; rfl)) ?_; refine (wget A c x _ (hxC.out _ HR.out) hxc hxb.out (by have := hxl.out; omega)).mono ?_; rintro e w2 ⟨v2, rfl, ho, hbl⟩; refine ⟨_, rfl, ?_⟩; rw [hxd.out] at ho; have HO := Aside0.mk ho; have HB2 := Aside0.mk hbl; clear HB ho hbl; have HB := HB2; clear HB2; obtain ⟨A1, c1, e1⟩ := Kd.R_slice HO.out; subst e1; obtain ⟨ad, ea, hcell⟩ := Kd.at_int (Kd.R_reads' HO.out).2.2 0 (by omega) (by simp); cases ea; rw [show ((0 : Int)).toNat = 0 from rfl, Addr.add_zero', show rd [N] 0 = N from rfl] at hcell) | ((with_reducible refine gate_dst (N := 40) rfl ?_); (try (refine gate_guard (by rfl) ?_; dsimp only)); refine goesL_ (some 40) rfl rfl Try.func40 (by kernel_rfl) rfl #[.slice A2 u.length c2] rfl (by (try simp only [List.map_toArray, List.map_cons, List.map_nil]); first | done | rfl | (simp only [List.length_drop, List.length_take]; rfl)) ?_; refine (wget A2 c2 u _ (huC.out _ (hyC.out _ (Kd.C_below HR.out HB.out))) huc hub.out (by have := hul2.out; have := hyl.out; omega)).mono ?_; rintro e w3 ⟨v3, rfl, ho, hbl⟩; refine ⟨_, rfl, ?_⟩; rw [hud.out] at ho; have HO3 := Aside0.mk (Kd.R_lower ho HB.out.size); have HB2 := Aside0.mk (below_step HB.out hbl); have HO4 := Aside0.mk (Kd.R_below HO.out hbl); clear HB ho hbl HO hcell; have HB := HB2; have HO := HO4; clear HB2 HO4))
        go_quiet (fail)
        go_wp2
        go_ret3
        exact ⟨_, A4, c4, by rw [hB.out, ← hzd.out]; rfl, Kd.R_drewN HO3.out _, by rw [← hzd.out]; exact Kd.C_drewN (hzC.out _ (hyC.out _ (Kd.C_below HR.out HB.out))) _, by rw [← hzd.out]; exact hzc, pw_below_drewN HB.out _⟩

set_option maxHeartbeats 1000000 in
theorem next2 (A : Option Addr) (c : Nat) (l : List Int) (w : World) (hr : Kd.C (Kd.int .u8) w A l.length l) (hc : l.length ≤ c) (hb : IsB l) (hl : l.length ≤ 140737488351232) :
    Calls Try.prog 38 #[.slice A l.length c] w fun e w' => ∃ (v : Value) (A' : Option Addr) (c' : Nat), e = .returned (.tuple #[v, .slice A' (nextR l).length c', .bool (nextB l)]) ∧ Kd.R (Kd.int .i64) 2 w' w.heap.size (fun _ => True) v (nextL l) ∧ Kd.C (Kd.int .u8) w' A' (nextR l).length (nextR l) ∧ (nextR l).length ≤ c' ∧ Below w.heap.size w w' := by
  have HR := Aside0.mk hr
  have HI := Aside0.mk hb
  have HC := Aside0.mk hc
  clear hr hb hc
  by_cases h8 : l.length < 8
  · have HB := Aside0.mk (nextB_short h8)
    have h8b : decide ((l.length : Int) < 8) = true := decide_eq_true (by omega)
    go_enter Try.func38, Try.ntmps38
    go_wp2
    go_ret3
    exact ⟨_, none, 0, by rw [HB.out, nextR_no HB.out]; rfl, by rw [nextL_no HB.out]; exact Kd.R_nil _ _ _ _ _, by rw [nextR_no HB.out]; exact Kd.C_nil _ _, by rw [nextR_no HB.out]; exact Nat.le_refl _, Below.refl _ _⟩
  · have h8' : 8 ≤ l.length := by omega
    have h8b : decide ((l.length : Int) < 8) = false := decide_eq_false (by omega)
    have HB := Aside0.mk (Below.refl w.heap.size w)
    obtain ⟨x, hx, hxr, hxC, hxc⟩ := cutH (P := Try.prog) (Kd.int .u8) 31 5 Try.underlying31 info5 .i64 A c l 8 8 rfl h8' HC.out
    have hxl := Aside0.mk (show x.length = 8 by rw [hx.out, List.length_take]; omega)
    have hxb := Aside0.mk (show IsB x by rw [hx.out]; exact HI.out.take _)
    obtain ⟨N, hN⟩ : ∃ N, N = nextN l := ⟨_, rfl⟩
    have HN := Aside0.mk hN
    have hxd := Aside0.mk (show dec8 x = N by rw [hN, hx.out]; rfl)
    clear hN h8
    by_cases hneg : N < 0
    · have hB := Aside0.mk (nextB_neg (b := l) (by rw [← HN.out]; exact hneg))
      have hnb : decide (N < 0) = true := decide_eq_true hneg
      go_enter Try.func38, Try.ntmps38
      go_wp2_with (first | ((with_reducible refine gate_dst (N := 13) rfl ?_); (try (refine gate_guard (by rfl) ?_; dsimp only)); refine goesL_ (some 13) rfl rfl Try.func41 (by kernel_rfl) rfl #[.slice A x.length c] rfl (by (try simp only [List.map_toArray, List.map_cons, List.map_nil]); first | done | rfl | (simp only [List.length_drop, List.length_take]; rfl)) ?_; refine (one2 A c x _ (hxC.out _ HR.out) hxb.out hxl.out).mono ?_; rintro e w2 ⟨rfl, ⟨m1, rfl⟩⟩; refine ⟨_, rfl, ?_⟩; rw [hxd.out]; have HB2 := Aside0.mk (pw_below_drewN HB.out m1); clear HB; have HB := HB2; clear HB2))
      go_ret3
      exact ⟨_, none, 0, by rw [hB.out, nextR_no hB.out]; rfl, by rw [nextL_no hB.out]; exact Kd.R_nil _ _ _ _ _, by rw [nextR_no hB.out]; exact Kd.C_nil _ _, by rw [nextR_no hB.out]; exact Nat.le_refl _, HB.out⟩
    · have hN0 : 0 ≤ N := by omega
      have hnb : decide (N < 0) = false := decide_eq_false hneg
      clear hneg
      by_cases hbig : ((l.length - 8) / 8 : Nat) < N
      · have hB := Aside0.mk (nextB_big (b := l) (by rw [← HN.out]; exact hbig))
        have hnc : decide (((l.length : Int) - 8) / 8 < N) = true := decide_eq_true (by omega)
        clear hbig
        go_enter Try.func38, Try.ntmps38
        go_wp2_with (first | ((with_reducible refine gate_dst (N := 13) rfl ?_); (try (refine gate_guard (by rfl) ?_; dsimp only)); refine goesL_ (some 13) rfl rfl Try.func41 (by kernel_rfl) rfl #[.slice A x.length c] rfl (by (try simp only [List.map_toArray, List.map_cons, List.map_nil]); first | done | rfl | (simp only [List.length_drop, List.length_take]; rfl)) ?_; refine (one2 A c x _ (hxC.out _ HR.out) hxb.out hxl.out).mono ?_; rintro e w2 ⟨rfl, ⟨m1, rfl⟩⟩; refine ⟨_, rfl, ?_⟩; rw [hxd.out]; have HB2 := Aside0.mk (pw_below_drewN HB.out m1); clear HB; have HB := HB2; clear HB2))
        go_ret3
        exact ⟨_, none, 0, by rw [hB.out, nextR_no hB.out]; rfl, by rw [nextL_no hB.out]; exact Kd.R_nil _ _ _ _ _, by rw [nextR_no hB.out]; exact Kd.C_nil _ _, by rw [nextR_no hB.out]; exact Nat.le_refl _, HB.out⟩
      · have hN1 : N ≤ ((l.length : Int) - 8) / 8 := by omega
        have hB := Aside0.mk (nextB_yes (b := l) h8' (by rw [← HN.out]; exact hN0) (by rw [← HN.out]; omega))
        have hnc : decide (((l.length : Int) - 8) / 8 < N) = false := decide_eq_false (by omega)
        have hN2 : N ≤ 17592186043904 := by omega
        clear hbig
        obtain ⟨u, A2, c2, hu, hur, huC, huc, huB⟩ := cutM (P := Try.prog) (Kd.int .u8) 31 5 Try.underlying31 info5 .i64 .i64 A c l 8 (8 + 8 * N) 8 (8 + 8 * N.toNat) (by omega) (by omega) (by omega) (by omega) HC.out
        obtain ⟨z, A4, c4, hz, hzr, hzC, hzc, hzB⟩ := cutL (P := Try.prog) (Kd.int .u8) 31 5 Try.underlying31 info5 .i64 A c l (8 + 8 * N) (8 + 8 * N.toNat) (by omega) (by omega) HC.out
        have hul := Aside0.mk (show u.length % 8 = 0 by rw [hu.out, List.length_drop, List.length_take]; omega)
        have hul2 := Aside0.mk (show u.length ≤ l.length by rw [hu.out, List.length_drop, List.length_take]; omega)
        have hub := Aside0.mk (show IsB u by rw [hu.out]; exact (HI.out.take _).drop _)
        have hud := Aside0.mk (show getl u = nextL l by rw [getl_yes hul.out, nextL, hB.out, if_pos rfl, hu.out, HN.out, List.drop_take]; congr 2; omega)
        have hzd := Aside0.mk (show z = nextR l by rw [nextR, hB.out, if_pos rfl, hz.out, HN.out])
        go_enter Try.func38, Try.ntmps38
        go_wp2_with (first | ((with_reducible refine gate_dst (N := 13) rfl ?_); (try (refine gate_guard (by rfl) ?_; dsimp only)); refine goesL_ (some 13) rfl rfl Try.func41 (by kernel_rfl) rfl #[.slice A x.length c] rfl (by (try simp only [List.map_toArray, List.map_cons, List.map_nil]); first | done | rfl | (simp only [List.length_drop, List.length_take]; rfl)) ?_; refine (one2 A c x _ (hxC.out _ HR.out) hxb.out hxl.out).mono ?_; rintro e w2 ⟨rfl, ⟨m1, rfl⟩⟩; refine ⟨_, rfl, ?_⟩; rw [hxd.out]; have HB2 := Aside0.mk (pw_below_drewN HB.out m1); clear HB; have HB := HB2; clear HB2) | ((with_reducible refine gate_dst (N := 30) rfl ?_); (try (refine gate_guard (by rfl) ?_; dsimp only)); refine goesL_ (some 30) rfl rfl Try.func42 (by kernel_rfl) rfl #[.slice A2 u.length c2] rfl (by (try simp only [List.map_toArray, List.map_cons, List.map_nil]); first | done | rfl | (simp only [List.length_drop, List.length_take]; rfl)) ?_; refine (get2 A2 c2 u _ (huC.out _ (Kd.C_below HR.out HB.out)) huc hub.out (by have := hul2.out; omega)).mono ?_; rintro e w3 ⟨v3, rfl, ho, hbl⟩; refine ⟨_, rfl, ?_⟩; rw [hud.out] at ho; have HO3 := Aside0.mk (Kd.R_lower ho HB.out.size); have HB2 := Aside0.mk (below_step HB.out hbl); clear HB ho hbl; have HB := HB2; clear HB2))
        go_quiet (fail)
        go_wp2
        go_ret3
        exact ⟨_, A4, c4, by rw [hB.out, ← hzd.out]; rfl, Kd.R_drewN HO3.out _, by rw [← hzd.out]; exact Kd.C_drewN (hzC.out _ (Kd.C_below HR.out HB.out)) _, by rw [← hzd.out]; exact hzc, pw_below_drewN HB.out _⟩
end Go.Proofs.Ytpcfceodbemooaa.B
