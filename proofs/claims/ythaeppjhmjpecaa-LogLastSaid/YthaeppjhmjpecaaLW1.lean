/- word.Put, word.Get, giroref2.Put, one, Get: walks (as for the laws of word). -/
import Derived.Test.YthaeppjhmjpecaaB2
import Derived.Test.YthaeppjhmjpecaaWord1
import Derived.Test.YthaeppjhmjpecaaQGet
namespace Go.Proofs.Ythaeppjhmjpecaa.B
open Go.RowKit Go.Proofs.YthaeppjhmjpecaaW.PrintWords Go.Proofs.YthaeppjhmjpecaaW.PrintLast Go.Proofs.YthaeppjhmjpecaaW.PrintMore
attribute [local go_sem] max2_int min2_int max_two min_two max_three min_three max_four min_four
set_option linter.unusedVariables false
set_option linter.unusedSimpArgs false

set_option maxHeartbeats 1000000 in
theorem put2 (A : Option Addr) (c : Nat) (l : List Int) (w : World) (hr : Kd.C (Kd.int .i64) w A l.length l) (hl : l.length ≤ 17592186044000) :
    Calls Try.prog 33 #[.slice A l.length c] w fun e w' => ∃ v : Value, e = .returned v ∧ Kd.R (Kd.int .u8) 5 w' w.heap.size (fun _ => True) v (puts l) ∧ Below w.heap.size w w' := by
  have HR := Aside0.mk hr
  clear hr
  have HB := Aside0.mk (Below.refl w.heap.size w)
  go_enter Try.func33, Try.ntmps33
  go_wp2_with (first | ((with_reducible refine gate_dst (N := 6) rfl ?_); refine Kd.R_lit (Kd.int .u8) (w0 := w) w.heap.size 5 rfl (N := 6) rfl (xs := []) (inner := []) (ok := fun _ => True) (okp := fun _ => True) (by go_simp; done) (Reps.none _ _) (fun _ hk => hk) trivial (Below.refl _ _) (Nat.le_refl _) (by simp) ?_; intro v1 w1 ho hb hg_ hnew_; clear hg_ hnew_ HB; have HO := Aside0.mk ho; have HB := Aside0.mk hb; clear ho hb))
  go_loopg [3, 4, 5] l.length (fun kq v3 v4 v5 w' => ∃ i : Nat, v4 = .int .i64 (i : Int) ∧ i ≤ l.length ∧ Aside0 (kq + i = l.length) ∧ Aside0 (Kd.R (Kd.int .u8) 5 w' w.heap.size (fun _ => True) v3 (puts (l.take i))) ∧ Aside0 (Below w.heap.size w w'))
  case atStart => exact ⟨0, rfl, Nat.zero_le _, ⟨rfl⟩, HO, HB⟩
  case round =>
    clear HO HB
    obtain ⟨i, rfl, hi, HK, HO, HB⟩ := hrel
    by_cases c4 : i < l.length
    · have HT := Aside0.mk (puts_take_succ l i c4)
      have c4b : decide ((i : Int) < (l.length : Int)) = true := decide_eq_true (by exact_mod_cast c4)
      go_wp2
      go_loopg [3, 5] 8 (fun kq v3 v5 w' => ∃ j : Nat, v5 = .int .i64 (56 - 8 * (j : Int)) ∧ j ≤ 8 ∧ Aside0 (kq + j = 8) ∧ Aside0 (Kd.R (Kd.int .u8) 5 w' w.heap.size (fun _ => True) v3 (puts (l.take i) ++ (be8 (rd l i)).take j)) ∧ Aside0 (Below w.heap.size w w'))
      case atStart => exact ⟨0, rfl, Nat.zero_le _, ⟨rfl⟩, by simpa using HO, HB⟩
      case round =>
        clear HO HB
        obtain ⟨j, rfl, hj, HK2, HO, HB⟩ := hrel
        by_cases c5 : j < 8
        · have c5b : decide (0 ≤ 56 - 8 * (j : Int)) = true := decide_eq_true (by omega)
          obtain ⟨Y, hY⟩ : ∃ Y, Y = puts (l.take i) ++ (be8 (rd l i)).take j := ⟨_, rfl⟩
          have hsn := Aside0.mk (show Y ++ [IntKind.u64.wrap (rd l i) / 2 ^ (56 - 8 * j) % 256] = puts (l.take i) ++ (be8 (rd l i)).take (j + 1) by rw [be8_snoc64 (rd l i) j c5, hY, List.append_assoc])
          have hlen := Aside0.mk (by rw [hY, List.length_append, puts_length, List.length_take, List.length_take]; omega : Y.length ≤ 8 * i + 8)
          rw [← hY] at HO
          clear hY
          obtain ⟨Ao, co, eo⟩ := Kd.R_slice HO.out
          subst eo
          obtain ⟨ad, e1, hx⟩ := Kd.at_int (Kd.C_below HR.out HB.out) i (by omega) (by exact_mod_cast c4)
          cases e1
          rw [Int.toNat_natCast] at hx
          have c5c : decide (8 * (j : Int) ≤ 56) = true := decide_eq_true (by omega)
          go_wp2_with (first | ((with_reducible refine gate_dst (N := 28) rfl ?_); refine Kd.R_append (Kd.int .u8) (w0 := w) w.heap.size rfl _ _ 22 5 (.int .u8 0) 1 rfl Try.underlying22 info5 rfl (by decide) (by decide) (.slice Ao Y.length co) Y (IntKind.u64.wrap (rd l i) / 2 ^ (56 - 8 * j) % 256) [.int .u8 (IntKind.u64.wrap (rd l i) / 2 ^ (56 - 8 * j) % 256)] (fun _ => True) (fun _ => False) rfl rfl rfl (fun _ h => h.elim) (fun _ _ => trivial) HO.out HB.out HB.out.size (by have := hlen.out; omega) ?_; intro v1 w1 ho hb hg_ hnew_; clear hg_ hnew_ HB HO; have HO := Aside0.mk ho; have HB := Aside0.mk hb; clear ho hb))
          go_roundg (8 - (j + 1))
          case measure => have := HK2.out; omega
          case rel => exact ⟨j + 1, by go_num, by omega, ⟨by omega⟩, ⟨by rw [← hsn.out]; exact HO.out⟩, HB⟩
        · have c5b : decide (0 ≤ 56 - 8 * (j : Int)) = false := decide_eq_false (by omega)
          have c5c : decide (8 * (j : Int) ≤ 56) = false := decide_eq_false (by omega)
          have HT2 := Aside0.mk (show (puts (l.take i) ++ (be8 (rd l i)).take j) = puts (l.take (i + 1)) by rw [HT.out, List.take_of_length_le (l := be8 (rd l i)) (by rw [be8_length]; omega)]; rfl)
          go_wp2
          go_roundg (l.length - (i + 1))
          case measure => have := HK.out; omega
          case rel => exact ⟨i + 1, by go_num, by omega, ⟨by omega⟩, ⟨by rw [← HT2.out]; exact HO.out⟩, HB⟩
    · have HT := Aside0.mk (show puts (l.take i) = puts l by rw [List.take_of_length_le (by omega)])
      have c4b : decide ((i : Int) < (l.length : Int)) = false := decide_eq_false (by omega)
      go_wp2
      go_ret
      exact ⟨_, rfl, by rw [← HT.out]; exact HO.out, HB.out⟩
/-- A literal of one number, and two rows of bytes one behind the other. -/
theorem lit_one (n : Int) : Reps (fun (x : Int) (cs : List Value) => cs = [Value.int .i64 x]) 1 [n] [.int .i64 n] := (Reps.none _ _).snoc (cs := []) (ps := []) rfl rfl
theorem u64_small {x : Int} (h0 : 0 ≤ x) (h1 : x < 18446744073709551616) : IntKind.u64.wrap x = x := by
  simp [IntKind.wrap, IntKind.bits, IntKind.signed]
  omega
set_option maxHeartbeats 1000000 in
theorem one2 (A : Option Addr) (c : Nat) (l : List Int) (w : World) (hr : Kd.C (Kd.int .u8) w A l.length l) (hb : IsB l) (hl : l.length = 8) :
    Calls Try.prog 61 #[.slice A l.length c] w fun e w' => e = .returned (.int .i64 (dec8 l)) ∧ Drawn0 w w' := by
  have HR := Aside0.mk hr
  have HI := Aside0.mk hb
  have HL := Aside0.mk hl
  clear hr hb hl
  go_enter Try.func61, Try.ntmps61
  go_wp2
  go_loopg [3, 4] 8 (fun kq v3 v4 w' => ∃ i : Nat, v4 = .int .i64 (i : Int) ∧ i ≤ 8 ∧ v3 = .int .u64 (hor (l.take i)) ∧ Aside0 (kq + i = 8) ∧ Drawn0 w w')
  case atStart => exact ⟨0, rfl, by omega, by simp [hor], ⟨rfl⟩, Drawn0.refl _⟩
  case round =>
    obtain ⟨i, rfl, hi, rfl, HK, ⟨m1, rfl⟩⟩ := hrel
    by_cases c4 : i < 8
    · have c4b : decide ((i : Int) < 8) = true := decide_eq_true (by omega)
      have c5 : i < l.length := by have := HL.out; omega
      obtain ⟨ad, e1, hx⟩ := Kd.at_int HR.out i (by omega) (by have := HL.out; omega)
      cases e1
      rw [Int.toNat_natCast] at hx
      have hb1 := HI.out.rd i
      have hh := hor_small HI.out (i := i) (by omega)
      have HT := Aside0.mk (hor_take_succ (b := l) (i := i) (by have := HL.out; omega))
      have e2 : IntKind.u64.wrap (hor (l.take i) * 256) = hor (l.take i) * 256 := u64_small (by omega) (by omega)
      have e3 : IntKind.u64.wrap (rd l i) = rd l i := u64_small (by omega) (by omega)
      have e4 : bits .or .u64 (hor (l.take i) * 256) (rd l i) = hor (l.take i) * 256 + rd l i := or_byte hh.1 hh.2 hb1.1 hb1.2
      go_wp2
      go_roundg (8 - (i + 1))
      case measure => have := HK.out; omega
      case rel => exact ⟨i + 1, by go_num, by omega, by rw [HT.out], ⟨by omega⟩, by repeat (first | exact Drawn0.refl _ | apply Drawn0.step)⟩
    · have c4b : decide ((i : Int) < 8) = false := decide_eq_false (by omega)
      have HT := Aside0.mk (show hor (l.take i) = hor l by rw [List.take_of_length_le (by have := HL.out; omega)])
      go_wp2
      go_ret
      exact ⟨by rw [dec8, ← HT.out]; rfl, by repeat (first | exact Drawn0.refl _ | apply Drawn0.step)⟩
set_option maxHeartbeats 1000000 in
theorem get2 (A : Option Addr) (c : Nat) (l : List Int) (w : World) (hr : Kd.C (Kd.int .u8) w A l.length l) (hc : l.length ≤ c) (hb : IsB l) (hl : l.length ≤ 140737488351232) :
    Calls Try.prog 60 #[.slice A l.length c] w fun e w' => ∃ v : Value, e = .returned (.tuple #[v, .int .i64 (gerr l)]) ∧ Kd.R (Kd.int .i64) 2 w' w.heap.size (fun _ => True) v (getl l) ∧ Below w.heap.size w w' := by
  have HR := Aside0.mk hr
  have HI := Aside0.mk hb
  have HC := Aside0.mk hc
  clear hr hb hc
  by_cases h8 : l.length % 8 = 0
  · rw [gerr_yes h8, getl_yes h8]
    obtain ⟨n, hn⟩ : ∃ n, n * 8 = l.length := ⟨l.length / 8, by omega⟩
    have HN := Aside0.mk hn
    have h8b : (((l.length : Int) % 8) != 0) = false := by rw [bne_eq_false_iff_eq]; omega
    clear h8 hn
    have HB := Aside0.mk (Below.refl w.heap.size w)
    go_enter Try.func60, Try.ntmps60
    go_wp2
    go_loopg [4, 5] n (fun kq v4 v5 w' => ∃ i : Nat, v5 = .int .i64 (8 * (i : Int)) ∧ i ≤ n ∧ Aside0 (kq + i = n) ∧ Aside0 (Kd.R (Kd.int .i64) 2 w' w.heap.size (fun _ => True) v4 (getn i l)) ∧ Aside0 (Below w.heap.size w w'))
    case atStart => exact ⟨0, rfl, by omega, ⟨rfl⟩, ⟨Kd.R_nil _ _ _ _ _⟩, HB⟩
    case round =>
      clear HB
      obtain ⟨i, rfl, hi, HK, HO, HB⟩ := hrel
      by_cases c4 : i < n
      · have c4b : decide (8 * (i : Int) < (l.length : Int)) = true := decide_eq_true (by have := HN.out; omega)
        have hlo : 8 * i + 8 ≤ l.length := by have := HN.out; omega
        obtain ⟨ys, A', c', hys, hrun, hC, hcap, hblk⟩ := cutM (P := Try.prog) (Kd.int .u8) 22 5 Try.underlying22 info5 .i64 .i64 A c l (8 * (i : Int)) (8 * (i : Int) + 8) (8 * i) (8 * i + 8) (by omega) (by omega) (by omega) hlo HC.out
        have hyl := Aside0.mk (show ys.length = 8 by rw [hys.out, List.length_drop, List.length_take]; omega)
        have hyd := Aside0.mk (show getn i l ++ [dec8 ys] = getn (i + 1) l by rw [getn_succ, hys.out, List.drop_take]; congr 4; omega)
        have hyb := Aside0.mk (show IsB ys by rw [hys.out]; exact (HI.out.take _).drop _)
        obtain ⟨Y, hY⟩ : ∃ Y, Y = getn i l := ⟨_, rfl⟩
        rw [← hY] at HO hyd
        have hYl := Aside0.mk (show Y.length = i by rw [hY, getn_length])
        clear hY
        obtain ⟨Ao, co, eo⟩ := Kd.R_slice HO.out
        subst eo
        go_wp2_with (first | ((with_reducible refine gate_dst (N := 22) rfl ?_); (try (refine gate_guard (by rfl) ?_; dsimp only)); refine goesL_ (some 22) rfl rfl Try.func61 (by kernel_rfl) rfl #[.slice A' ys.length c'] rfl (by (try simp only [List.map_toArray, List.map_cons, List.map_nil]); first | done | rfl | (simp only [List.length_drop, List.length_take]; rfl)) ?_; refine (one2 A' c' ys _ (hC.out _ (Kd.C_below HR.out HB.out)) hyb.out hyl.out).mono ?_; rintro e w2 ⟨rfl, ⟨m1, rfl⟩⟩; refine ⟨_, rfl, ?_⟩; have HO2 := Aside0.mk (Kd.R_drewN HO.out m1); have HB2 := Aside0.mk (pw_below_drewN HB.out m1); clear HO HB; have HO := HO2; have HB := HB2; clear HO2 HB2) | ((with_reducible refine gate_dst (N := 24) rfl ?_); refine Kd.R_append (Kd.int .i64) (w0 := w) w.heap.size rfl _ _ 55 2 (.int .i64 0) 8 rfl Try.underlying55 info2 rfl (by decide) (by decide) (.slice Ao Y.length co) Y (dec8 ys) [.int .i64 (dec8 ys)] (fun _ => True) (fun _ => False) rfl rfl rfl (fun _ h => h.elim) (fun _ _ => trivial) HO.out HB.out HB.out.size (by have := hYl.out; have := HN.out; omega) ?_; intro v1 w1 ho hb hg_ hnew_; clear hg_ hnew_ HB HO; have HO := Aside0.mk ho; have HB := Aside0.mk hb; clear ho hb))
        go_roundg (n - (i + 1))
        case measure => have := HK.out; omega
        case rel => exact ⟨i + 1, by go_num, by omega, ⟨by omega⟩, ⟨by rw [← hyd.out]; exact HO.out⟩, HB⟩
      · have c4b : decide (8 * (i : Int) < (l.length : Int)) = false := decide_eq_false (by have := HN.out; omega)
        have HT := Aside0.mk (show getn i l = gets l by rw [gets, show l.length / 8 = i from (by have := HN.out; omega)])
        go_wp2
        go_ret2
        exact ⟨_, rfl, by rw [← HT.out]; exact HO.out, HB.out⟩
  · rw [gerr_no h8, getl_no h8]
    have h8b : (((l.length : Int) % 8) != 0) = true := by rw [bne_iff_ne]; omega
    clear h8
    go_enter Try.func60, Try.ntmps60
    go_wp2
    go_ret2
    exact ⟨_, rfl, Kd.R_nil _ _ _ _ _, Below.refl _ _⟩
theorem wrap64_id {x : Int} (h0 : -9223372036854775808 ≤ x) (h1 : x < 9223372036854775808) : wrap64 x = x := by unfold wrap64; omega
theorem rd_take (l : List Int) (m i : Nat) (h : i < m) : rd (l.take m) i = rd l i := by
  unfold Go.Proofs.YthaeppjhmjpecaaW.PrintWords.rd
  rw [Int.toNat_natCast, List.getD_eq_getElem?_getD, List.getD_eq_getElem?_getD, List.getElem?_take_of_lt h]
theorem get_l1 (x0 x4 : List Int) (h8 : 8 ≤ x0.length) (hb : IsB x0) (h4 : x4.length < 17592186044416) (d : Nat) : ∀ (k i : Nat), i + d = 8 →
    word_Get.l1 (k + d + 1) x0 x4 (hor (x0.take i)) (x0.take 8) 8 i = word_Get.l0 k (x0.drop 8) (x4 ++ [dec8 (x0.take 8)]) := by
  induction d with
  | zero =>
    intro k i hi
    obtain rfl : i = 8 := by omega
    simp only [word_Get.l1]
    rw [if_neg (by omega), if_pos h4, if_pos (by omega)]
    rfl
  | succ d ih =>
    intro k i hi
    have hlt : i < 8 := by omega
    have hl : (x0.take 8).length = 8 := by rw [List.length_take]; omega
    have hb1 := hb.rd i
    have hh := hor_small hb (i := i) (by omega)
    have e2 : IntKind.u64.wrap (hor (x0.take i) * 256) = hor (x0.take i) * 256 := u64_small (by omega) (by omega)
    have e3 : IntKind.u64.wrap (rd x0 i) = rd x0 i := u64_small (by omega) (by omega)
    show word_Get.l1 (k + d + 1 + 1) x0 x4 (hor (x0.take i)) (x0.take 8) 8 i = _
    simp only [word_Get.l1]
    rw [if_pos (by omega), if_pos (by omega), if_pos (by omega), rd_take _ _ _ hlt, e2, e3, or_byte hh.1 hh.2 hb1.1 hb1.2, ← hor_take_succ (by omega), wrap64_id (by omega) (by omega)]
    exact ih k (i + 1) (by omega)
theorem get_l0 (n : Nat) : ∀ (k : Nat) (x0 x4 : List Int), x0.length = 8 * n → IsB x0 → x4.length + n < 17592186044416 → word_Get.l0 (k + 10 * n + 1) x0 x4 = some (x4 ++ getn n x0, 0) := by
  induction n with
  | zero =>
    intro k x0 x4 hl hb h4
    simp only [word_Get.l0]
    rw [if_neg (by omega)]
    simp [getn]
  | succ n ih =>
    intro k x0 x4 hl hb h4
    have h8 : 8 ≤ x0.length := by omega
    have hl8 : ((x0.take 8).length : Int) = 8 := by rw [List.length_take]; omega
    show word_Get.l0 (k + 10 * n + 10 + 1) x0 x4 = _
    simp only [word_Get.l0]
    rw [if_pos (by omega), if_pos (by omega)]
    simp only [Option.bind_some]
    rw [hl8]
    have := get_l1 x0 x4 h8 hb (by omega) 8 (k + 10 * n + 1) 0 rfl
    rw [show k + 10 * n + 10 = k + 10 * n + 1 + 8 + 1 by omega]
    rw [show hor (x0.take 0) = 0 from rfl, show ((0 : Nat) : Int) = 0 from rfl] at this
    rw [this, ih k (x0.drop 8) (x4 ++ [dec8 (x0.take 8)]) (by rw [List.length_drop]; omega) (hb.drop 8) (by rw [List.length_append, List.length_singleton]; omega)]
    rw [getn, List.append_assoc]
    rfl
theorem get_f (l : List Int) (hb : IsB l) (hl : l.length ≤ 140737488351232) : ∃ k, word_Get.f k l = some (getl l, gerr l) := by
  by_cases h8 : l.length % 8 = 0
  · refine ⟨0 + 10 * (l.length / 8) + 1, ?_⟩
    unfold word_Get.f
    rw [if_pos (by omega), get_l0 (l.length / 8) 0 l [] (by omega) hb (by simp; omega), gerr_yes h8, getl_yes h8]
    rfl
  · refine ⟨0, ?_⟩
    unfold word_Get.f
    rw [if_neg (by omega), gerr_no h8, getl_no h8]
/-- What is read is read wherever the blocks are as they were. -/
theorem F_of_C {enc : Int → Value} {h1 : ∀ x, (enc x).oneCell' = true} {w : World} {A : Option Addr} {n : Nat} {xs : List Int} (h : (Kd.scalar enc h1).C w A n xs) : Kd.F (Kd.scalar enc h1) w (fun _ => True) A n xs := by
  intro w' hw
  obtain ⟨a, b, c⟩ := h
  refine ⟨a, b, fun hp => ?_⟩
  obtain ⟨ad, rfl, hc⟩ := c hp
  refine ⟨ad, rfl, fun j p hj => ?_⟩
  obtain ⟨cs, hl, hr, hcell⟩ := hc j p hj
  exact ⟨cs, hl, hr, fun i u hu => Kd.cell_heap (fun k hk => hw k trivial hk) (hcell i u hu)⟩
theorem wget (A : Option Addr) (c : Nat) (l : List Int) (w : World) (hr : Kd.C (Kd.int .u8) w A l.length l) (hc : l.length ≤ c) (hb : IsB l) (hl : l.length ≤ 140737488351232) :
    Calls Try.prog 55 #[.slice A l.length c] w fun e w' => ∃ v : Value, e = .returned (.tuple #[v, .int .i64 (gerr l)]) ∧ Kd.R (Kd.int .i64) 2 w' w.heap.size (fun _ => True) v (getl l) ∧ Below w.heap.size w w' := by
  obtain ⟨k, hk⟩ := get_f l hb hl
  refine (word_Get.calls k (fun _ => True) A c l _ _ w (Kd.V_mk hc (F_of_C hr)) hk).mono ?_
  rintro e w' ⟨v, rfl, ho, hbl⟩
  exact ⟨v, rfl, Kd.R_mono ho (fun _ _ => trivial), hbl⟩
theorem gets_eight {b : List Int} (h : b.length = 8) : gets b = [dec8 b] := by
  unfold gets
  rw [h, show 8 / 8 = 1 from rfl, getn, getn, List.take_of_length_le (by omega)]
end Go.Proofs.Ythaeppjhmjpecaa.B
