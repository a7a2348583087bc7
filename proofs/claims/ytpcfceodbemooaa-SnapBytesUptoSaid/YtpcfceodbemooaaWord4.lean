/- word.Get: what the printed walk computes, as plain lists; the contract; word.Next and giroref2.Next. -/
import Derived.Test.YtpcfceodbemooaaWord3
import Derived.Test.YtpcfceodbemooaaQGet
namespace Go.Proofs.Ytpcfceodbemooaa.B
open Go.RowKit Go.Proofs.YtpcfceodbemooaaW.PrintWords Go.Proofs.YtpcfceodbemooaaW.PrintLast Go.Proofs.YtpcfceodbemooaaW.PrintMore
attribute [local go_sem] max2_int min2_int max_two min_two max_three min_three max_four min_four
set_option linter.unusedVariables false
set_option linter.unusedSimpArgs false

theorem wrap64_id {x : Int} (h0 : -9223372036854775808 ≤ x) (h1 : x < 9223372036854775808) : wrap64 x = x := by unfold wrap64; omega
theorem rd_take (l : List Int) (m i : Nat) (h : i < m) : rd (l.take m) i = rd l i := by
  unfold Go.Proofs.YtpcfceodbemooaaW.PrintWords.rd
  rw [Int.toNat_natCast, List.getD_eq_getElem?_getD, List.getD_eq_getElem?_getD, List.getElem?_take_of_lt h]
theorem get_l1 (x0 x4 : List Int) (h8 : 8 ≤ x0.length) (hb : IsB x0) (h4 : x4.length < 17592186044416) (d : Nat) : ∀ (k i : Nat), i + d = 8 →
    word_Get.l1 (k + d + 1) x0 x4 (hor (x0.take i)) (x0.take 8) 8 i = word_Get.l0 k (x0.drop 8) (x4 ++ [dec8 (x0.take 8)]) := by
  induction d with
  | zero =>
    intro k i hi
    obtain rfl : i = 8 := by omega
    simp only [word_Get.l1]
    rw [if_neg (by omega), if_pos h4, if_pos (by omega)]
    rfl
  | succ d ih =>
    intro k i hi
    have hlt : i < 8 := by omega
    have hl : (x0.take 8).length = 8 := by rw [List.length_take]; omega
    have hb1 := hb.rd i
    have hh := hor_small hb (i := i) (by omega)
    have e2 : IntKind.u64.wrap (hor (x0.take i) * 256) = hor (x0.take i) * 256 := u64_small (by omega) (by omega)
    have e3 : IntKind.u64.wrap (rd x0 i) = rd x0 i := u64_small (by omega) (by omega)
    show word_Get.l1 (k + d + 1 + 1) x0 x4 (hor (x0.take i)) (x0.take 8) 8 i = _
    simp only [word_Get.l1]
    rw [if_pos (by omega), if_pos (by omega), if_pos (by omega), rd_take _ _ _ hlt, e2, e3, or_byte hh.1 hh.2 hb1.1 hb1.2, ← hor_take_succ (by omega), wrap64_id (by omega) (by omega)]
    exact ih k (i + 1) (by omega)
theorem get_l0 (n : Nat) : ∀ (k : Nat) (x0 x4 : List Int), x0.length = 8 * n → IsB x0 → x4.length + n < 17592186044416 → word_Get.l0 (k + 10 * n + 1) x0 x4 = some (x4 ++ getn n x0, 0) := by
  induction n with
  | zero =>
    intro k x0 x4 hl hb h4
    simp only [word_Get.l0]
    rw [if_neg (by omega)]
    simp [getn]
  | succ n ih =>
    intro k x0 x4 hl hb h4
    have h8 : 8 ≤ x0.length := by omega
    have hl8 : ((x0.take 8).length : Int) = 8 := by rw [List.length_take]; omega
    show word_Get.l0 (k + 10 * n + 10 + 1) x0 x4 = _
    simp only [word_Get.l0]
    rw [if_pos (by omega), if_pos (by omega)]
    simp only [Option.bind_some]
    rw [hl8]
    have := get_l1 x0 x4 h8 hb (by omega) 8 (k + 10 * n + 1) 0 rfl
    rw [show k + 10 * n + 10 = k + 10 * n + 1 + 8 + 1 by omega]
    rw [show hor (x0.take 0) = 0 from rfl, show ((0 : Nat) : Int) = 0 from rfl] at this
    rw [this, ih k (x0.drop 8) (x4 ++ [dec8 (x0.take 8)]) (by rw [List.length_drop]; omega) (hb.drop 8) (by rw [List.length_append, List.length_singleton]; omega)]
    rw [getn, List.append_assoc]
    rfl
theorem get_f (l : List Int) (hb : IsB l) (hl : l.length ≤ 140737488351232) : ∃ k, word_Get.f k l = some (getl l, gerr l) := by
  by_cases h8 : l.length % 8 = 0
  · refine ⟨0 + 10 * (l.length / 8) + 1, ?_⟩
    unfold word_Get.f
    rw [if_pos (by omega), get_l0 (l.length / 8) 0 l [] (by omega) hb (by simp; omega), gerr_yes h8, getl_yes h8]
    rfl
  · refine ⟨0, ?_⟩
    unfold word_Get.f
    rw [if_neg (by omega), gerr_no h8, getl_no h8]
/-- What is read is read wherever the blocks are as they were. -/
theorem F_of_C {enc : Int → Value} {h1 : ∀ x, (enc x).oneCell' = true} {w : World} {A : Option Addr} {n : Nat} {xs : List Int} (h : (Kd.scalar enc h1).C w A n xs) : Kd.F (Kd.scalar enc h1) w (fun _ => True) A n xs := by
  intro w' hw
  obtain ⟨a, b, c⟩ := h
  refine ⟨a, b, fun hp => ?_⟩
  obtain ⟨ad, rfl, hc⟩ := c hp
  refine ⟨ad, rfl, fun j p hj => ?_⟩
  obtain ⟨cs, hl, hr, hcell⟩ := hc j p hj
  exact ⟨cs, hl, hr, fun i u hu => Kd.cell_heap (fun k hk => hw k trivial hk) (hcell i u hu)⟩
theorem wget (A : Option Addr) (c : Nat) (l : List Int) (w : World) (hr : Kd.C (Kd.int .u8) w A l.length l) (hc : l.length ≤ c) (hb : IsB l) (hl : l.length ≤ 140737488351232) :
    Calls Try.prog 40 #[.slice A l.length c] w fun e w' => ∃ v : Value, e = .returned (.tuple #[v, .int .i64 (gerr l)]) ∧ Kd.R (Kd.int .i64) 2 w' w.heap.size (fun _ => True) v (getl l) ∧ Below w.heap.size w w' := by
  obtain ⟨k, hk⟩ := get_f l hb hl
  refine (word_Get.calls k (fun _ => True) A c l _ _ w (Kd.V_mk hc (F_of_C hr)) hk).mono ?_
  rintro e w' ⟨v, rfl, ho, hbl⟩
  exact ⟨v, rfl, Kd.R_mono ho (fun _ _ => trivial), hbl⟩
theorem nextB_short {b : List Int} (h : b.length < 8) : nextB b = false := by
  unfold nextB
  rw [show decide (8 ≤ b.length) = false from decide_eq_false (by omega)]
  rfl
theorem nextL_no {b : List Int} (h : nextB b = false) : nextL b = [] := by unfold nextL; rw [h]; rfl
theorem nextR_no {b : List Int} (h : nextB b = false) : nextR b = [] := by unfold nextR; rw [h]; rfl
theorem nextB_neg {b : List Int} (h : nextN b < 0) : nextB b = false := by
  unfold nextB
  rw [show decide (0 ≤ nextN b) = false from decide_eq_false (by omega)]
  simp
theorem nextB_big {b : List Int} (h : ((b.length - 8) / 8 : Nat) < nextN b) : nextB b = false := by
  unfold nextB
  rw [show decide (nextN b ≤ ((b.length - 8) / 8 : Nat)) = false from decide_eq_false (by omega)]
  simp
theorem nextB_yes {b : List Int} (h8 : 8 ≤ b.length) (h0 : 0 ≤ nextN b) (h : nextN b ≤ ((b.length - 8) / 8 : Nat)) : nextB b = true := by
  unfold nextB
  rw [decide_eq_true h8, decide_eq_true h0, decide_eq_true h]
  rfl
theorem gets_eight {b : List Int} (h : b.length = 8) : gets b = [dec8 b] := by
  unfold gets
  rw [h, show 8 / 8 = 1 from rfl, getn, getn, List.take_of_length_le (by omega)]

end Go.Proofs.Ytpcfceodbemooaa.B

