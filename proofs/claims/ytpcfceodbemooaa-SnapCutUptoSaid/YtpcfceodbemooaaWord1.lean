/- word.Put: numbers as bytes. -/
import Derived.Test.YtpcfceodbemooaaB1
namespace Go.Proofs.Ytpcfceodbemooaa.B
open Go.RowKit Go.Proofs.YtpcfceodbemooaaW.PrintWords Go.Proofs.YtpcfceodbemooaaW.PrintLast Go.Proofs.YtpcfceodbemooaaW.PrintMore
attribute [local go_sem] max2_int min2_int max_two min_two max_three min_three max_four min_four
set_option linter.unusedVariables false
set_option linter.unusedSimpArgs false


set_option maxHeartbeats 1000000 in
theorem wput (A : Option Addr) (c : Nat) (l : List Int) (w : World) (hr : Kd.C (Kd.int .i64) w A l.length l) (hl : l.length ≤ 17592186044000) :
    Calls Try.prog 39 #[.slice A l.length c] w fun e w' => ∃ v : Value, e = .returned v ∧ Kd.R (Kd.int .u8) 5 w' w.heap.size (fun _ => True) v (puts l) ∧ Below w.heap.size w w' := by
  have HR := Aside0.mk hr
  clear hr
  have HB := Aside0.mk (Below.refl w.heap.size w)
  go_enter Try.func39, Try.ntmps39
  go_wp2_with (first | ((with_reducible refine gate_dst (N := 10) rfl ?_); refine R_make0 (enc := Value.int .u8) (h1 := fun _ => rfl) (w0 := w) w.heap.size 5 rfl 31 _ _ rfl (8 * l.length) (8 * (l.length : Int)) (by omega) rfl rfl Try.underlying31 _ 1 info5 (by decide) (ok := fun _ => True) trivial (by omega) (Below.refl _ _) (Nat.le_refl _) ?_; intro v1 w1 ho hb hg_ hnew_; clear hg_ hnew_ HB; have HO := Aside0.mk ho; have HB := Aside0.mk hb; clear ho hb))
  go_loopg [3, 5, 6, 13] l.length (fun kq v3 v5 v6 v13 w' => ∃ i : Nat, v13 = .int .i64 (i : Int) ∧ i ≤ l.length ∧ Aside0 (kq + i = l.length) ∧ Aside0 (Kd.R (Kd.int .u8) 5 w' w.heap.size (fun _ => True) v3 (puts (l.take i))) ∧ Aside0 (Below w.heap.size w w'))
  case atStart => exact ⟨0, rfl, Nat.zero_le _, ⟨rfl⟩, HO, HB⟩
  case round =>
    clear HO HB
    obtain ⟨i, rfl, hi, HK, HO, HB⟩ := hrel
    by_cases c4 : i < l.length
    · obtain ⟨ad, e1, hx⟩ := Kd.at_int (Kd.C_below HR.out HB.out) i (by omega) (by exact_mod_cast c4)
      cases e1
      rw [Int.toNat_natCast] at hx
      have HT := Aside0.mk (puts_take_succ l i c4)
      go_wp2
      go_loopg [3, 6] 8 (fun kq v3 v6 w' => ∃ j : Nat, v6 = .int .i64 (7 - (j : Int)) ∧ j ≤ 8 ∧ Aside0 (kq + j = 8) ∧ Aside0 (Kd.R (Kd.int .u8) 5 w' w.heap.size (fun _ => True) v3 (puts (l.take i) ++ (be8 (rd l i)).take j)) ∧ Aside0 (Below w.heap.size w w'))
      case atStart => exact ⟨0, rfl, Nat.zero_le _, ⟨rfl⟩, by simpa using HO, HB⟩
      case round =>
        clear HO HB
        obtain ⟨j, rfl, hj, HK2, HO, HB⟩ := hrel
        by_cases c5 : j < 8
        · have c5b : decide (0 ≤ 7 - (j : Int)) = true := decide_eq_true (by omega)
          have hsn := Aside0.mk (be8_snoc (rd l i) j c5)
          have hlen := Aside0.mk (by rw [List.length_append, puts_length, List.length_take, List.length_take]; omega : (puts (l.take i) ++ (be8 (rd l i)).take j).length ≤ 8 * i + 8)
          obtain ⟨Ao, co, eo⟩ := Kd.R_slice HO.out
          subst eo
          go_wp2_with (first | ((with_reducible refine gate_dst (N := 28) rfl ?_); refine Kd.R_append (Kd.int .u8) (w0 := w) w.heap.size rfl _ _ 31 5 (.int .u8 0) 1 rfl Try.underlying31 info5 rfl (by decide) (by decide) (.slice Ao (puts (l.take i) ++ (be8 (rd l i)).take j).length co) (puts (l.take i) ++ (be8 (rd l i)).take j) (rd l i / 2 ^ (8 * (7 - j)) % 256) [.int .u8 (rd l i / 2 ^ (8 * (7 - j)) % 256)] (fun _ => True) (fun _ => False) rfl rfl rfl (fun _ h => h.elim) (fun _ _ => trivial) HO.out HB.out HB.out.size (by have := hlen.out; omega) ?_; intro v1 w1 ho hb hg_ hnew_; clear hg_ hnew_ HB HO; have HO := Aside0.mk ho; have HB := Aside0.mk hb; clear ho hb))
          go_roundg (8 - (j + 1))
          case measure => have := HK2.out; omega
          case rel => exact ⟨j + 1, by go_num, by omega, ⟨by omega⟩, ⟨by rw [hsn.out, ← List.append_assoc]; exact HO.out⟩, HB⟩
        · have c5b : decide (0 ≤ 7 - (j : Int)) = false := decide_eq_false (by omega)
          have HT2 := Aside0.mk (show (puts (l.take i) ++ (be8 (rd l i)).take j) = puts (l.take (i + 1)) by rw [HT.out, List.take_of_length_le (l := be8 (rd l i)) (by rw [be8_length]; omega)]; rfl)
          go_wp2
          go_roundg (l.length - (i + 1))
          case measure => have := HK.out; omega
          case rel => exact ⟨i + 1, by go_num, by omega, ⟨by omega⟩, ⟨by rw [← HT2.out]; exact HO.out⟩, HB⟩
    · have HT := Aside0.mk (show puts (l.take i) = puts l by rw [List.take_of_length_le (by omega)])
      go_wp2
      go_ret
      exact ⟨_, rfl, by rw [← HT.out]; exact HO.out, HB.out⟩
end Go.Proofs.Ytpcfceodbemooaa.B
