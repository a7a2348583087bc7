/- giroref5.Same: are two rows of bytes one. -/
import Derived.Test.YthaeppjhmjpecaaB1
namespace Go.Proofs.Ythaeppjhmjpecaa.B
open Go.RowKit Go.Proofs.YthaeppjhmjpecaaW.PrintWords Go.Proofs.YthaeppjhmjpecaaW.PrintLast Go.Proofs.YthaeppjhmjpecaaW.PrintMore
attribute [local go_sem] max2_int min2_int max_two min_two max_three min_three max_four min_four
set_option linter.unusedVariables false
set_option linter.unusedSimpArgs false

theorem rd_L1_nat (xs : List (List Int)) (i : Nat) : rd_L1 xs (i : Int) = xs.getD i [] := rfl
/-- Rows are the same when they are so from the i-th on. -/
theorem same_step {a b : List (List Int)} {i : Nat} (h : a.length = b.length) (hi : i < a.length) (ht : a.take i = b.take i) (he : a.getD i [] = b.getD i []) : a.take (i + 1) = b.take (i + 1) := by
  rw [List.take_succ_eq_append_getElem hi, List.take_succ_eq_append_getElem (by omega), ht]
  rw [List.getD_eq_getElem?_getD, List.getD_eq_getElem?_getD, List.getElem?_eq_getElem hi, List.getElem?_eq_getElem (by omega)] at he
  simp only [Option.getD_some] at he
  rw [he]
theorem same_end {a b : List (List Int)} {i : Nat} (h : a.length = b.length) (hi : a.length ≤ i) (ht : a.take i = b.take i) : a = b := by
  rwa [List.take_of_length_le hi, List.take_of_length_le (by omega)] at ht

set_option maxHeartbeats 1000000 in
theorem same5 (A0 : Option Addr) (c0 : Nat) (l0 : List (List Int)) (A1 : Option Addr) (c1 : Nat) (l1 : List (List Int)) (w : World) (hr0 : Kd.C (Kd.slice 5 (Kd.int .u8)) w A0 l0.length l0) (hr1 : Kd.C (Kd.slice 5 (Kd.int .u8)) w A1 l1.length l1) (h0 : IsBs l0) (h1 : IsBs l1) (hl : l0.length ≤ 140737488351232) :
    Calls Try.prog 39 #[.slice A0 l0.length c0, .slice A1 l1.length c1] w fun e w' => e = .returned (.bool (decide (l0 = l1))) ∧ Drawn0 w w' := by
  have HR0 := Aside0.mk hr0
  have HR1 := Aside0.mk hr1
  have HB0 := Aside0.mk h0
  have HB1 := Aside0.mk h1
  clear hr0 hr1 h0 h1
  by_cases c3 : l0.length = l1.length
  · have C3 := Aside0.mk c3
    have c3b1 : ((l0.length : Int) != (l1.length : Int)) = false := by rw [c3]; simp
    clear c3
    go_enter Try.func39, Try.ntmps39
    go_wp2
    go_loopg [5] l0.length (fun kq v5 w' => ∃ i : Nat, v5 = .int .i64 (i : Int) ∧ i ≤ l0.length ∧ Aside0 (kq + i = l0.length) ∧ Aside0 (l0.take i = l1.take i) ∧ Drawn0 w w')
    case atStart => exact ⟨0, rfl, Nat.zero_le _, ⟨rfl⟩, ⟨by simp⟩, Drawn0.refl _⟩
    case round =>
      obtain ⟨i, rfl, hi, HK, HT, ⟨m1, rfl⟩⟩ := hrel
      by_cases c4 : i < l0.length
      · obtain ⟨ad155, A155, c155, e155, hx155, hl155, hi155⟩ := at_L1 HR0.out i (by omega) (by exact_mod_cast c4)
        cases e155
        obtain ⟨ad156, A156, c156, e156, hx156, hl156, hi156⟩ := at_L1 HR1.out i (by omega) (by have := C3.out; omega)
        cases e156
        rw [Int.toNat_natCast] at hx155 hx156
        have hcv8 := fun nq => Kd.C_string (w := w.drewN nq) (P := Try.prog) (A := A155) (c := c155) Try.underlying22 Try.underlying5 Try.underlying9 (Kd.C_drewN hi155 _)
        have hcv9 := fun nq => Kd.C_string (w := w.drewN nq) (P := Try.prog) (A := A156) (c := c156) Try.underlying22 Try.underlying5 Try.underlying9 (Kd.C_drewN hi156 _)
        have HI0 := Aside0.mk hi155
        have HI1 := Aside0.mk hi156
        clear hi155 hi156 hl155 hl156
        have c4b : decide ((i : Int) < (l0.length : Int)) = true := decide_eq_true (by exact_mod_cast c4)
        have c5b : decide ((i : Int) < (l1.length : Int)) = true := decide_eq_true (by have := C3.out; omega)
        have c5 : i < l1.length := by have := C3.out; omega
        have heq := str_beq (a := rd_L1 l0 i) (b := rd_L1 l1 i) (HB0.out.getD i) (HB1.out.getD i)
        have hne := str_bne (a := rd_L1 l0 i) (b := rd_L1 l1 i) (HB0.out.getD i) (HB1.out.getD i)
        by_cases c7 : rd_L1 l0 i = rd_L1 l1 i
        · rw [decide_eq_true c7] at hne heq
          simp only [Bool.not_true] at hne
          have HT' := Aside0.mk (same_step C3.out c4 HT.out c7)
          clear c7 HT
          go_wp2
          go_quiet (fail)
          go_wp2
          go_roundg (l0.length - (i + 1))
          case measure => have := HK.out; omega
          case rel => exact ⟨i + 1, by go_num, by omega, ⟨by omega⟩, HT', by repeat (first | exact Drawn0.refl _ | apply Drawn0.step)⟩
        · rw [decide_eq_false c7] at hne heq
          simp only [Bool.not_false] at hne
          have hd : decide (l0 = l1) = false := decide_eq_false (fun h => c7 (by rw [h]))
          clear c7 HT
          go_wp2
          go_quiet (fail)
          go_wp2
          go_ret
          exact ⟨by rw [hd]; rfl, by repeat (first | exact Drawn0.refl _ | apply Drawn0.step)⟩
      · have hd : decide (l0 = l1) = true := decide_eq_true (same_end C3.out (by omega) HT.out)
        have c4b : decide ((i : Int) < (l0.length : Int)) = false := decide_eq_false (by omega)
        go_wp2
        go_ret
        exact ⟨by rw [hd]; rfl, by repeat (first | exact Drawn0.refl _ | apply Drawn0.step)⟩
  · have hd : decide (l0 = l1) = false := decide_eq_false (fun h => c3 (by rw [h]))
    have c3b1 : ((l0.length : Int) != (l1.length : Int)) = true := by rw [bne_iff_ne]; omega
    clear c3
    go_enter Try.func39, Try.ntmps39
    go_wp2
    go_ret
    exact ⟨by rw [hd]; rfl, Drawn0.refl _⟩

end Go.Proofs.Ythaeppjhmjpecaa.B
