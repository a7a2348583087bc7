/- giroref2.one, giroref2.Get, giroref2.Next, giroref2.Same: walks. -/
import Derived.Test.YtpcfceodbemooaaWord2
namespace Go.Proofs.Ytpcfceodbemooaa.B
open Go.RowKit Go.Proofs.YtpcfceodbemooaaW.PrintWords Go.Proofs.YtpcfceodbemooaaW.PrintLast Go.Proofs.YtpcfceodbemooaaW.PrintMore
attribute [local go_sem] max2_int min2_int max_two min_two max_three min_three max_four min_four
set_option linter.unusedVariables false
set_option linter.unusedSimpArgs false

theorem u64_small {x : Int} (h0 : 0 ≤ x) (h1 : x < 18446744073709551616) : IntKind.u64.wrap x = x := by
  simp [IntKind.wrap, IntKind.bits, IntKind.signed]
  omega
set_option maxHeartbeats 1000000 in
theorem one2 (A : Option Addr) (c : Nat) (l : List Int) (w : World) (hr : Kd.C (Kd.int .u8) w A l.length l) (hb : IsB l) (hl : l.length = 8) :
    Calls Try.prog 41 #[.slice A l.length c] w fun e w' => e = .returned (.int .i64 (dec8 l)) ∧ Drawn0 w w' := by
  have HR := Aside0.mk hr
  have HI := Aside0.mk hb
  have HL := Aside0.mk hl
  clear hr hb hl
  go_enter Try.func41, Try.ntmps41
  go_wp2
  go_loopg [3, 4] 8 (fun kq v3 v4 w' => ∃ i : Nat, v4 = .int .i64 (i : Int) ∧ i ≤ 8 ∧ v3 = .int .u64 (hor (l.take i)) ∧ Aside0 (kq + i = 8) ∧ Drawn0 w w')
  case atStart => exact ⟨0, rfl, by omega, by simp [hor], ⟨rfl⟩, Drawn0.refl _⟩
  case round =>
    obtain ⟨i, rfl, hi, rfl, HK, ⟨m1, rfl⟩⟩ := hrel
    by_cases c4 : i < 8
    · have c4b : decide ((i : Int) < 8) = true := decide_eq_true (by omega)
      have c5 : i < l.length := by have := HL.out; omega
      obtain ⟨ad, e1, hx⟩ := Kd.at_int HR.out i (by omega) (by have := HL.out; omega)
      cases e1
      rw [Int.toNat_natCast] at hx
      have hb1 := HI.out.rd i
      have hh := hor_small HI.out (i := i) (by omega)
      have HT := Aside0.mk (hor_take_succ (b := l) (i := i) (by have := HL.out; omega))
      have e2 : IntKind.u64.wrap (hor (l.take i) * 256) = hor (l.take i) * 256 := u64_small (by omega) (by omega)
      have e3 : IntKind.u64.wrap (rd l i) = rd l i := u64_small (by omega) (by omega)
      have e4 : bits .or .u64 (hor (l.take i) * 256) (rd l i) = hor (l.take i) * 256 + rd l i := or_byte hh.1 hh.2 hb1.1 hb1.2
      go_wp2
      go_roundg (8 - (i + 1))
      case measure => have := HK.out; omega
      case rel => exact ⟨i + 1, by go_num, by omega, by rw [HT.out], ⟨by omega⟩, by repeat (first | exact Drawn0.refl _ | apply Drawn0.step)⟩
    · have c4b : decide ((i : Int) < 8) = false := decide_eq_false (by omega)
      have HT := Aside0.mk (show hor (l.take i) = hor l by rw [List.take_of_length_le (by have := HL.out; omega)])
      go_wp2
      go_ret
      exact ⟨by rw [dec8, ← HT.out]; rfl, by repeat (first | exact Drawn0.refl _ | apply Drawn0.step)⟩

set_option maxHeartbeats 1000000 in
theorem same2 (A0 : Option Addr) (c0 : Nat) (l0 : List Int) (A1 : Option Addr) (c1 : Nat) (l1 : List Int) (w : World) (hr0 : Kd.C (Kd.int .i64) w A0 l0.length l0) (hr1 : Kd.C (Kd.int .i64) w A1 l1.length l1) (hl : l0.length ≤ 17592186044400) :
    Calls Try.prog 24 #[.slice A0 l0.length c0, .slice A1 l1.length c1] w fun e w' => e = .returned (.bool (decide (l0 = l1))) ∧ Drawn0 w w' := by
  have HR0 := Aside0.mk hr0
  have HR1 := Aside0.mk hr1
  clear hr0 hr1
  by_cases c3 : l0.length = l1.length
  · have C3 := Aside0.mk c3
    have c3b1 : ((l0.length : Int) != (l1.length : Int)) = false := by rw [c3]; simp
    clear c3
    go_enter Try.func24, Try.ntmps24
    go_wp2
    go_loopg [5] l0.length (fun kq v5 w' => ∃ i : Nat, v5 = .int .i64 (i : Int) ∧ i ≤ l0.length ∧ Aside0 (kq + i = l0.length) ∧ Aside0 (l0.take i = l1.take i) ∧ Drawn0 w w')
    case atStart => exact ⟨0, rfl, Nat.zero_le _, ⟨rfl⟩, ⟨by simp⟩, Drawn0.refl _⟩
    case round =>
      obtain ⟨i, rfl, hi, HK, HT, ⟨m1, rfl⟩⟩ := hrel
      by_cases c4 : i < l0.length
      · have c5 : i < l1.length := by have := C3.out; omega
        obtain ⟨ad0, e0, hx0⟩ := Kd.at_int HR0.out i (by omega) (by exact_mod_cast c4)
        cases e0
        obtain ⟨ad1, e1, hx1⟩ := Kd.at_int HR1.out i (by omega) (by exact_mod_cast c5)
        cases e1
        rw [Int.toNat_natCast] at hx0 hx1
        have c4b : decide ((i : Int) < (l0.length : Int)) = true := decide_eq_true (by exact_mod_cast c4)
        have c5b : decide ((i : Int) < (l1.length : Int)) = true := decide_eq_true (by exact_mod_cast c5)
        by_cases c7 : rd l0 i = rd l1 i
        · have hne : (rd l0 i != rd l1 i) = false := by rw [c7]; simp
          have HT' := Aside0.mk (same_step' C3.out c4 HT.out c7)
          clear c7 HT
          go_wp2
          go_quiet (fail)
          go_wp2
          go_roundg (l0.length - (i + 1))
          case measure => have := HK.out; omega
          case rel => exact ⟨i + 1, by go_num, by omega, ⟨by omega⟩, HT', by repeat (first | exact Drawn0.refl _ | apply Drawn0.step)⟩
        · have hne : (rd l0 i != rd l1 i) = true := by rw [bne_iff_ne]; exact c7
          have hd : decide (l0 = l1) = false := decide_eq_false (fun h => c7 (by rw [h]))
          clear c7 HT
          go_wp2
          go_quiet (fail)
          go_wp2
          go_ret
          exact ⟨by rw [hd]; rfl, by repeat (first | exact Drawn0.refl _ | apply Drawn0.step)⟩
      · have hd : decide (l0 = l1) = true := decide_eq_true (same_end' C3.out (by omega) HT.out)
        have c4b : decide ((i : Int) < (l0.length : Int)) = false := decide_eq_false (by omega)
        go_wp2
        go_ret
        exact ⟨by rw [hd]; rfl, by repeat (first | exact Drawn0.refl _ | apply Drawn0.step)⟩
  · have hd : decide (l0 = l1) = false := decide_eq_false (fun h => c3 (by rw [h]))
    have c3b1 : ((l0.length : Int) != (l1.length : Int)) = true := by rw [bne_iff_ne]; omega
    clear c3
    go_enter Try.func24, Try.ntmps24
    go_wp2
    go_ret
    exact ⟨by rw [hd]; rfl, Drawn0.refl _⟩

set_option maxHeartbeats 1000000 in
theorem get2 (A : Option Addr) (c : Nat) (l : List Int) (w : World) (hr : Kd.C (Kd.int .u8) w A l.length l) (hc : l.length ≤ c) (hb : IsB l) (hl : l.length ≤ 140737488351232) :
    Calls Try.prog 42 #[.slice A l.length c] w fun e w' => ∃ v : Value, e = .returned (.tuple #[v, .int .i64 (gerr l)]) ∧ Kd.R (Kd.int .i64) 2 w' w.heap.size (fun _ => True) v (getl l) ∧ Below w.heap.size w w' := by
  have HR := Aside0.mk hr
  have HI := Aside0.mk hb
  have HC := Aside0.mk hc
  clear hr hb hc
  by_cases h8 : l.length % 8 = 0
  · rw [gerr_yes h8, getl_yes h8]
    obtain ⟨n, hn⟩ : ∃ n, n * 8 = l.length := ⟨l.length / 8, by omega⟩
    have HN := Aside0.mk hn
    have h8b : (((l.length : Int) % 8) != 0) = false := by rw [bne_eq_false_iff_eq]; omega
    clear h8 hn
    have HB := Aside0.mk (Below.refl w.heap.size w)
    go_enter Try.func42, Try.ntmps42
    go_wp2
    go_loopg [4, 5] n (fun kq v4 v5 w' => ∃ i : Nat, v5 = .int .i64 (8 * (i : Int)) ∧ i ≤ n ∧ Aside0 (kq + i = n) ∧ Aside0 (Kd.R (Kd.int .i64) 2 w' w.heap.size (fun _ => True) v4 (getn i l)) ∧ Aside0 (Below w.heap.size w w'))
    case atStart => exact ⟨0, rfl, by omega, ⟨rfl⟩, ⟨Kd.R_nil _ _ _ _ _⟩, HB⟩
    case round =>
      clear HB
      obtain ⟨i, rfl, hi, HK, HO, HB⟩ := hrel
      by_cases c4 : i < n
      · have c4b : decide (8 * (i : Int) < (l.length : Int)) = true := decide_eq_true (by have := HN.out; omega)
        have hlo : 8 * i + 8 ≤ l.length := by have := HN.out; omega
        obtain ⟨ys, A', c', hys, hrun, hC, hcap, hblk⟩ := cutM (P := Try.prog) (Kd.int .u8) 31 5 Try.underlying31 info5 .i64 .i64 A c l (8 * (i : Int)) (8 * (i : Int) + 8) (8 * i) (8 * i + 8) (by omega) (by omega) (by omega) hlo HC.out
        have hyl := Aside0.mk (show ys.length = 8 by rw [hys.out, List.length_drop, List.length_take]; omega)
        have hyd := Aside0.mk (show getn i l ++ [dec8 ys] = getn (i + 1) l by rw [getn_succ, hys.out, List.drop_take]; congr 4; omega)
        have hyb := Aside0.mk (show IsB ys by rw [hys.out]; exact (HI.out.take _).drop _)
        obtain ⟨Y, hY⟩ : ∃ Y, Y = getn i l := ⟨_, rfl⟩
        rw [← hY] at HO hyd
        have hYl := Aside0.mk (show Y.length = i by rw [hY, getn_length])
        clear hY
        obtain ⟨Ao, co, eo⟩ := Kd.R_slice HO.out
        subst eo
        go_wp2_with (first | ((with_reducible refine gate_dst (N := 22) rfl ?_); (try (refine gate_guard (by rfl) ?_; dsimp only)); refine goesL_ (some 22) rfl rfl Try.func41 (by kernel_rfl) rfl #[.slice A' ys.length c'] rfl (by (try simp only [List.map_toArray, List.map_cons, List.map_nil]); first | done | rfl | (simp only [List.length_drop, List.length_take]; rfl)) ?_; refine (one2 A' c' ys _ (hC.out _ (Kd.C_below HR.out HB.out)) hyb.out hyl.out).mono ?_; rintro e w2 ⟨rfl, ⟨m1, rfl⟩⟩; refine ⟨_, rfl, ?_⟩; have HO2 := Aside0.mk (Kd.R_drewN HO.out m1); have HB2 := Aside0.mk (pw_below_drewN HB.out m1); clear HO HB; have HO := HO2; have HB := HB2; clear HO2 HB2) | ((with_reducible refine gate_dst (N := 24) rfl ?_); refine Kd.R_append (Kd.int .i64) (w0 := w) w.heap.size rfl _ _ 24 2 (.int .i64 0) 8 rfl Try.underlying24 info2 rfl (by decide) (by decide) (.slice Ao Y.length co) Y (dec8 ys) [.int .i64 (dec8 ys)] (fun _ => True) (fun _ => False) rfl rfl rfl (fun _ h => h.elim) (fun _ _ => trivial) HO.out HB.out HB.out.size (by have := hYl.out; have := HN.out; omega) ?_; intro v1 w1 ho hb hg_ hnew_; clear hg_ hnew_ HB HO; have HO := Aside0.mk ho; have HB := Aside0.mk hb; clear ho hb))
        go_roundg (n - (i + 1))
        case measure => have := HK.out; omega
        case rel => exact ⟨i + 1, by go_num, by omega, ⟨by omega⟩, ⟨by rw [← hyd.out]; exact HO.out⟩, HB⟩
      · have c4b : decide (8 * (i : Int) < (l.length : Int)) = false := decide_eq_false (by have := HN.out; omega)
        have HT := Aside0.mk (show getn i l = gets l by rw [gets, show l.length / 8 = i from (by have := HN.out; omega)])
        go_wp2
        go_ret2
        exact ⟨_, rfl, by rw [← HT.out]; exact HO.out, HB.out⟩
  · rw [gerr_no h8, getl_no h8]
    have h8b : (((l.length : Int) % 8) != 0) = true := by rw [bne_iff_ne]; omega
    clear h8
    go_enter Try.func42, Try.ntmps42
    go_wp2
    go_ret2
    exact ⟨_, rfl, Kd.R_nil _ _ _ _ _, Below.refl _ _⟩
end Go.Proofs.Ytpcfceodbemooaa.B
