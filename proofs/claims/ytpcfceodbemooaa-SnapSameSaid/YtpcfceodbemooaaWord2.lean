/- giroref2.Put, word.Row, giroref2.Row, giroref2.one, giroref2.Same: walks. -/
import Derived.Test.YtpcfceodbemooaaB2
import Derived.Test.YtpcfceodbemooaaWord1
namespace Go.Proofs.Ytpcfceodbemooaa.B
open Go.RowKit Go.Proofs.YtpcfceodbemooaaW.PrintWords Go.Proofs.YtpcfceodbemooaaW.PrintLast Go.Proofs.YtpcfceodbemooaaW.PrintMore
attribute [local go_sem] max2_int min2_int max_two min_two max_three min_three max_four min_four
set_option linter.unusedVariables false
set_option linter.unusedSimpArgs false

set_option maxHeartbeats 1000000 in
theorem put2 (A : Option Addr) (c : Nat) (l : List Int) (w : World) (hr : Kd.C (Kd.int .i64) w A l.length l) (hl : l.length ≤ 17592186044000) :
    Calls Try.prog 36 #[.slice A l.length c] w fun e w' => ∃ v : Value, e = .returned v ∧ Kd.R (Kd.int .u8) 5 w' w.heap.size (fun _ => True) v (puts l) ∧ Below w.heap.size w w' := by
  have HR := Aside0.mk hr
  clear hr
  have HB := Aside0.mk (Below.refl w.heap.size w)
  go_enter Try.func36, Try.ntmps36
  go_wp2_with (first | ((with_reducible refine gate_dst (N := 6) rfl ?_); refine Kd.R_lit (Kd.int .u8) (w0 := w) w.heap.size 5 rfl (N := 6) rfl (xs := []) (inner := []) (ok := fun _ => True) (okp := fun _ => True) (by go_simp; done) (Reps.none _ _) (fun _ hk => hk) trivial (Below.refl _ _) (Nat.le_refl _) (by simp) ?_; intro v1 w1 ho hb hg_ hnew_; clear hg_ hnew_ HB; have HO := Aside0.mk ho; have HB := Aside0.mk hb; clear ho hb))
  go_loopg [3, 4, 5] l.length (fun kq v3 v4 v5 w' => ∃ i : Nat, v4 = .int .i64 (i : Int) ∧ i ≤ l.length ∧ Aside0 (kq + i = l.length) ∧ Aside0 (Kd.R (Kd.int .u8) 5 w' w.heap.size (fun _ => True) v3 (puts (l.take i))) ∧ Aside0 (Below w.heap.size w w'))
  case atStart => exact ⟨0, rfl, Nat.zero_le _, ⟨rfl⟩, HO, HB⟩
  case round =>
    clear HO HB
    obtain ⟨i, rfl, hi, HK, HO, HB⟩ := hrel
    by_cases c4 : i < l.length
    · have HT := Aside0.mk (puts_take_succ l i c4)
      have c4b : decide ((i : Int) < (l.length : Int)) = true := decide_eq_true (by exact_mod_cast c4)
      go_wp2
      go_loopg [3, 5] 8 (fun kq v3 v5 w' => ∃ j : Nat, v5 = .int .i64 (56 - 8 * (j : Int)) ∧ j ≤ 8 ∧ Aside0 (kq + j = 8) ∧ Aside0 (Kd.R (Kd.int .u8) 5 w' w.heap.size (fun _ => True) v3 (puts (l.take i) ++ (be8 (rd l i)).take j)) ∧ Aside0 (Below w.heap.size w w'))
      case atStart => exact ⟨0, rfl, Nat.zero_le _, ⟨rfl⟩, by simpa using HO, HB⟩
      case round =>
        clear HO HB
        obtain ⟨j, rfl, hj, HK2, HO, HB⟩ := hrel
        by_cases c5 : j < 8
        · have c5b : decide (0 ≤ 56 - 8 * (j : Int)) = true := decide_eq_true (by omega)
          obtain ⟨Y, hY⟩ : ∃ Y, Y = puts (l.take i) ++ (be8 (rd l i)).take j := ⟨_, rfl⟩
          have hsn := Aside0.mk (show Y ++ [IntKind.u64.wrap (rd l i) / 2 ^ (56 - 8 * j) % 256] = puts (l.take i) ++ (be8 (rd l i)).take (j + 1) by rw [be8_snoc64 (rd l i) j c5, hY, List.append_assoc])
          have hlen := Aside0.mk (by rw [hY, List.length_append, puts_length, List.length_take, List.length_take]; omega : Y.length ≤ 8 * i + 8)
          rw [← hY] at HO
          clear hY
          obtain ⟨Ao, co, eo⟩ := Kd.R_slice HO.out
          subst eo
          obtain ⟨ad, e1, hx⟩ := Kd.at_int (Kd.C_below HR.out HB.out) i (by omega) (by exact_mod_cast c4)
          cases e1
          rw [Int.toNat_natCast] at hx
          have c5c : decide (8 * (j : Int) ≤ 56) = true := decide_eq_true (by omega)
          go_wp2_with (first | ((with_reducible refine gate_dst (N := 28) rfl ?_); refine Kd.R_append (Kd.int .u8) (w0 := w) w.heap.size rfl _ _ 31 5 (.int .u8 0) 1 rfl Try.underlying31 info5 rfl (by decide) (by decide) (.slice Ao Y.length co) Y (IntKind.u64.wrap (rd l i) / 2 ^ (56 - 8 * j) % 256) [.int .u8 (IntKind.u64.wrap (rd l i) / 2 ^ (56 - 8 * j) % 256)] (fun _ => True) (fun _ => False) rfl rfl rfl (fun _ h => h.elim) (fun _ _ => trivial) HO.out HB.out HB.out.size (by have := hlen.out; omega) ?_; intro v1 w1 ho hb hg_ hnew_; clear hg_ hnew_ HB HO; have HO := Aside0.mk ho; have HB := Aside0.mk hb; clear ho hb))
          go_roundg (8 - (j + 1))
          case measure => have := HK2.out; omega
          case rel => exact ⟨j + 1, by go_num, by omega, ⟨by omega⟩, ⟨by rw [← hsn.out]; exact HO.out⟩, HB⟩
        · have c5b : decide (0 ≤ 56 - 8 * (j : Int)) = false := decide_eq_false (by omega)
          have c5c : decide (8 * (j : Int) ≤ 56) = false := decide_eq_false (by omega)
          have HT2 := Aside0.mk (show (puts (l.take i) ++ (be8 (rd l i)).take j) = puts (l.take (i + 1)) by rw [HT.out, List.take_of_length_le (l := be8 (rd l i)) (by rw [be8_length]; omega)]; rfl)
          go_wp2
          go_roundg (l.length - (i + 1))
          case measure => have := HK.out; omega
          case rel => exact ⟨i + 1, by go_num, by omega, ⟨by omega⟩, ⟨by rw [← HT2.out]; exact HO.out⟩, HB⟩
    · have HT := Aside0.mk (show puts (l.take i) = puts l by rw [List.take_of_length_le (by omega)])
      have c4b : decide ((i : Int) < (l.length : Int)) = false := decide_eq_false (by omega)
      go_wp2
      go_ret
      exact ⟨_, rfl, by rw [← HT.out]; exact HO.out, HB.out⟩

/-- A literal of one number, and two rows of bytes one behind the other. -/
theorem lit_one (n : Int) : Reps (fun (x : Int) (cs : List Value) => cs = [Value.int .i64 x]) 1 [n] [.int .i64 n] := (Reps.none _ _).snoc (cs := []) (ps := []) rfl rfl

set_option maxHeartbeats 1000000 in
theorem wrow (A : Option Addr) (c : Nat) (l : List Int) (w : World) (hr : Kd.C (Kd.int .i64) w A l.length l) (hl : l.length ≤ 17592186043904) :
    Calls Try.prog 34 #[.slice A l.length c] w fun e w' => ∃ v : Value, e = .returned v ∧ Kd.R (Kd.int .u8) 5 w' w.heap.size (fun _ => True) v (row l) ∧ Below w.heap.size w w' := by
  have HR := Aside0.mk hr
  clear hr
  have HB := Aside0.mk (Below.refl w.heap.size w)
  go_enter Try.func34, Try.ntmps34
  have hlen := Aside0.mk (show (puts [(l.length : Int)]).length = 8 from rfl)
  have hlen2 := Aside0.mk (puts_length l)
  go_wp2_with (first | ((with_reducible refine gate_dst (N := 5) rfl ?_); refine Kd.R_lit (Kd.int .i64) (w0 := w) w.heap.size 2 rfl (N := 5) rfl (xs := [(l.length : Int)]) (inner := [.int .i64 l.length]) (ok := fun _ => True) (okp := fun _ => True) (by first | (go_simp; done) | (go_simp; rfl) | (go_simp; exact ⟨rfl, rfl⟩)) (lit_one _) (fun _ hk => hk) trivial HB.out HB.out.size (by simp) ?_; intro v1 w1 ho hb hg_ hnew_; clear hg_ hnew_ HB; have HO := Aside0.mk ho; have HB := Aside0.mk hb; clear ho hb; obtain ⟨A1, c1, e1⟩ := Kd.R_slice HO.out; subst e1) | ((with_reducible refine gate_dst (N := 6) rfl ?_); (try (refine gate_guard (by rfl) ?_; dsimp only)); refine goesL_ (some 6) rfl rfl Try.func39 (by kernel_rfl) rfl #[.slice A1 1 c1] rfl (by (try simp only [List.map_toArray, List.map_cons, List.map_nil]); first | done | rfl | (simp only [List.length_drop, List.length_take]; rfl)) ?_; refine (wput A1 c1 [(l.length : Int)] _ (Kd.R_reads' HO.out).2.2 (by simp)).mono ?_; rintro e w2 ⟨v2, rfl, ho, hb⟩; refine ⟨_, rfl, ?_⟩; have HO2 := Aside0.mk (Kd.R_lower ho HB.out.size); have HB2 := Aside0.mk (below_step HB.out hb); clear ho hb HB HO; have HB := HB2; clear HB2) | ((with_reducible refine gate_dst (N := 8) rfl ?_); (try (refine gate_guard (by rfl) ?_; dsimp only)); refine goesL_ (some 8) rfl rfl Try.func39 (by kernel_rfl) rfl #[.slice A l.length c] rfl (by (try simp only [List.map_toArray, List.map_cons, List.map_nil]); first | done | rfl | (simp only [List.length_drop, List.length_take]; rfl)) ?_; refine (wput A c l _ (Kd.C_below HR.out HB.out) (by omega)).mono ?_; rintro e w3 ⟨v3, rfl, ho, hb⟩; refine ⟨_, rfl, ?_⟩; have HO3 := Aside0.mk ho; have HO4 := Aside0.mk (Kd.R_below HO2.out hb); have HB2 := Aside0.mk (below_step HB.out hb); clear ho hb HB HO2; have HB := HB2; clear HB2; obtain ⟨A3, c3, e3⟩ := Kd.R_slice HO3.out; subst e3) | ((with_reducible refine gate_dst (N := 9) rfl ?_); refine Kd.R_append_row (Value.int .u8) 0 (h1 := fun _ => rfl) (w0 := w) w.heap.size rfl _ _ 31 5 (.int .u8 0) 1 rfl Try.underlying31 info5 rfl (by decide) v2 (puts [(l.length : Int)]) (puts l) A3 (puts l).length c3 (fun _ => True) rfl rfl (fun _ _ => trivial) HO4.out (Kd.R_reads' HO3.out).2.2 HB.out HB.out.size (by have := hlen.out; have := hlen2.out; omega) ?_; intro v5 w5 ho hb hg_ hnew_; clear hg_ hnew_ HB; have HO := Aside0.mk ho; have HB := Aside0.mk hb; clear ho hb))
  go_ret
  exact ⟨_, rfl, HO.out, HB.out⟩
set_option maxHeartbeats 1000000 in
theorem row2 (A : Option Addr) (c : Nat) (l : List Int) (w : World) (hr : Kd.C (Kd.int .i64) w A l.length l) (hl : l.length ≤ 17592186043904) :
    Calls Try.prog 21 #[.slice A l.length c] w fun e w' => ∃ v : Value, e = .returned v ∧ Kd.R (Kd.int .u8) 5 w' w.heap.size (fun _ => True) v (row l) ∧ Below w.heap.size w w' := by
  have HR := Aside0.mk hr
  clear hr
  have HB := Aside0.mk (Below.refl w.heap.size w)
  go_enter Try.func21, Try.ntmps21
  have hlen := Aside0.mk (show (puts [(l.length : Int)]).length = 8 from rfl)
  have hlen2 := Aside0.mk (puts_length l)
  go_wp2_with (first | ((with_reducible refine gate_dst (N := 5) rfl ?_); refine Kd.R_lit (Kd.int .i64) (w0 := w) w.heap.size 2 rfl (N := 5) rfl (xs := [(l.length : Int)]) (inner := [.int .i64 l.length]) (ok := fun _ => True) (okp := fun _ => True) (by first | (go_simp; done) | (go_simp; rfl) | (go_simp; exact ⟨rfl, rfl⟩)) (lit_one _) (fun _ hk => hk) trivial HB.out HB.out.size (by simp) ?_; intro v1 w1 ho hb hg_ hnew_; clear hg_ hnew_ HB; have HO := Aside0.mk ho; have HB := Aside0.mk hb; clear ho hb; obtain ⟨A1, c1, e1⟩ := Kd.R_slice HO.out; subst e1) | ((with_reducible refine gate_dst (N := 6) rfl ?_); (try (refine gate_guard (by rfl) ?_; dsimp only)); refine goesL_ (some 6) rfl rfl Try.func36 (by kernel_rfl) rfl #[.slice A1 1 c1] rfl (by (try simp only [List.map_toArray, List.map_cons, List.map_nil]); first | done | rfl | (simp only [List.length_drop, List.length_take]; rfl)) ?_; refine (put2 A1 c1 [(l.length : Int)] _ (Kd.R_reads' HO.out).2.2 (by simp)).mono ?_; rintro e w2 ⟨v2, rfl, ho, hb⟩; refine ⟨_, rfl, ?_⟩; have HO2 := Aside0.mk (Kd.R_lower ho HB.out.size); have HB2 := Aside0.mk (below_step HB.out hb); clear ho hb HB HO; have HB := HB2; clear HB2) | ((with_reducible refine gate_dst (N := 8) rfl ?_); (try (refine gate_guard (by rfl) ?_; dsimp only)); refine goesL_ (some 8) rfl rfl Try.func36 (by kernel_rfl) rfl #[.slice A l.length c] rfl (by (try simp only [List.map_toArray, List.map_cons, List.map_nil]); first | done | rfl | (simp only [List.length_drop, List.length_take]; rfl)) ?_; refine (put2 A c l _ (Kd.C_below HR.out HB.out) (by omega)).mono ?_; rintro e w3 ⟨v3, rfl, ho, hb⟩; refine ⟨_, rfl, ?_⟩; have HO3 := Aside0.mk ho; have HO4 := Aside0.mk (Kd.R_below HO2.out hb); have HB2 := Aside0.mk (below_step HB.out hb); clear ho hb HB HO2; have HB := HB2; clear HB2; obtain ⟨A3, c3, e3⟩ := Kd.R_slice HO3.out; subst e3) | ((with_reducible refine gate_dst (N := 9) rfl ?_); refine Kd.R_append_row (Value.int .u8) 0 (h1 := fun _ => rfl) (w0 := w) w.heap.size rfl _ _ 31 5 (.int .u8 0) 1 rfl Try.underlying31 info5 rfl (by decide) v2 (puts [(l.length : Int)]) (puts l) A3 (puts l).length c3 (fun _ => True) rfl rfl (fun _ _ => trivial) HO4.out (Kd.R_reads' HO3.out).2.2 HB.out HB.out.size (by have := hlen.out; have := hlen2.out; omega) ?_; intro v5 w5 ho hb hg_ hnew_; clear hg_ hnew_ HB; have HO := Aside0.mk ho; have HB := Aside0.mk hb; clear ho hb))
  go_ret
  exact ⟨_, rfl, HO.out, HB.out⟩
end Go.Proofs.Ytpcfceodbemooaa.B
