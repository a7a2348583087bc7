/- giroref2.Put, word.Row, giroref2.Row, giroref2.one, giroref2.Same: walks. -/
import Derived.Test.YtpcfceodbemooaaB2
import Derived.Test.YtpcfceodbemooaaWord1
namespace Go.Proofs.Ytpcfceodbemooaa.B
open Go.RowKit Go.Proofs.YtpcfceodbemooaaW.PrintWords Go.Proofs.YtpcfceodbemooaaW.PrintLast Go.Proofs.YtpcfceodbemooaaW.PrintMore
attribute [local go_sem] max2_int min2_int max_two min_two max_three min_three max_four min_four
set_option linter.unusedVariables false
set_option linter.unusedSimpArgs false

/-- A literal of one number, and two rows of bytes one behind the other. -/
theorem lit_one (n : Int) : Reps (fun (x : Int) (cs : List Value) => cs = [Value.int .i64 x]) 1 [n] [.int .i64 n] := (Reps.none _ _).snoc (cs := []) (ps := []) rfl rfl

set_option maxHeartbeats 1000000 in
theorem wrow (A : Option Addr) (c : Nat) (l : List Int) (w : World) (hr : Kd.C (Kd.int .i64) w A l.length l) (hl : l.length ≤ 17592186043904) :
    Calls Try.prog 34 #[.slice A l.length c] w fun e w' => ∃ v : Value, e = .returned v ∧ Kd.R (Kd.int .u8) 5 w' w.heap.size (fun _ => True) v (row l) ∧ Below w.heap.size w w' := by
  have HR := Aside0.mk hr
  clear hr
  have HB := Aside0.mk (Below.refl w.heap.size w)
  go_enter Try.func34, Try.ntmps34
  have hlen := Aside0.mk (show (puts [(l.length : Int)]).length = 8 from rfl)
  have hlen2 := Aside0.mk (puts_length l)
  go_wp2_with (first | ((with_reducible refine gate_dst (N := 5) rfl ?_); refine Kd.R_lit (Kd.int .i64) (w0 := w) w.heap.size 2 rfl (N := 5) rfl (xs := [(l.length : Int)]) (inner := [.int .i64 l.length]) (ok := fun _ => True) (okp := fun _ => True) (by first | (go_simp; done) | (go_simp; rfl) | (go_simp; exact ⟨rfl, rfl⟩)) (lit_one _) (fun _ hk => hk) trivial HB.out HB.out.size (by simp) ?_; intro v1 w1 ho hb hg_ hnew_; clear hg_ hnew_ HB; have HO := Aside0.mk ho; have HB := Aside0.mk hb; clear ho hb; obtain ⟨A1, c1, e1⟩ := Kd.R_slice HO.out; subst e1) | ((with_reducible refine gate_dst (N := 6) rfl ?_); (try (refine gate_guard (by rfl) ?_; dsimp only)); refine goesL_ (some 6) rfl rfl Try.func39 (by kernel_rfl) rfl #[.slice A1 1 c1] rfl (by (try simp only [List.map_toArray, List.map_cons, List.map_nil]); first | done | rfl | (simp only [List.length_drop, List.length_take]; rfl)) ?_; refine (wput A1 c1 [(l.length : Int)] _ (Kd.R_reads' HO.out).2.2 (by simp)).mono ?_; rintro e w2 ⟨v2, rfl, ho, hb⟩; refine ⟨_, rfl, ?_⟩; have HO2 := Aside0.mk (Kd.R_lower ho HB.out.size); have HB2 := Aside0.mk (below_step HB.out hb); clear ho hb HB HO; have HB := HB2; clear HB2) | ((with_reducible refine gate_dst (N := 8) rfl ?_); (try (refine gate_guard (by rfl) ?_; dsimp only)); refine goesL_ (some 8) rfl rfl Try.func39 (by kernel_rfl) rfl #[.slice A l.length c] rfl (by (try simp only [List.map_toArray, List.map_cons, List.map_nil]); first | done | rfl | (simp only [List.length_drop, List.length_take]; rfl)) ?_; refine (wput A c l _ (Kd.C_below HR.out HB.out) (by omega)).mono ?_; rintro e w3 ⟨v3, rfl, ho, hb⟩; refine ⟨_, rfl, ?_⟩; have HO3 := Aside0.mk ho; have HO4 := Aside0.mk (Kd.R_below HO2.out hb); have HB2 := Aside0.mk (below_step HB.out hb); clear ho hb HB HO2; have HB := HB2; clear HB2; obtain ⟨A3, c3, e3⟩ := Kd.R_slice HO3.out; subst e3) | ((with_reducible refine gate_dst (N := 9) rfl ?_); refine Kd.R_append_row (Value.int .u8) 0 (h1 := fun _ => rfl) (w0 := w) w.heap.size rfl _ _ 31 5 (.int .u8 0) 1 rfl Try.underlying31 info5 rfl (by decide) v2 (puts [(l.length : Int)]) (puts l) A3 (puts l).length c3 (fun _ => True) rfl rfl (fun _ _ => trivial) HO4.out (Kd.R_reads' HO3.out).2.2 HB.out HB.out.size (by have := hlen.out; have := hlen2.out; omega) ?_; intro v5 w5 ho hb hg_ hnew_; clear hg_ hnew_ HB; have HO := Aside0.mk ho; have HB := Aside0.mk hb; clear ho hb))
  go_ret
  exact ⟨_, rfl, HO.out, HB.out⟩
end Go.Proofs.Ytpcfceodbemooaa.B

