/- girolaw3.MsgReads: the walk. -/
import Derived.Test.YtoljpojpncjmoaaMsg10
import Derived.Test.YtoljpojpncjmoaaLawNumbers
namespace Go.Proofs.Ytoljpojpncjmoaa.B
open Go.RowKit Go.Proofs.YtoljpojpncjmoaaW.PrintWords Go.Proofs.YtoljpojpncjmoaaW.PrintLast Go.Proofs.YtoljpojpncjmoaaW.PrintMore
attribute [local go_sem] max2_int min2_int max_two min_two max_three min_three max_four min_four
set_option linter.unusedVariables false
set_option linter.unusedSimpArgs false
theorem eqCmdRun (w : World) (who k a0 a1 a2 a3 a4 a5 : Int) : (Go.binOp .eql 63 (.agg #[.int .i64 who, .int .i64 k, .int .i64 a0, .int .i64 a1, .int .i64 a2, .int .i64 a3, .int .i64 a4, .int .i64 a5]) (.agg #[.int .i64 who, .int .i64 k, .int .i64 a0, .int .i64 a1, .int .i64 a2, .int .i64 a3, .int .i64 a4, .int .i64 a5])).run Try.prog w = .ok (.bool true) w := by
  rw [run_eql_struct, eqCmd 9996]
  rfl
set_option maxHeartbeats 1000000 in
theorem lawReads (A : Option Addr) (c : Nat) (l : List Int) (w : World) (hr : Kd.C (Kd.int .u8) w A l.length l) (hc : l.length ≤ c) (hb : IsB l) (hl : l.length ≤ 140737488351232) :
    Calls Try.prog 16 #[.slice A l.length c] w fun e w' => e = .returned (.bool true) ∧ Below w.heap.size w w' := by
  have HR := Aside0.mk hr
  have HI := Aside0.mk hb
  clear hr hb
  have HB := Aside0.mk (Below.refl w.heap.size w)
  by_cases c1 : 200 < l.length
  · have h1b : decide (200 < (l.length : Int)) = true := decide_eq_true (by omega)
    have h1n : decide (200 < l.length) = true := decide_eq_true c1
    go_enter Try.func16, Try.ntmps16
    go_wp2
    go_ret
    exact ⟨rfl, HB.out⟩
  · have h1b : decide (200 < (l.length : Int)) = false := decide_eq_false (by omega)
    have h1n : decide (200 < l.length) = false := decide_eq_false c1
    obtain ⟨⟨k, p0, p1, p2, p3, p4, p5⟩, hm⟩ : ∃ m, m = readM l := ⟨_, rfl⟩
    obtain ⟨e1, he1⟩ : ∃ e1, e1 = readE l := ⟨_, rfl⟩
    have HM := Aside0.mk (show (readM l).cells = #[.int .i64 k, .int .i64 p0, .int .i64 p1, .int .i64 p2, .int .i64 p3, .int .i64 p4, .int .i64 p5] ∧ readE l = e1 by rw [← hm]; exact ⟨rfl, he1.symm⟩)
    obtain ⟨⟨k', q0, q1, q2, q3, q4, q5⟩, hm'⟩ : ∃ m, m = readCM l := ⟨_, rfl⟩
    obtain ⟨who, hwho⟩ : ∃ who, who = readCW l := ⟨_, rfl⟩
    obtain ⟨e2, he2⟩ : ∃ e2, e2 = readCE l := ⟨_, rfl⟩
    have HC := Aside0.mk (show cmdCells (readCW l) (readCM l) = #[.int .i64 who, .int .i64 k', .int .i64 q0, .int .i64 q1, .int .i64 q2, .int .i64 q3, .int .i64 q4, .int .i64 q5] ∧ readCE l = e2 by rw [← hm', ← hwho]; exact ⟨rfl, he2.symm⟩)
    have heq0 : ∀ W, (Go.binOp .eql 54 (.agg #[.int .i64 k, .int .i64 p0, .int .i64 p1, .int .i64 p2, .int .i64 p3, .int .i64 p4, .int .i64 p5]) (.agg #[.int .i64 k, .int .i64 p0, .int .i64 p1, .int .i64 p2, .int .i64 p3, .int .i64 p4, .int .i64 p5])).run Try.prog W = .ok (.bool true) W := fun W => eqMsRun W k p0 p1 p2 p3 p4 p5
    have heq1 : ∀ W, (Op.equalIn 10000 54 (.agg #[.int .i64 k, .int .i64 p0, .int .i64 p1, .int .i64 p2, .int .i64 p3, .int .i64 p4, .int .i64 p5]) (.agg #[.int .i64 k, .int .i64 p0, .int .i64 p1, .int .i64 p2, .int .i64 p3, .int .i64 p4, .int .i64 p5])).run Try.prog W = .ok true W := fun W => eqMs 9997 W k p0 p1 p2 p3 p4 p5
    have heq2 : ∀ W, (Go.binOp .eql 63 (.agg #[.int .i64 who, .int .i64 k', .int .i64 q0, .int .i64 q1, .int .i64 q2, .int .i64 q3, .int .i64 q4, .int .i64 q5]) (.agg #[.int .i64 who, .int .i64 k', .int .i64 q0, .int .i64 q1, .int .i64 q2, .int .i64 q3, .int .i64 q4, .int .i64 q5])).run Try.prog W = .ok (.bool true) W := fun W => eqCmdRun W who k' q0 q1 q2 q3 q4 q5
    have heq3 : ∀ W, (Op.equalIn 10000 63 (.agg #[.int .i64 who, .int .i64 k', .int .i64 q0, .int .i64 q1, .int .i64 q2, .int .i64 q3, .int .i64 q4, .int .i64 q5]) (.agg #[.int .i64 who, .int .i64 k', .int .i64 q0, .int .i64 q1, .int .i64 q2, .int .i64 q3, .int .i64 q4, .int .i64 q5])).run Try.prog W = .ok true W := fun W => eqCmd 9996 W who k' q0 q1 q2 q3 q4 q5
    clear hm he1 hm' hwho he2 c1
    go_enter Try.func16, Try.ntmps16
    go_wp2_with (first | ((with_reducible refine gate_dst (N := 16) rfl ?_); (try (refine gate_guard (by rfl) ?_; dsimp only)); refine goesL_ (some 16) rfl rfl Try.func35 (by kernel_rfl) rfl #[.slice A l.length c] rfl (by (try simp only [List.map_toArray, List.map_cons, List.map_nil]); first | done | rfl | (simp only [List.length_drop, List.length_take]; rfl)) ?_; refine (mread A c l _ HR.out hc HI.out hl).mono ?_; rintro e w1 ⟨rfl, hbl⟩; refine ⟨_, rfl, ?_⟩; rw [HM.out.1, HM.out.2]; have HB_ := Aside0.mk (below_step HB.out hbl); clear HB; have HB := HB_; clear HB_; clear hbl) | ((with_reducible refine gate_dst (N := 21) rfl ?_); (try (refine gate_guard (by rfl) ?_; dsimp only)); refine goesL_ (some 21) rfl rfl Try.func46 (by kernel_rfl) rfl #[.slice A l.length c] rfl (by (try simp only [List.map_toArray, List.map_cons, List.map_nil]); first | done | rfl | (simp only [List.length_drop, List.length_take]; rfl)) ?_; refine (mread3 A c l _ (Kd.C_below HR.out (below_alloc HB.out _)) hc HI.out hl).mono ?_; rintro e w2 ⟨rfl, hbl⟩; refine ⟨_, rfl, ?_⟩; rw [HM.out.1, HM.out.2]; have HB' := Aside0.mk (below_step (below_alloc HB.out _) hbl); have HG1 := Aside0.mk (blk_below (blk_new w1 (.cells #[.int .i64 k, .int .i64 p0, .int .i64 p1, .int .i64 p2, .int .i64 p3, .int .i64 p4, .int .i64 p5] 54)) hbl); clear HB hbl; have HB := HB'; clear HB') | ((with_reducible refine gate_dst (N := 26) rfl ?_); (try (refine gate_guard (by rfl) ?_; dsimp only)); refine goesL_ (some 26) rfl rfl Try.func47 (by kernel_rfl) rfl #[.slice A l.length c] rfl (by (try simp only [List.map_toArray, List.map_cons, List.map_nil]); first | done | rfl | (simp only [List.length_drop, List.length_take]; rfl)) ?_; refine (mreadcmd A c l _ (Kd.C_below HR.out (below_alloc HB.out _)) hc HI.out hl).mono ?_; rintro e w3 ⟨rfl, hbl⟩; refine ⟨_, rfl, ?_⟩; rw [HC.out.1, HC.out.2]; have HB' := Aside0.mk (below_step (below_alloc HB.out _) hbl); have HG1' := Aside0.mk (blk_below (blk_alloc HG1.out _) hbl); have HG2 := Aside0.mk (blk_below (blk_new w2 (.cells #[.int .i64 k, .int .i64 p0, .int .i64 p1, .int .i64 p2, .int .i64 p3, .int .i64 p4, .int .i64 p5] 54)) hbl); clear HB hbl HG1; have HB := HB'; have HG1 := HG1'; clear HB' HG1') | ((with_reducible refine gate_dst (N := 31) rfl ?_); (try (refine gate_guard (by rfl) ?_; dsimp only)); refine goesL_ (some 31) rfl rfl Try.func48 (by kernel_rfl) rfl #[.slice A l.length c] rfl (by (try simp only [List.map_toArray, List.map_cons, List.map_nil]); first | done | rfl | (simp only [List.length_drop, List.length_take]; rfl)) ?_; refine (mreadcmd3 A c l _ (Kd.C_below HR.out (below_alloc HB.out _)) hc HI.out hl).mono ?_; rintro e w4 ⟨rfl, hbl⟩; refine ⟨_, rfl, ?_⟩; rw [HC.out.1, HC.out.2]; have HB' := Aside0.mk (below_step (below_alloc HB.out _) hbl); have HG1' := Aside0.mk (blk_below (blk_alloc HG1.out _) hbl); have HG2' := Aside0.mk (blk_below (blk_alloc HG2.out _) hbl); have HG3 := Aside0.mk (blk_below (blk_new w3 (.cells #[.int .i64 who, .int .i64 k', .int .i64 q0, .int .i64 q1, .int .i64 q2, .int .i64 q3, .int .i64 q4, .int .i64 q5] 63)) hbl); clear HB hbl HG1 HG2; have HB := HB'; have HG1 := HG1'; have HG2 := HG2'; clear HB' HG1' HG2') | ((with_reducible refine gate_dst (N := 34) rfl ?_); (try (refine gate_guard (by rfl) ?_; dsimp only)); refine wpList_load_row rfl 54 _ rfl w1.heap.size rfl 54 _ (0, 0) _ (blk_alloc HG1.out _) Try.underlying54 rfl (by kernel_rfl) ?_) | ((with_reducible refine gate_dst (N := 35) rfl ?_); (try (refine gate_guard (by rfl) ?_; dsimp only)); refine wpList_load_row rfl 54 _ rfl w2.heap.size rfl 54 _ (0, 0) _ (blk_alloc HG2.out _) Try.underlying54 rfl (by kernel_rfl) ?_) | ((with_reducible refine gate_dst (N := 43) rfl ?_); (try (refine gate_guard (by rfl) ?_; dsimp only)); refine wpList_load_row rfl 63 _ rfl w3.heap.size rfl 63 _ (0, 0) _ (blk_alloc HG3.out _) Try.underlying63 rfl (by kernel_rfl) ?_) | ((with_reducible refine gate_dst (N := 44) rfl ?_); (try (refine gate_guard (by rfl) ?_; dsimp only)); refine wpList_load_row rfl 63 _ rfl w4.heap.size rfl 63 _ (0, 0) _ (blk_new w4 _) Try.underlying63 rfl (by kernel_rfl) ?_) | ((with_reducible refine gate_dst (N := 53) rfl ?_); (try (refine gate_guard (by rfl) ?_; dsimp only)); refine goesL_ (some 53) rfl rfl Try.func37 (by kernel_rfl) rfl #[] rfl (by (try simp only [List.map_toArray, List.map_cons, List.map_nil]); first | done | rfl | (simp only [List.length_drop, List.length_take]; rfl)) ?_; refine (known3 _).mono ?_; rintro e w5 ⟨rfl, hbl⟩; refine ⟨_, rfl, ?_⟩; have HB' := Aside0.mk (below_step (below_alloc HB.out _) hbl); clear HB hbl; have HB := HB'; clear HB'))
    go_ret
    exact ⟨rfl, HB.out⟩
end Go.Proofs.Ytoljpojpncjmoaa.B
