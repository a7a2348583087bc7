/- girolaw3.MsgCut: the walk. -/
import Derived.Test.YtoljpojpncjmoaaLawMB
namespace Go.Proofs.Ytoljpojpncjmoaa.B
open Go.RowKit Go.Proofs.YtoljpojpncjmoaaW.PrintWords Go.Proofs.YtoljpojpncjmoaaW.PrintLast Go.Proofs.YtoljpojpncjmoaaW.PrintMore
attribute [local go_sem] max2_int min2_int max_two min_two max_three min_three max_four min_four
set_option linter.unusedVariables false
set_option linter.unusedSimpArgs false

theorem gerr_no' {b : List Int} (h : ¬ b.length % 8 = 0) : gerr b ≠ 0 := by rw [gerr_no h]; decide
/-- A message's bytes with one more are none. -/
theorem more_none {m : Ms} (h : isM m = true) (x : Int) : readK (bytesM m ++ [x]) = false := by
  rw [bytesM_is h]
  show decide (gerr (_ ++ [x]) = 0 ∧ _) = false
  refine decide_eq_false fun h' => gerr_no' ?_ h'.1
  rw [List.length_append, puts_length, List.length_singleton]
  omega
/-- Cut short they are none. -/
theorem cut_none {m : Ms} (h : isM m = true) (j : Nat) (hj : j < (bytesM m).length) : readK ((bytesM m).take j) = false := by
  have hb := bytesM_is h
  have hn := l_len m h
  rw [hb] at hj ⊢
  generalize m.l.take (many m.k).toNat = l at hj hn ⊢
  cases j with
  | zero => rfl
  | succ j =>
    rw [List.length_cons, puts_length] at hj
    rw [List.take_succ_cons]
    show decide (gerr _ = 0 ∧ ((getl _).length : Int) = many m.k) = false
    refine decide_eq_false fun h' => ?_
    have hl : ((puts l).take j).length = j := by rw [List.length_take, puts_length]; omega
    by_cases h8 : j % 8 = 0
    · have h2 := h'.2
      rw [getl_yes (by rw [hl]; exact h8), gets_length, hl, ← hn] at h2
      omega
    · exact gerr_no' (by rw [hl]; exact h8) h'.1
theorem cut_cmd {who : Int} {m : Ms} (h : isM m = true) (j : Nat) (hj : j < (cmdM who m).length) : readCK ((cmdM who m).take j) = false := by
  rw [cmdM_is h, List.length_append, be8_length] at hj
  rw [cmdM_is h]
  by_cases h8 : j < 8
  · exact readCK_short (by rw [List.length_take]; omega)
  · unfold readCK
    rw [show ((be8 who ++ bytesM m).take j).drop 8 = (bytesM m).take (j - 8) by
      rw [List.drop_take, List.drop_left' (be8_length who)]]
    rw [cut_none h _ (by omega), Bool.and_false]
theorem more_cmd {who : Int} {m : Ms} (h : isM m = true) (x : Int) : readCK (cmdM who m ++ [x]) = false := by
  unfold readCK
  rw [cmdM_is h, List.append_assoc, List.drop_left' (be8_length who), more_none h, Bool.and_false]
theorem readM_no {b : List Int} (h : readK b = false) : (readM b).cells = #[.int .i64 0, .int .i64 0, .int .i64 0, .int .i64 0, .int .i64 0, .int .i64 0, .int .i64 0] ∧ readE b = 2 := by
  unfold readM readE
  rw [h]
  exact ⟨rfl, rfl⟩
theorem readC_no {b : List Int} (h : readCK b = false) : cmdCells (readCW b) (readCM b) = #[.int .i64 0, .int .i64 0, .int .i64 0, .int .i64 0, .int .i64 0, .int .i64 0, .int .i64 0, .int .i64 0] ∧ readCE b = 2 := by
  unfold readCW readCM readCE
  rw [h]
  exact ⟨rfl, rfl⟩


set_option maxHeartbeats 4000000 in
theorem lawMCut (who k p0 p1 p2 p3 p4 p5 : Int) (cut more : Int) (w : World) (hw : -9223372036854775808 ≤ who ∧ who < 9223372036854775808) (hn : IsN [p0, p1, p2, p3, p4, p5]) (hcut : -9223372036854775808 ≤ cut ∧ cut < 9223372036854775808) (hmore : 0 ≤ more ∧ more < 256) :
    Calls Try.prog 17 #[.agg #[.int .i64 who, .int .i64 k, .int .i64 p0, .int .i64 p1, .int .i64 p2, .int .i64 p3, .int .i64 p4, .int .i64 p5], .int .i64 cut, .int .u8 more] w fun e w' => e = .returned (.bool true) ∧ Below w.heap.size w w' := by
  have HB := Aside0.mk (Below.refl w.heap.size w)
  have HS := Aside0.mk (S8mk (w := w) (blk_new w (.cells #[.int .i64 who, .int .i64 k, .int .i64 p0, .int .i64 p1, .int .i64 p2, .int .i64 p3, .int .i64 p4, .int .i64 p5] 63)) (below_alloc HB.out _))
  have HL := Aside0.mk (show (bytesM ⟨k, p0, p1, p2, p3, p4, p5⟩).length ≤ 49 ∧ (cmdM who ⟨k, p0, p1, p2, p3, p4, p5⟩).length ≤ 57 from ⟨bytesM_len _, cmdM_len _ _⟩)
  obtain ⟨b, hb⟩ : ∃ b, bytesM ⟨k, p0, p1, p2, p3, p4, p5⟩ = b := ⟨_, rfl⟩
  obtain ⟨d, hd⟩ : ∃ d, cmdM who ⟨k, p0, p1, p2, p3, p4, p5⟩ = d := ⟨_, rfl⟩
  have HE := Aside0.mk (show bytesM ⟨k, p0, p1, p2, p3, p4, p5⟩ = b ∧ cmdM who ⟨k, p0, p1, p2, p3, p4, p5⟩ = d from ⟨hb, hd⟩)
  have hbd : b.length ≤ 49 ∧ d.length ≤ 57 := by rw [← hb, ← hd]; exact HL.out
  by_cases c0 : b.length = 0
  · clear hb hd
    · go_enter Try.func17, Try.ntmps17
      go_wp2
      generalize w.alloc (.cells #[.int .i64 who, .int .i64 k, .int .i64 p0, .int .i64 p1, .int .i64 p2, .int .i64 p3, .int .i64 p4, .int .i64 p5] 63) = W0 at HS ⊢
      go_region_held (fun w' => World.cell? w' ⟨w.heap.size, 0, none⟩ = some (.int .i64 who) ∧ World.cell? w' ⟨w.heap.size, 1, none⟩ = some (.int .i64 k) ∧ World.cell? w' ⟨w.heap.size, 2, none⟩ = some (.int .i64 p0) ∧ World.cell? w' ⟨w.heap.size, 3, none⟩ = some (.int .i64 p1) ∧ World.cell? w' ⟨w.heap.size, 4, none⟩ = some (.int .i64 p2) ∧ World.cell? w' ⟨w.heap.size, 5, none⟩ = some (.int .i64 p3) ∧ World.cell? w' ⟨w.heap.size, 6, none⟩ = some (.int .i64 p4) ∧ World.cell? w' ⟨w.heap.size, 7, none⟩ = some (.int .i64 p5) ∧ Aside0 (w'.heap[w.heap.size]? = some (.cells #[.int .i64 who, .int .i64 k, .int .i64 p0, .int .i64 p1, .int .i64 p2, .int .i64 p3, .int .i64 p4, .int .i64 p5] 63 (0, 0))) ∧ Aside0 (Below w.heap.size w w')) (first | exact S8drew HS.out | exact S8keep hbl (by assumption))
        (first | (go_at_call 49; refine (mbytes3 k p0 p1 p2 p3 p4 p5 _).mono ?_; rintro e wA ⟨vA, rfl, ho, hnil, hblA⟩; have hbl := hblA; clear hnil; rw [HE.out.1] at ho; obtain ⟨A1, c1, e1⟩ := Kd.R_slice ho; subst e1; have H1 := Aside0.mk (Kd.R_reads' ho); clear ho) | (go_at_call 50; refine (mcmd3 who k p0 p1 p2 p3 p4 p5 _).mono ?_; rintro e wB ⟨vB, rfl, ho, hblB⟩; have hbl := hblB; rw [HE.out.2] at ho; obtain ⟨A2, c2, e2⟩ := Kd.R_slice ho; subst e2; have H2 := Aside0.mk (Kd.R_reads' ho); clear ho))
      have HBB := (by assumption : World.cell? wB ⟨w.heap.size, 0, none⟩ = some (.int .i64 who) ∧ _ ∧ _ ∧ _ ∧ _ ∧ _ ∧ _ ∧ _ ∧ _ ∧ _)
      have HF := Aside0.mk HBB.2.2.2.2.2.2.2.2.2.out
      have HCb := Aside0.mk (Kd.C_below H1.out.2.2 hblB)
      have HCd := Aside0.mk H2.out.2.2
      clear HBB
      rename_i Q0 K0 hK hblx hHeld
      refine hK _ _ ?_
      clear hK K0 hHeld hblx hblA hbl hblB HS
      go_wp2
      go_ret
      exact ⟨rfl, HF.out⟩
  · have hM : isM ⟨k, p0, p1, p2, p3, p4, p5⟩ = true := by
      rw [← Bool.not_eq_false]
      exact fun h => c0 (by rw [← hb, (bytesM_nil _).2 h]; rfl)
    have h0b : ((b.length : Int) == 0) = false := by rw [beq_eq_false_iff_ne]; omega
    have h0n : (b.length == 0) = false := by rw [beq_eq_false_iff_ne]; omega
    have HI := Aside0.mk (show IsB b ∧ IsB d by rw [← hb, ← hd]; exact ⟨bytesM_bytes _, cmdM_bytes _ _⟩)
    by_cases c1 : cut < 0
    · have h1b : decide (cut < 0) = true := decide_eq_true c1
      clear hb hd hM c0
      go_enter Try.func17, Try.ntmps17
      go_wp2
      generalize w.alloc (.cells #[.int .i64 who, .int .i64 k, .int .i64 p0, .int .i64 p1, .int .i64 p2, .int .i64 p3, .int .i64 p4, .int .i64 p5] 63) = W0 at HS ⊢
      go_region_held (fun w' => World.cell? w' ⟨w.heap.size, 0, none⟩ = some (.int .i64 who) ∧ World.cell? w' ⟨w.heap.size, 1, none⟩ = some (.int .i64 k) ∧ World.cell? w' ⟨w.heap.size, 2, none⟩ = some (.int .i64 p0) ∧ World.cell? w' ⟨w.heap.size, 3, none⟩ = some (.int .i64 p1) ∧ World.cell? w' ⟨w.heap.size, 4, none⟩ = some (.int .i64 p2) ∧ World.cell? w' ⟨w.heap.size, 5, none⟩ = some (.int .i64 p3) ∧ World.cell? w' ⟨w.heap.size, 6, none⟩ = some (.int .i64 p4) ∧ World.cell? w' ⟨w.heap.size, 7, none⟩ = some (.int .i64 p5) ∧ Aside0 (w'.heap[w.heap.size]? = some (.cells #[.int .i64 who, .int .i64 k, .int .i64 p0, .int .i64 p1, .int .i64 p2, .int .i64 p3, .int .i64 p4, .int .i64 p5] 63 (0, 0))) ∧ Aside0 (Below w.heap.size w w')) (first | exact S8drew HS.out | exact S8keep hbl (by assumption))
        (first | (go_at_call 49; refine (mbytes3 k p0 p1 p2 p3 p4 p5 _).mono ?_; rintro e wA ⟨vA, rfl, ho, hnil, hblA⟩; have hbl := hblA; clear hnil; rw [HE.out.1] at ho; obtain ⟨A1, c1, e1⟩ := Kd.R_slice ho; subst e1; have H1 := Aside0.mk (Kd.R_reads' ho); clear ho) | (go_at_call 50; refine (mcmd3 who k p0 p1 p2 p3 p4 p5 _).mono ?_; rintro e wB ⟨vB, rfl, ho, hblB⟩; have hbl := hblB; rw [HE.out.2] at ho; obtain ⟨A2, c2, e2⟩ := Kd.R_slice ho; subst e2; have H2 := Aside0.mk (Kd.R_reads' ho); clear ho))
      have HBB := (by assumption : World.cell? wB ⟨w.heap.size, 0, none⟩ = some (.int .i64 who) ∧ _ ∧ _ ∧ _ ∧ _ ∧ _ ∧ _ ∧ _ ∧ _ ∧ _)
      have HF := Aside0.mk HBB.2.2.2.2.2.2.2.2.2.out
      have HCb := Aside0.mk (Kd.C_below H1.out.2.2 hblB)
      have HCd := Aside0.mk H2.out.2.2
      clear HBB
      rename_i Q0 K0 hK hblx hHeld
      refine hK _ _ ?_
      clear hK K0 hHeld hblx hblA hbl hblB HS
      go_wp2
      go_ret
      exact ⟨rfl, HF.out⟩
    · have h1b : decide (cut < 0) = false := decide_eq_false c1
      by_cases c2 : (d.length : Int) ≤ cut
      · have h2b : decide ((d.length : Int) ≤ cut) = true := decide_eq_true c2
        clear hb hd hM c0 c1 c2
        go_enter Try.func17, Try.ntmps17
        go_wp2
        generalize w.alloc (.cells #[.int .i64 who, .int .i64 k, .int .i64 p0, .int .i64 p1, .int .i64 p2, .int .i64 p3, .int .i64 p4, .int .i64 p5] 63) = W0 at HS ⊢
        go_region_held (fun w' => World.cell? w' ⟨w.heap.size, 0, none⟩ = some (.int .i64 who) ∧ World.cell? w' ⟨w.heap.size, 1, none⟩ = some (.int .i64 k) ∧ World.cell? w' ⟨w.heap.size, 2, none⟩ = some (.int .i64 p0) ∧ World.cell? w' ⟨w.heap.size, 3, none⟩ = some (.int .i64 p1) ∧ World.cell? w' ⟨w.heap.size, 4, none⟩ = some (.int .i64 p2) ∧ World.cell? w' ⟨w.heap.size, 5, none⟩ = some (.int .i64 p3) ∧ World.cell? w' ⟨w.heap.size, 6, none⟩ = some (.int .i64 p4) ∧ World.cell? w' ⟨w.heap.size, 7, none⟩ = some (.int .i64 p5) ∧ Aside0 (w'.heap[w.heap.size]? = some (.cells #[.int .i64 who, .int .i64 k, .int .i64 p0, .int .i64 p1, .int .i64 p2, .int .i64 p3, .int .i64 p4, .int .i64 p5] 63 (0, 0))) ∧ Aside0 (Below w.heap.size w w')) (first | exact S8drew HS.out | exact S8keep hbl (by assumption))
          (first | (go_at_call 49; refine (mbytes3 k p0 p1 p2 p3 p4 p5 _).mono ?_; rintro e wA ⟨vA, rfl, ho, hnil, hblA⟩; have hbl := hblA; clear hnil; rw [HE.out.1] at ho; obtain ⟨A1, c1, e1⟩ := Kd.R_slice ho; subst e1; have H1 := Aside0.mk (Kd.R_reads' ho); clear ho) | (go_at_call 50; refine (mcmd3 who k p0 p1 p2 p3 p4 p5 _).mono ?_; rintro e wB ⟨vB, rfl, ho, hblB⟩; have hbl := hblB; rw [HE.out.2] at ho; obtain ⟨A2, c2, e2⟩ := Kd.R_slice ho; subst e2; have H2 := Aside0.mk (Kd.R_reads' ho); clear ho))
        have HBB := (by assumption : World.cell? wB ⟨w.heap.size, 0, none⟩ = some (.int .i64 who) ∧ _ ∧ _ ∧ _ ∧ _ ∧ _ ∧ _ ∧ _ ∧ _ ∧ _)
        have HF := Aside0.mk HBB.2.2.2.2.2.2.2.2.2.out
        have HCb := Aside0.mk (Kd.C_below H1.out.2.2 hblB)
        have HCd := Aside0.mk H2.out.2.2
        clear HBB
        rename_i Q0 K0 hK hblx hHeld
        refine hK _ _ ?_
        clear hK K0 hHeld hblx hblA hbl hblB HS
        go_wp2
        go_ret
        exact ⟨rfl, HF.out⟩
      · obtain ⟨n, rfl⟩ : ∃ n : Nat, cut = n := ⟨cut.toNat, by omega⟩
        have h2b : decide ((d.length : Int) ≤ (n : Int)) = false := decide_eq_false c2
        have h2n : decide (d.length ≤ n) = false := decide_eq_false (by omega)
        have hnd : n < d.length := by omega
        obtain ⟨j, hj⟩ : ∃ j : Nat, (if ((b.length : Int) - 1 < (n : Int)) then ((b.length : Int) - 1) else (n : Int)) = (j : Int) := ⟨if b.length - 1 < n then b.length - 1 else n, by split <;> split <;> omega⟩
        have hjb : j < b.length := by split at hj <;> omega
        have HJ := Aside0.mk hj
        obtain ⟨y1, hy1⟩ : ∃ y, b ++ [more] = y := ⟨_, rfl⟩
        obtain ⟨y2, hy2⟩ : ∃ y, d ++ [more] = y := ⟨_, rfl⟩
        have HY := Aside0.mk (show b ++ [more] = y1 ∧ d ++ [more] = y2 from ⟨hy1, hy2⟩)
        have hyl : y1.length ≤ 50 ∧ y2.length ≤ 58 := by rw [← hy1, ← hy2]; simp; omega
        have HYI := Aside0.mk (show IsB y1 ∧ IsB y2 by rw [← hy1, ← hy2]; exact ⟨HI.out.1.append (IsB.cons hmore.1 hmore.2 IsB.nil), HI.out.2.append (IsB.cons hmore.1 hmore.2 IsB.nil)⟩)
        have HN1 := Aside0.mk (readM_no (b := y1) (by rw [← hy1, ← hb]; exact more_none hM more))
        have HN2 := Aside0.mk (readC_no (b := y2) (by rw [← hy2, ← hd]; exact more_cmd hM more))
        have HN3 := Aside0.mk (readM_no (b := b.take j) (by rw [← hb]; exact cut_none hM j (by rw [hb]; exact hjb)))
        have HN4 := Aside0.mk (readC_no (b := d.take n) (by rw [← hd]; exact cut_cmd hM n (by rw [hd]; exact hnd)))
        clear hb hd hM c0 hj hy1 hy2 c1 c2
        go_enter Try.func17, Try.ntmps17
        go_wp2
        generalize w.alloc (.cells #[.int .i64 who, .int .i64 k, .int .i64 p0, .int .i64 p1, .int .i64 p2, .int .i64 p3, .int .i64 p4, .int .i64 p5] 63) = W0 at HS ⊢
        go_region_held (fun w' => World.cell? w' ⟨w.heap.size, 0, none⟩ = some (.int .i64 who) ∧ World.cell? w' ⟨w.heap.size, 1, none⟩ = some (.int .i64 k) ∧ World.cell? w' ⟨w.heap.size, 2, none⟩ = some (.int .i64 p0) ∧ World.cell? w' ⟨w.heap.size, 3, none⟩ = some (.int .i64 p1) ∧ World.cell? w' ⟨w.heap.size, 4, none⟩ = some (.int .i64 p2) ∧ World.cell? w' ⟨w.heap.size, 5, none⟩ = some (.int .i64 p3) ∧ World.cell? w' ⟨w.heap.size, 6, none⟩ = some (.int .i64 p4) ∧ World.cell? w' ⟨w.heap.size, 7, none⟩ = some (.int .i64 p5) ∧ Aside0 (w'.heap[w.heap.size]? = some (.cells #[.int .i64 who, .int .i64 k, .int .i64 p0, .int .i64 p1, .int .i64 p2, .int .i64 p3, .int .i64 p4, .int .i64 p5] 63 (0, 0))) ∧ Aside0 (Below w.heap.size w w')) (first | exact S8drew HS.out | exact S8keep hbl (by assumption))
          (first | (go_at_call 49; refine (mbytes3 k p0 p1 p2 p3 p4 p5 _).mono ?_; rintro e wA ⟨vA, rfl, ho, hnil, hblA⟩; have hbl := hblA; clear hnil; rw [HE.out.1] at ho; obtain ⟨A1, c1, e1⟩ := Kd.R_slice ho; subst e1; have H1 := Aside0.mk (Kd.R_reads' ho); clear ho) | (go_at_call 50; refine (mcmd3 who k p0 p1 p2 p3 p4 p5 _).mono ?_; rintro e wB ⟨vB, rfl, ho, hblB⟩; have hbl := hblB; rw [HE.out.2] at ho; obtain ⟨A2, c2, e2⟩ := Kd.R_slice ho; subst e2; have H2 := Aside0.mk (Kd.R_reads' ho); clear ho))
        have HBB := (by assumption : World.cell? wB ⟨w.heap.size, 0, none⟩ = some (.int .i64 who) ∧ _ ∧ _ ∧ _ ∧ _ ∧ _ ∧ _ ∧ _ ∧ _ ∧ _)
        have HF := Aside0.mk HBB.2.2.2.2.2.2.2.2.2.out
        have HCb := Aside0.mk (Kd.C_below H1.out.2.2 hblB)
        have HCd := Aside0.mk H2.out.2.2
        clear HBB
        rename_i Q0 K0 hK hblx hHeld
        refine hK _ _ ?_
        clear hK K0 hHeld hblx hblA hbl hblB HS
        obtain ⟨x, hx, hxr, hxC, hxc⟩ := cutH (P := Try.prog) (Kd.int .u8) 22 5 Try.underlying22 info5 .i64 A2 c2 d (n : Int) n rfl (by omega) H2.out.2.1
        obtain ⟨z, hz, hzr, hzC, hzc⟩ := cutH (P := Try.prog) (Kd.int .u8) 22 5 Try.underlying22 info5 .i64 A1 c1 b (j : Int) j rfl (by omega) H1.out.2.1
        have HN3' := Aside0.mk (show (readM z).cells = #[.int .i64 0, .int .i64 0, .int .i64 0, .int .i64 0, .int .i64 0, .int .i64 0, .int .i64 0] ∧ readE z = 2 by rw [hz.out]; exact HN3.out)
        have HN4' := Aside0.mk (show cmdCells (readCW x) (readCM x) = #[.int .i64 0, .int .i64 0, .int .i64 0, .int .i64 0, .int .i64 0, .int .i64 0, .int .i64 0, .int .i64 0] ∧ readCE x = 2 by rw [hx.out]; exact HN4.out)
        have HXI := Aside0.mk (show IsB x ∧ IsB z by rw [hx.out, hz.out]; exact ⟨HI.out.2.take _, HI.out.1.take _⟩)
        have hxl : x.length ≤ 57 ∧ z.length ≤ 49 := by rw [hx.out, hz.out, List.length_take, List.length_take]; omega
        have hj := HJ.out
        clear HN3 HN4 HJ
        have HB4 := Aside0.mk (Below.refl wB.heap.size wB)
        go_wp2_with (first | ((with_reducible refine gate_dst (N := 36) rfl ?_); refine Kd.R_lit (Kd.int .u8) (w0 := wB) wB.heap.size 5 rfl (N := 36) rfl (xs := ([] : List Int)) (inner := []) (ok := fun _ => True) (okp := fun _ => True) (by first | (go_simp; done) | (go_simp; rfl) | (go_simp; exact ⟨rfl, rfl⟩)) (Reps.none _ _) (fun _ hk => hk) trivial HB4.out HB4.out.size (by simp) ?_; intro v4 w4 ho hb hg_ hnew_; clear HB4 hg_ hnew_; have HB4 := Aside0.mk hb; have HO := Aside0.mk ho; clear ho hb) | ((with_reducible refine gate_dst (N := 38) rfl ?_); refine Kd.R_append_row (Value.int .u8) 0 (h1 := fun _ => rfl) (w0 := wB) wB.heap.size rfl _ _ 22 5 (.int .u8 0) 1 rfl Try.underlying22 info5 rfl (by decide) v4 ([] : List Int) b A1 b.length c1 (fun _ => True) rfl rfl (fun _ _ => trivial) HO.out (Kd.C_below HCb.out HB4.out) HB4.out HB4.out.size (by simp; omega) ?_; intro v5 w5 ho hb hg_ hnew_; clear hg_ hnew_ HB4 HO; rw [List.nil_append] at ho; have HB4 := Aside0.mk hb; have HO := Aside0.mk ho; clear ho hb) | ((with_reducible refine gate_dst (N := 41) rfl ?_); refine Kd.R_append (Kd.int .u8) (w0 := wB) wB.heap.size rfl _ _ 22 5 (.int .u8 0) 1 rfl Try.underlying22 info5 rfl (by decide) (by decide) v5 b more [.int .u8 more] (fun _ => True) (fun _ => False) rfl rfl rfl (fun _ h => h.elim) (fun _ _ => trivial) HO.out HB4.out HB4.out.size (by omega) ?_; intro v1 w1 ho hb hg_ hnew_; clear hg_ hnew_ HB4 HO; have HO := Aside0.mk ho; have HB4 := Aside0.mk hb; clear ho hb; have HO2 := Aside0.mk (show Kd.R (Kd.int .u8) 5 w1 wB.heap.size (fun _ => True) v1 y1 by rw [← HY.out.1]; exact HO.out); clear HO; obtain ⟨A5, c5, e5⟩ := Kd.R_slice HO2.out; subst e5; have H5 := Aside0.mk (Kd.R_reads' HO2.out); clear HO2; have HF' := Aside0.mk (below_step HF.out HB4.out); have HCb' := Aside0.mk (Kd.C_below HCb.out HB4.out); have HCd' := Aside0.mk (Kd.C_below HCd.out HB4.out); clear HF HCb HCd; have HF := HF'; have HCb := HCb'; have HCd := HCd'; clear HF' HCb' HCd'; clear HB4)| ((with_reducible refine gate_dst (N := 42) rfl ?_); (try (refine gate_guard (by rfl) ?_; dsimp only)); refine goesL_ (some 42) rfl rfl Try.func35 (by kernel_rfl) rfl #[.slice A5 y1.length c5] rfl (by (try simp only [List.map_toArray, List.map_cons, List.map_nil]); first | done | rfl | (simp only [List.length_drop, List.length_take]; rfl)) ?_; refine (mread A5 c5 y1 _ H5.out.2.2 H5.out.2.1 HYI.out.1 (by omega)).mono ?_; rintro e w42 ⟨rfl, hbl0⟩; refine ⟨_, rfl, ?_⟩; rw [HN1.out.1, HN1.out.2]; have hbl := hbl0; clear hbl0; have HF' := Aside0.mk (below_step HF.out hbl); have HCb' := Aside0.mk (Kd.C_below HCb.out hbl); have HCd' := Aside0.mk (Kd.C_below HCd.out hbl); clear HF HCb HCd; have HF := HF'; have HCb := HCb'; have HCd := HCd'; clear HF' HCb' HCd'; clear hbl)| ((with_reducible refine gate_dst (N := 49) rfl ?_); (try (refine gate_guard (by rfl) ?_; dsimp only)); refine goesL_ (some 49) rfl rfl Try.func47 (by kernel_rfl) rfl #[.slice A2 x.length c2] rfl (by (try simp only [List.map_toArray, List.map_cons, List.map_nil]); first | done | rfl | (simp only [List.length_drop, List.length_take]; rfl)) ?_; refine (mreadcmd A2 c2 x _ (hxC.out _ (Kd.C_alloc HCd.out _)) hxc HXI.out.1 (by omega)).mono ?_; rintro e w49 ⟨rfl, hbl0⟩; refine ⟨_, rfl, ?_⟩; rw [HN4'.out.1, HN4'.out.2]; have hbl := below_step (below_alloc (Below.refl _ _) _) hbl0; clear hbl0; have HF' := Aside0.mk (below_step HF.out hbl); have HCb' := Aside0.mk (Kd.C_below HCb.out hbl); have HCd' := Aside0.mk (Kd.C_below HCd.out hbl); clear HF HCb HCd; have HF := HF'; have HCb := HCb'; have HCd := HCd'; clear HF' HCb' HCd'; clear hbl)| ((with_reducible refine gate_dst (N := 60) rfl ?_); (try (refine gate_guard (by rfl) ?_; dsimp only)); refine goesL_ (some 60) rfl rfl Try.func35 (by kernel_rfl) rfl #[.slice A1 z.length c1] rfl (by (try simp only [List.map_toArray, List.map_cons, List.map_nil]); first | done | rfl | (simp only [List.length_drop, List.length_take]; rfl)) ?_; refine (mread A1 c1 z _ (hzC.out _ (Kd.C_alloc HCb.out _)) hzc HXI.out.2 (by omega)).mono ?_; rintro e w60 ⟨rfl, hbl0⟩; refine ⟨_, rfl, ?_⟩; rw [HN3'.out.1, HN3'.out.2]; have hbl := below_step (below_alloc (Below.refl _ _) _) hbl0; clear hbl0; have HF' := Aside0.mk (below_step HF.out hbl); have HCb' := Aside0.mk (Kd.C_below HCb.out hbl); have HCd' := Aside0.mk (Kd.C_below HCd.out hbl); clear HF HCb HCd; have HF := HF'; have HCb := HCb'; have HCd := HCd'; clear HF' HCb' HCd'; clear hbl; have HB8 := Aside0.mk (below_alloc (Below.refl w60.heap.size w60) (.cells #[.int .i64 0, .int .i64 0, .int .i64 0, .int .i64 0, .int .i64 0, .int .i64 0, .int .i64 0] 54)))| ((with_reducible refine gate_dst (N := 64) rfl ?_); refine Kd.R_lit (Kd.int .u8) (w0 := w60) w60.heap.size 5 rfl (N := 64) rfl (xs := ([] : List Int)) (inner := []) (ok := fun _ => True) (okp := fun _ => True) (by first | (go_simp; done) | (go_simp; rfl) | (go_simp; exact ⟨rfl, rfl⟩)) (Reps.none _ _) (fun _ hk => hk) trivial HB8.out HB8.out.size (by simp) ?_; intro v4 w4 ho hb hg_ hnew_; clear HB8 hg_ hnew_; have HB8 := Aside0.mk hb; have HO := Aside0.mk ho; clear ho hb) | ((with_reducible refine gate_dst (N := 66) rfl ?_); refine Kd.R_append_row (Value.int .u8) 0 (h1 := fun _ => rfl) (w0 := w60) w60.heap.size rfl _ _ 22 5 (.int .u8 0) 1 rfl Try.underlying22 info5 rfl (by decide) v4 ([] : List Int) d A2 d.length c2 (fun _ => True) rfl rfl (fun _ _ => trivial) HO.out (Kd.C_below HCd.out HB8.out) HB8.out HB8.out.size (by simp; omega) ?_; intro v5 w5 ho hb hg_ hnew_; clear hg_ hnew_ HB8 HO; rw [List.nil_append] at ho; have HB8 := Aside0.mk hb; have HO := Aside0.mk ho; clear ho hb) | ((with_reducible refine gate_dst (N := 69) rfl ?_); refine Kd.R_append (Kd.int .u8) (w0 := w60) w60.heap.size rfl _ _ 22 5 (.int .u8 0) 1 rfl Try.underlying22 info5 rfl (by decide) (by decide) v5 d more [.int .u8 more] (fun _ => True) (fun _ => False) rfl rfl rfl (fun _ h => h.elim) (fun _ _ => trivial) HO.out HB8.out HB8.out.size (by omega) ?_; intro v1 w1 ho hb hg_ hnew_; clear hg_ hnew_ HB8 HO; have HO := Aside0.mk ho; have HB8 := Aside0.mk hb; clear ho hb; have HO2 := Aside0.mk (show Kd.R (Kd.int .u8) 5 w1 w60.heap.size (fun _ => True) v1 y2 by rw [← HY.out.2]; exact HO.out); clear HO; obtain ⟨A9, c9, e9⟩ := Kd.R_slice HO2.out; subst e9; have H9 := Aside0.mk (Kd.R_reads' HO2.out); clear HO2; have HF' := Aside0.mk (below_step HF.out HB8.out); have HCb' := Aside0.mk (Kd.C_below HCb.out HB8.out); have HCd' := Aside0.mk (Kd.C_below HCd.out HB8.out); clear HF HCb HCd; have HF := HF'; have HCb := HCb'; have HCd := HCd'; clear HF' HCb' HCd'; clear HB8)| ((with_reducible refine gate_dst (N := 70) rfl ?_); (try (refine gate_guard (by rfl) ?_; dsimp only)); refine goesL_ (some 70) rfl rfl Try.func47 (by kernel_rfl) rfl #[.slice A9 y2.length c9] rfl (by (try simp only [List.map_toArray, List.map_cons, List.map_nil]); first | done | rfl | (simp only [List.length_drop, List.length_take]; rfl)) ?_; refine (mreadcmd A9 c9 y2 _ H9.out.2.2 H9.out.2.1 HYI.out.2 (by omega)).mono ?_; rintro e w70 ⟨rfl, hbl0⟩; refine ⟨_, rfl, ?_⟩; rw [HN2.out.1, HN2.out.2]; have hbl := hbl0; clear hbl0; have HF' := Aside0.mk (below_step HF.out hbl); have HCb' := Aside0.mk (Kd.C_below HCb.out hbl); have HCd' := Aside0.mk (Kd.C_below HCd.out hbl); clear HF HCb HCd; have HF := HF'; have HCb := HCb'; have HCd := HCd'; clear HF' HCb' HCd'; clear hbl)| ((with_reducible refine gate_dst (N := 88) rfl ?_); (try (refine gate_guard (by rfl) ?_; dsimp only)); refine goesL_ (some 88) rfl rfl Try.func37 (by kernel_rfl) rfl #[] rfl (by (try simp only [List.map_toArray, List.map_cons, List.map_nil]); first | done | rfl | (simp only [List.length_drop, List.length_take]; rfl)) ?_; refine (known3 _).mono ?_; rintro e w88 ⟨rfl, hbl0⟩; refine ⟨_, rfl, ?_⟩; have hbl := below_step (below_alloc (Below.refl _ _) _) hbl0; clear hbl0; have HF' := Aside0.mk (below_step HF.out hbl); have HCb' := Aside0.mk (Kd.C_below HCb.out hbl); have HCd' := Aside0.mk (Kd.C_below HCd.out hbl); clear HF HCb HCd; have HF := HF'; have HCb := HCb'; have HCd := HCd'; clear HF' HCb' HCd'; clear hbl))
        go_ret
        exact ⟨rfl, HF.out⟩
end Go.Proofs.Ytoljpojpncjmoaa.B
