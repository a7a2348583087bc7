/- giroref3.Is: the walk. -/
import Derived.Test.YtoljpojpncjmoaaMsgE
namespace Go.Proofs.Ytoljpojpncjmoaa.B
open Go.RowKit Go.Proofs.YtoljpojpncjmoaaW.PrintWords Go.Proofs.YtoljpojpncjmoaaW.PrintLast Go.Proofs.YtoljpojpncjmoaaW.PrintMore
attribute [local go_sem] max2_int min2_int max_two min_two max_three min_three max_four min_four
set_option linter.unusedVariables false
set_option linter.unusedSimpArgs false

theorem add_oneF (g i : Nat) : (⟨g, 1, none⟩ : Addr).add i = ⟨g, 1 + i, none⟩ := by
  unfold Addr.add
  split
  · rename_i h0; rw [h0]
  · rfl
theorem idxF (g i : Nat) (hi : i < 6) (W : World) : (Instr.indexAt 52 (.pointer (some ⟨g, 1, none⟩)) (.int .i64 (i : Int))).run Try.prog W = .ok (.pointer (some ⟨g, 1 + i, none⟩)) W := by
  obtain ⟨i0, hi0, hzz⟩ := Option.map_eq_some_iff.1 info2
  simp only [Prod.mk.injEq] at hzz
  obtain ⟨hz0, hz1, hz2⟩ := hzz
  have hel : Try.prog.elem 52 = 2 := by simp [Program.elem, Try.underlying52]
  have hal : Try.prog.arrayLen 52 = 6 := by simp [Program.arrayLen, Try.underlying52]
  rw [run_indexAt_array W 52 ⟨g, 1, none⟩ .i64 (i : Int) (by rw [hal, hel]; exact Try.underlying52), hal, hel]
  simp [sizeOf, typeInfo, hi0, hz1, Result.andThen, hi, add_oneF]
  intro h
  omega
theorem drop_all {l : List Int} {n : Nat} (h : ∀ j : Nat, n ≤ j → j < l.length → rd l j = 0) : (l.drop n).all (· == 0) = true := by
  rw [List.all_eq_true]
  intro x hx
  obtain ⟨j, hj, rfl⟩ := List.mem_iff_getElem.1 hx
  rw [List.length_drop] at hj
  have hz := h (n + j) (by omega) (by omega)
  unfold Go.Proofs.YtoljpojpncjmoaaW.PrintWords.rd at hz
  rw [Int.toNat_natCast, List.getD_eq_getElem?_getD, List.getElem?_eq_getElem (by omega)] at hz
  rw [List.getElem_drop]
  simpa using hz
theorem drop_no {l : List Int} {n i : Nat} (h1 : n ≤ i) (h2 : i < l.length) (hz : rd l i ≠ 0) : (l.drop n).all (· == 0) = false := by
  rw [← Bool.not_eq_true]
  intro h
  apply hz
  unfold Go.Proofs.YtoljpojpncjmoaaW.PrintWords.rd
  rw [Int.toNat_natCast, List.getD_eq_getElem?_getD, List.getElem?_eq_getElem h2]
  have hm : l[i] ∈ l.drop n := List.mem_iff_getElem.2 ⟨i - n, by rw [List.length_drop]; omega, by rw [List.getElem_drop]; congr 1; omega⟩
  simpa using List.all_eq_true.1 h _ hm

set_option maxHeartbeats 1000000 in
theorem mis3 (k p0 p1 p2 p3 p4 p5 : Int) (w : World) : Calls Try.prog 51 #[.agg #[.int .i64 k, .int .i64 p0, .int .i64 p1, .int .i64 p2, .int .i64 p3, .int .i64 p4, .int .i64 p5]] w fun e w' => e = .returned (.bool (isM ⟨k, p0, p1, p2, p3, p4, p5⟩)) ∧ Below w.heap.size w w' := by
  have HB := Aside0.mk (Below.refl w.heap.size w)
  obtain ⟨l, hl⟩ : ∃ l, l = [p0, p1, p2, p3, p4, p5] := ⟨_, rfl⟩
  have HL := Aside0.mk hl
  have hlen : l.length = 6 := by rw [hl]; rfl
  have HC0 := Aside0.mk (C_blk (k := .i64) (off := 1) (t := 54) (blk_new w (.cells #[.int .i64 k, .int .i64 p0, .int .i64 p1, .int .i64 p2, .int .i64 p3, .int .i64 p4, .int .i64 p5] 54)) [p0, p1, p2, p3, p4, p5] rfl (by simp))
  rw [← hl, hlen] at HC0
  by_cases hneg : many k < 0
  · have hm1 : many k = -1 := by have := (many_bd k).1; omega
    have HN := Aside0.mk hm1
    have HIS := Aside0.mk (show isM ⟨k, p0, p1, p2, p3, p4, p5⟩ = false by unfold isM; rw [show decide (0 ≤ many k) = false from decide_eq_false (by omega)]; rfl)
    clear hneg hm1 hl hlen
    go_enter Try.func51, Try.ntmps51
    go_wp2_with (first | ((with_reducible refine gate_dst (N := 7) rfl ?_); (try (refine gate_guard (by rfl) ?_; dsimp only)); refine goesL_ (some 7) rfl rfl Try.func36 (by kernel_rfl) rfl #[.int .i64 k] rfl (by (try simp only [List.map_toArray, List.map_cons, List.map_nil]); first | done | rfl | (simp only [List.length_drop, List.length_take]; rfl)) ?_; refine (mmany3 k _).mono ?_; rintro e w1 ⟨rfl, hbl⟩; refine ⟨_, rfl, ?_⟩; rw [HN.out]; have HB' := Aside0.mk (below_step (below_alloc HB.out _) hbl); have HC1 := Aside0.mk (Kd.C_below HC0.out hbl); clear HB hbl HC0; have HB := HB'; clear HB'))
    go_loopg [4] 6 (fun kq v4 w' => ∃ i : Nat, v4 = .int .i64 (i : Int) ∧ 0 ≤ i ∧ i ≤ 6 ∧ Aside0 (kq + i = 6) ∧ Aside0 (∀ j : Nat, 0 ≤ j → j < i → rd l j = 0) ∧ w' = w1)
    case atStart => exact ⟨0, by first | rfl | (simp; done) | (congr 1; omega), Nat.le_refl _, by omega, ⟨by omega⟩, ⟨fun j h1 h2 => by omega⟩, rfl⟩
    case round =>
      obtain ⟨i, rfl, hin, hi, HK, HA, rfl⟩ := hrel
      by_cases c4 : i < 6
      · obtain ⟨ad, e1, hx⟩ := Kd.at_int HC1.out i (by omega) (by exact_mod_cast c4)
        cases e1
        rw [Int.toNat_natCast, add_oneF] at hx
        have hidx := idxF w.heap.size i c4
        have c4b : decide ((i : Int) < 6) = true := decide_eq_true (by omega)
        by_cases hz : rd l i = 0
        · have hzb : (rd l i != 0) = false := by rw [hz]; rfl
          have HA' := Aside0.mk (show ∀ j : Nat, 0 ≤ j → j < i + 1 → rd l j = 0 from fun j h1 h2 => by
            by_cases hj : j < i
            · exact HA.out j h1 hj
            · rw [show j = i by omega]; exact hz)
          clear hz HA
          go_wp2
          go_roundg (6 - (i + 1))
          case measure => have := HK.out; omega
          case rel => exact ⟨i + 1, by go_num, by omega, by omega, ⟨by omega⟩, HA', rfl⟩
        · have hzb : (rd l i != 0) = true := by rw [bne_iff_ne]; exact hz
          
          clear hz
          go_wp2
          go_ret
          exact ⟨by rw [HIS.out]; rfl, HB.out⟩
      · have c4b : decide ((i : Int) < 6) = false := decide_eq_false (by omega)
        
        go_wp2
        go_ret
        exact ⟨by rw [HIS.out]; rfl, HB.out⟩
  · obtain ⟨n, hn⟩ : ∃ n : Nat, many k = n := ⟨(many k).toNat, by omega⟩
    have hn6 : n ≤ 6 := by have := (many_bd k).2; omega
    have HN := Aside0.mk hn
    have HIS := Aside0.mk (show isM ⟨k, p0, p1, p2, p3, p4, p5⟩ = (l.drop n).all (· == 0) by unfold isM; rw [show many (Ms.k ⟨k, p0, p1, p2, p3, p4, p5⟩) = n from hn, decide_eq_true (by omega), hl]; rfl)
    have hmax : max (n : Int) 0 = n := by omega
    have hge : decide (0 ≤ (n : Int)) = true := decide_eq_true (by omega)
    clear hneg hn hl hlen
    go_enter Try.func51, Try.ntmps51
    go_wp2_with (first | ((with_reducible refine gate_dst (N := 7) rfl ?_); (try (refine gate_guard (by rfl) ?_; dsimp only)); refine goesL_ (some 7) rfl rfl Try.func36 (by kernel_rfl) rfl #[.int .i64 k] rfl (by (try simp only [List.map_toArray, List.map_cons, List.map_nil]); first | done | rfl | (simp only [List.length_drop, List.length_take]; rfl)) ?_; refine (mmany3 k _).mono ?_; rintro e w1 ⟨rfl, hbl⟩; refine ⟨_, rfl, ?_⟩; rw [HN.out]; have HB' := Aside0.mk (below_step (below_alloc HB.out _) hbl); have HC1 := Aside0.mk (Kd.C_below HC0.out hbl); clear HB hbl HC0; have HB := HB'; clear HB'))
    go_loopg [4] (6 - n) (fun kq v4 w' => ∃ i : Nat, v4 = .int .i64 (i : Int) ∧ n ≤ i ∧ i ≤ 6 ∧ Aside0 (kq + i = 6) ∧ Aside0 (∀ j : Nat, n ≤ j → j < i → rd l j = 0) ∧ w' = w1)
    case atStart => exact ⟨n, by first | rfl | (simp; done) | (congr 1; omega), Nat.le_refl _, by omega, ⟨by omega⟩, ⟨fun j h1 h2 => by omega⟩, rfl⟩
    case round =>
      obtain ⟨i, rfl, hin, hi, HK, HA, rfl⟩ := hrel
      by_cases c4 : i < 6
      · obtain ⟨ad, e1, hx⟩ := Kd.at_int HC1.out i (by omega) (by exact_mod_cast c4)
        cases e1
        rw [Int.toNat_natCast, add_oneF] at hx
        have hidx := idxF w.heap.size i c4
        have c4b : decide ((i : Int) < 6) = true := decide_eq_true (by omega)
        by_cases hz : rd l i = 0
        · have hzb : (rd l i != 0) = false := by rw [hz]; rfl
          have HA' := Aside0.mk (show ∀ j : Nat, n ≤ j → j < i + 1 → rd l j = 0 from fun j h1 h2 => by
            by_cases hj : j < i
            · exact HA.out j h1 hj
            · rw [show j = i by omega]; exact hz)
          clear hz HA
          go_wp2
          go_roundg (6 - (i + 1))
          case measure => have := HK.out; omega
          case rel => exact ⟨i + 1, by go_num, by omega, by omega, ⟨by omega⟩, HA', rfl⟩
        · have hzb : (rd l i != 0) = true := by rw [bne_iff_ne]; exact hz
          have HF := Aside0.mk (show (l.drop n).all (· == 0) = false from drop_no hin (by rw [HL.out]; exact c4) hz)
          clear hz
          go_wp2
          go_ret
          exact ⟨by rw [HIS.out, HF.out]; rfl, HB.out⟩
      · have c4b : decide ((i : Int) < 6) = false := decide_eq_false (by omega)
        have HF := Aside0.mk (show (l.drop n).all (· == 0) = true from drop_all (fun j h1 h2 => HA.out j h1 (by rw [HL.out] at h2; simp at h2; omega)))
        go_wp2
        go_ret
        exact ⟨by rw [HIS.out, HF.out]; rfl, HB.out⟩
end Go.Proofs.Ytoljpojpncjmoaa.B
