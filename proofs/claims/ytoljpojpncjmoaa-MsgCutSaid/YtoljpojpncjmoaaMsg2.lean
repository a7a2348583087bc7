/- msg.Is and its like: walks. -/
import Derived.Test.YtoljpojpncjmoaaMsg1
namespace Go.Proofs.Ytoljpojpncjmoaa.B
open Go.RowKit Go.Proofs.YtoljpojpncjmoaaW.PrintWords Go.Proofs.YtoljpojpncjmoaaW.PrintLast Go.Proofs.YtoljpojpncjmoaaW.PrintMore
attribute [local go_sem] max2_int min2_int max_two min_two max_three min_three max_four min_four
set_option linter.unusedVariables false
set_option linter.unusedSimpArgs false

/-- A message: a kind, six numbers. -/
structure Ms where
  k : Int
  p0 : Int
  p1 : Int
  p2 : Int
  p3 : Int
  p4 : Int
  p5 : Int
def Ms.l (m : Ms) : List Int := [m.p0, m.p1, m.p2, m.p3, m.p4, m.p5]
def Ms.cells (m : Ms) : Array Value := #[.int .i64 m.k, .int .i64 m.p0, .int .i64 m.p1, .int .i64 m.p2, .int .i64 m.p3, .int .i64 m.p4, .int .i64 m.p5]
theorem all_step {ys : List Int} {i : Nat} (h : (ys.take i).all (· == 0) = true) (hi : i < ys.length) (hz : rd ys i = 0) : (ys.take (i + 1)).all (· == 0) = true := by
  rw [List.take_succ_eq_append_getElem hi, List.all_append, h]
  unfold Go.Proofs.YtoljpojpncjmoaaW.PrintWords.rd at hz
  rw [Int.toNat_natCast, List.getD_eq_getElem?_getD, List.getElem?_eq_getElem hi] at hz
  simpa using hz
theorem all_no {ys : List Int} {i : Nat} (hi : i < ys.length) (hz : rd ys i ≠ 0) : ys.all (· == 0) = false := by
  unfold Go.Proofs.YtoljpojpncjmoaaW.PrintWords.rd at hz
  rw [Int.toNat_natCast, List.getD_eq_getElem?_getD, List.getElem?_eq_getElem hi] at hz
  rw [← Bool.not_eq_true]
  intro h
  exact hz (by simpa using List.all_eq_true.1 h _ (List.getElem_mem hi))
/-- May a message be? -/
def isM (m : Ms) : Bool := decide (0 ≤ many m.k) && (m.l.drop (many m.k).toNat).all (· == 0)

set_option maxHeartbeats 1000000 in
theorem mis (k p0 p1 p2 p3 p4 p5 : Int) (w : World) : Calls Try.prog 44 #[.agg #[.int .i64 k, .int .i64 p0, .int .i64 p1, .int .i64 p2, .int .i64 p3, .int .i64 p4, .int .i64 p5]] w fun e w' => e = .returned (.bool (isM ⟨k, p0, p1, p2, p3, p4, p5⟩)) ∧ Below w.heap.size w w' := by
  have HB := Aside0.mk (Below.refl w.heap.size w)
  by_cases hneg : many k < 0
  · have hnb : decide (many k < 0) = true := decide_eq_true hneg
    have HE := Aside0.mk (show isM ⟨k, p0, p1, p2, p3, p4, p5⟩ = false by unfold isM; rw [show decide (0 ≤ many k) = false from decide_eq_false (by omega)]; rfl)
    go_enter Try.func44, Try.ntmps44
    go_wp2_with (first | ((with_reducible refine gate_dst (N := 8) rfl ?_); (try (refine gate_guard (by rfl) ?_; dsimp only)); refine goesL_ (some 8) rfl rfl Try.func39 (by kernel_rfl) rfl #[.int .i64 k] rfl (by (try simp only [List.map_toArray, List.map_cons, List.map_nil]); first | done | rfl | (simp only [List.length_drop, List.length_take]; rfl)) ?_; refine (mmany k _).mono ?_; rintro e w1 ⟨rfl, hbl⟩; refine ⟨_, rfl, ?_⟩; have HB' := Aside0.mk (below_step (below_alloc HB.out _) hbl); clear HB hbl; have HB := HB'; clear HB'))
    go_ret
    exact ⟨by rw [HE.out]; rfl, HB.out⟩
  · have hnb : decide (many k < 0) = false := decide_eq_false hneg
    obtain ⟨n, hn⟩ : ∃ n : Nat, many k = n := ⟨(many k).toNat, by omega⟩
    have hn6 : n ≤ 6 := by have := (many_bd k).2; omega
    have HN := Aside0.mk hn
    have HIS := Aside0.mk (show isM ⟨k, p0, p1, p2, p3, p4, p5⟩ = (([p0, p1, p2, p3, p4, p5] : List Int).drop n).all (· == 0) by unfold isM; rw [show many (Ms.k ⟨k, p0, p1, p2, p3, p4, p5⟩) = n from hn, decide_eq_true (by omega)]; rfl)
    obtain ⟨ys, A', hys, hrun, hC⟩ := arrL (P := Try.prog) 52 2 6 Try.underlying52 info2 ⟨w.heap.size, 1, none⟩ [p0, p1, p2, p3, p4, p5] rfl n hn6
    have hyl : ys.length ≤ 6 := by rw [hys.out, List.length_drop]; simp
    rw [← hys.out] at HIS
    have HC0 := Aside0.mk (hC.out _ (C_blk (k := .i64) (t := 54) (blk_new w (.cells #[.int .i64 k, .int .i64 p0, .int .i64 p1, .int .i64 p2, .int .i64 p3, .int .i64 p4, .int .i64 p5] 54)) [p0, p1, p2, p3, p4, p5] rfl (by simp)))
    have hnb' : decide ((n : Int) < 0) = false := decide_eq_false (by omega)
    clear hneg hnb hn
    go_enter Try.func44, Try.ntmps44
    go_wp2_with (first | ((with_reducible refine gate_dst (N := 8) rfl ?_); (try (refine gate_guard (by rfl) ?_; dsimp only)); refine goesL_ (some 8) rfl rfl Try.func39 (by kernel_rfl) rfl #[.int .i64 k] rfl (by (try simp only [List.map_toArray, List.map_cons, List.map_nil]); first | done | rfl | (simp only [List.length_drop, List.length_take]; rfl)) ?_; refine (mmany k _).mono ?_; rintro e w1 ⟨rfl, hbl⟩; refine ⟨_, rfl, ?_⟩; rw [HN.out]; have HB' := Aside0.mk (below_step (below_alloc HB.out _) hbl); have HC1 := Aside0.mk (Kd.C_below HC0.out hbl); clear HB hbl HC0; have HB := HB'; clear HB'))
    go_loopg [5, 15] ys.length (fun kq v5 v15 w' => ∃ i : Nat, v15 = .int .i64 (i : Int) ∧ i ≤ ys.length ∧ Aside0 (kq + i = ys.length) ∧ Aside0 ((ys.take i).all (· == 0) = true) ∧ w' = w1)
    case atStart => exact ⟨0, rfl, Nat.zero_le _, ⟨rfl⟩, ⟨by simp⟩, rfl⟩
    case round =>
      obtain ⟨i, rfl, hi, HK, HA, rfl⟩ := hrel
      by_cases c4 : i < ys.length
      · obtain ⟨ad, e1, hx⟩ := Kd.at_int HC1.out i (by omega) (by exact_mod_cast c4)
        cases e1
        rw [Int.toNat_natCast] at hx
        by_cases hz : rd ys i = 0
        · have hzb : (rd ys i != 0) = false := by rw [hz]; rfl
          have HA' := Aside0.mk (all_step HA.out c4 hz)
          clear hz
          go_wp2
          go_roundg (ys.length - (i + 1))
          case measure => have := HK.out; omega
          case rel => exact ⟨i + 1, by go_num, by omega, ⟨by omega⟩, HA', rfl⟩
        · have hzb : (rd ys i != 0) = true := by rw [bne_iff_ne]; exact hz
          have HF := Aside0.mk (all_no c4 hz)
          clear hz
          go_wp2
          go_ret
          exact ⟨by rw [HIS.out, HF.out]; rfl, HB.out⟩
      · have HF := Aside0.mk (show ys.all (· == 0) = true by have := HA.out; rwa [List.take_of_length_le (by omega)] at this)
        go_wp2
        go_ret
        exact ⟨by rw [HIS.out, HF.out]; rfl, HB.out⟩
end Go.Proofs.Ytoljpojpncjmoaa.B
