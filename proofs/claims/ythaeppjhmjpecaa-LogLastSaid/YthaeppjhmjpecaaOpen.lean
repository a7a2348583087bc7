/- A slice of slices of integers that came in, as a row of rows that is read: nothing of the program. -/
import Derived.Test.YthaeppjhmjpecaaB2
import Derived.Deep.Matrix
namespace Go.Proofs.Ythaeppjhmjpecaa.B
open Go.RowKit Go.Proofs.YthaeppjhmjpecaaW.PrintWords Go.Proofs.YthaeppjhmjpecaaW.PrintLast Go.Proofs.YthaeppjhmjpecaaW.PrintMore
open Go.ChangeShapes Go.WideShapes

theorem open_rows {H : Type} {enc : TypeId × Value → H} {P : Program} {w : World} {base : Nat} {held : Bool} {t e q : TypeId} {k : IntKind} {fuel : Nat} {a : Option Addr} {len cap : Nat} {x : DataW H × List MemPlace}
    (ht : P.underlying t = some (.slice e)) (he : P.underlying e = some (.slice q)) (hq : P.underlying q = some (.int k)) (ce : P.cellsOf e = 1) (cq : P.cellsOf q = 1)
    (h : DataW.trod enc P w base (fun _ => true) held fuel t (Value.slice a len cap).cells.toList = some x) :
    ∃ xs : List (List Int), xs.length = len ∧ len ≤ cap ∧ Kd.C (Kd.slice q (Kd.int k)) w a len xs ∧ ∀ r ∈ xs, ∀ n ∈ r, (Lit.int k n).wf = true := by
  rcases Deep.open_int_rows ht he hq ce cq h with ⟨hcs, _⟩ | ⟨ad, ln, cp, A, L, C, Z, hcs, _, hl, hm, _, hrow⟩
  · simp [Value.cells] at hcs
    obtain ⟨rfl, rfl, rfl⟩ := hcs
    exact ⟨[], rfl, Nat.le_refl _, Kd.C_nil _ _, fun r hr => by cases hr⟩
  · simp [Value.cells] at hcs
    obtain ⟨rfl, rfl, rfl⟩ := hcs
    refine ⟨(List.range len).map fun r => (Z r).take (L r), by simp, hl, ⟨by simp, by unfold maxLen at hm; omega, fun _ => ⟨ad, rfl, fun j p hj => ?_⟩⟩, fun r hr n hn => ?_⟩
    · obtain ⟨hjl, hp⟩ := List.getElem?_eq_some_iff.1 hj
      have hjl' : j < len := by simpa using hjl
      simp only [List.getElem_map, List.getElem_range] at hp
      subst hp
      obtain ⟨hc, h1, h2, h3, h4, h5, h6⟩ := hrow j (by omega)
      have hlen : ((Z j).take (L j)).length = L j := by rw [List.length_take]; omega
      refine ⟨[.slice (A j) (L j) (C j)], rfl, ⟨A j, C j, by rw [hlen], by rw [hlen]; exact h1, rfl, by rw [hlen]; unfold maxLen at h2; omega, fun hp => ?_⟩, fun i u hu => ?_⟩
      · rw [hlen] at hp
        rcases hA : A j with _ | a'
        · have := h5 hA; omega
        · refine ⟨a', rfl, fun i p hi => ⟨[.int k p], rfl, rfl, fun i' u hu => ?_⟩⟩
          obtain ⟨hil, hp'⟩ := List.getElem?_eq_some_iff.1 hi
          match i', hu with
          | 0, hu =>
            have hu' : Value.int k p = u := by simpa using hu
            subst hu'
            have hi' : i < L j := by rw [hlen] at hil; exact hil
            have := (h6 a' hA).2 i (by omega)
            rw [show i * (Kd.int k).sz + 0 = i from Nat.mul_one i, this]
            rw [List.getD_eq_getElem?_getD, List.getElem?_eq_getElem (by omega)]
            rw [← hp', List.getElem_take]
            rfl
          | i' + 1, hu => simp at hu
      · match i, hu with
        | 0, hu =>
          have hu' : Value.slice (A j) (L j) (C j) = u := by simpa using hu
          subst hu'
          rw [show j * (Kd.slice q (Kd.int k)).sz + 0 = j from Nat.mul_one j]
          exact hc
        | i + 1, hu => simp at hu
    · obtain ⟨j, hj, rfl⟩ := List.mem_map.1 hr
      have hj' : j < len := by simpa using hj
      exact (hrow j (by omega)).2.2.2.2.1 n (List.mem_of_mem_take hn)
end Go.Proofs.Ythaeppjhmjpecaa.B
