/- A state that came in: read field by field. -/
import Derived.Test.YtpcfceodbemooaaS2
import Derived.Deep.Matrix
import Derived.Lib.SmallJoins
namespace Go.Proofs.Ytpcfceodbemooaa.B
open Go.RowKit Go.Proofs.YtpcfceodbemooaaW.PrintWords Go.Proofs.YtpcfceodbemooaaW.PrintLast Go.Proofs.YtpcfceodbemooaaW.PrintMore Go.Proofs.Ytpcfceodbemooaa.PSnapBytes
open Go.ChangeShapes Go.WideShapes Go.Joins
set_option linter.unusedVariables false

theorem exists_list {α : Type} {P : Nat → α → Prop} : ∀ n : Nat, (∀ i, i < n → ∃ x, P i x) → ∃ xs : List α, xs.length = n ∧ ∀ i x, xs[i]? = some x → P i x
  | 0, _ => ⟨[], rfl, fun i x h => by simp at h⟩
  | n + 1, h => by
    obtain ⟨xs, hl, hx⟩ := exists_list n (fun i hi => h i (by omega))
    obtain ⟨y, hy⟩ := h n (by omega)
    refine ⟨xs ++ [y], by simp [hl], fun i x hi => ?_⟩
    rcases Nat.lt_or_ge i xs.length with hlt | hge
    · rw [List.getElem?_append_left hlt] at hi
      exact hx i x hi
    · have : i = n := by
        have := (List.getElem?_eq_some_iff.1 hi).1
        simp at this
        omega
      subst this
      rw [← hl, List.getElem?_concat_length] at hi
      cases hi
      exact hy
def I64 (x : Int) : Prop := -9223372036854775808 ≤ x ∧ x < 9223372036854775808
theorem wf64 {x : Int} (h : (Lit.int .i64 x).wf = true) : I64 x := by
  unfold I64
  simp [Lit.wf, IntKind.min, IntKind.max, IntKind.bits, IntKind.signed] at h
  omega
/-- The greatest length. -/
def ML : Nat := 9223372036854775807
theorem ml : maxLen = ML := rfl
section
variable {H : Type} {enc : TypeId × Value → H} {W : World} {base : Nat} {held : Bool}
theorem int_cell {sp : Nat → Bool} {t : TypeId} {fuel : Nat} {c : Value} {x : DataW H × List MemPlace} (ht : Try.prog.underlying t = some (.int .i64)) (h : DataW.trod enc Try.prog W base sp held fuel t [c] = some x) : ∃ n, c = .int .i64 n ∧ I64 n := by
  obtain ⟨n, e, _, hw⟩ := DataW.trod_int ht h
  exact ⟨n, by simpa using e, wf64 hw⟩
theorem bool_cell {sp : Nat → Bool} {t : TypeId} {fuel : Nat} {c : Value} {x : DataW H × List MemPlace} (ht : Try.prog.underlying t = some .bool) (h : DataW.trod enc Try.prog W base sp held fuel t [c] = some x) : ∃ b, c = .bool b := by
  obtain ⟨b, e, _⟩ := DataW.trod_bool ht h
  exact ⟨b, by simpa using e⟩
/-- A slice of numbers in a cell. -/
theorem ints_cell {fuel : Nat} {c : Value} {x : DataW H × List MemPlace} (h : DataW.trod enc Try.prog W base (fun _ => true) held fuel 24 [c] = some x) : ∃ A cc, ∃ b : List Int, c = .slice A b.length cc ∧ b.length ≤ cc ∧ (∀ n ∈ b, I64 n) ∧ Kd.C (Kd.int .i64) W A b.length b ∧ b.length ≤ ML := by
  rcases open_ints Try.underlying24 Try.underlying2 (by kernel_rfl) h with ⟨hcs, _⟩ | ⟨a, l, cp, zs, hcs, _, hl, hm, hz, _, hcell, hwz⟩
  · exact ⟨none, 0, [], by simpa using hcs, Nat.le_refl _, fun _ h => (List.not_mem_nil h).elim, Kd.C_nil _ _, Nat.zero_le _⟩
  · have hz' : zs.length = cp := by simpa using hz
    rw [ml] at hm
    refine ⟨some a, cp, zs.take l, ?_, ?_, fun y hy => wf64 (hwz y (List.mem_of_mem_take hy)), ?_, by rw [List.length_take]; omega⟩
    · rw [List.length_take, Nat.min_eq_left (by omega)]
      simpa using hcs
    · rw [List.length_take]; omega
    · refine ⟨rfl, by rw [List.length_take]; unfold ML at hm; omega, fun _ => ⟨a, rfl, fun j p hj => ⟨[.int .i64 p], rfl, rfl, fun i u hu => ?_⟩⟩⟩
      obtain ⟨hjl, rfl⟩ := List.getElem?_eq_some_iff.1 hj
      match i, hu with
      | 0, hu =>
        have hu' : Value.int .i64 ((zs.take l)[j]'hjl) = u := by simpa using hu
        subst hu'
        rw [List.length_take] at hjl
        show W.cell? (a.add (j * 1 + 0)) = _
        rw [Nat.mul_one, Nat.add_zero, hcell j (by omega), List.getElem_take, List.getD_eq_getElem?_getD, List.getElem?_eq_getElem (by omega)]
        rfl
      | i + 1, hu => simp at hu
/-- A slice of structs whose cells are read by a kind. -/
theorem structs_cell {α : Type} (d : Kd α) {t e : TypeId} (ht : Try.prog.underlying t = some (.slice e)) (he : Try.prog.cellsOf e = d.sz) (hop : ∀ {fuel : Nat} {cs : List Value} {x : DataW H × List MemPlace}, DataW.trod enc Try.prog W base (fun _ => true) held fuel e cs = some x → ∃ y : α, d.K W y cs) {fuel : Nat} {c : Value} {x : DataW H × List MemPlace}
    (h : DataW.trod enc Try.prog W base (fun _ => true) held fuel t [c] = some x) : ∃ A cc, ∃ l : List α, c = .slice A l.length cc ∧ l.length ≤ cc ∧ Kd.C d W A l.length l ∧ l.length ≤ ML := by
  rcases DataW.trod_slice ht h with ⟨hcs, _⟩ | ⟨ad, ln, cp, elems, rest, n, _, hcs, _, hb, hl, hm, hlen, hel, _, _⟩
  · exact ⟨none, 0, [], by simpa using hcs, Nat.le_refl _, Kd.C_nil _ _, Nat.zero_le _⟩
  · rw [he] at hel
    rw [ml] at hm
    obtain ⟨l, hll, hx⟩ := exists_list (P := fun i y => ∃ cs, cs.length = d.sz ∧ d.K W y cs ∧ ∀ j u, cs[j]? = some u → W.cell? ((ad.add (i * d.sz)).add j) = some u) ln (fun i hi => by
      have h1 := hel i hi
      rw [List.getElem?_eq_getElem (by omega)] at h1
      obtain ⟨cs, hc, hd⟩ := Option.bind_eq_some_iff.1 h1
      obtain ⟨r, hr⟩ := hop hd
      refine ⟨r, cs, d.K_len hr, hr, fun j u hu => ?_⟩
      obtain ⟨_, hn, hcell⟩ := World.cells?_some hc
      have hj := (List.getElem?_eq_some_iff.1 hu).1
      rw [hcell j (by omega)]
      exact hu)
    refine ⟨some ad, cp, l, by rw [hll]; simpa using hcs, by omega, ⟨rfl, by unfold ML at hm; omega, fun _ => ⟨ad, rfl, fun j p hj => ?_⟩⟩, by omega⟩
    obtain ⟨cs, h1, h2, h3⟩ := hx j p hj
    refine ⟨cs, h1, h2, fun i u hu => ?_⟩
    have := h3 i u hu
    rwa [add_add] at this
theorem three {cs : List Value} (h : cs.length = 3) : ∃ c0 c1 c2, cs = [c0, c1, c2] := by
  match cs, h with
  | [c0, c1, c2], _ => exact ⟨c0, c1, c2, rfl⟩
theorem seven {cs : List Value} (h : cs.length = 7) : ∃ c0 c1 c2 c3 c4 c5 c6, cs = [c0, c1, c2, c3, c4, c5, c6] := by
  match cs, h with
  | [c0, c1, c2, c3, c4, c5, c6], _ => exact ⟨c0, c1, c2, c3, c4, c5, c6, rfl⟩
theorem open_acct {fuel : Nat} {cs : List Value} {x : DataW H × List MemPlace} (h : DataW.trod enc Try.prog W base (fun _ => true) held fuel 41 cs = some x) : ∃ y : S41, k41.K W y cs := by
  obtain ⟨xs, n, rfl, _, hcl, hl, hf⟩ := DataW.trod_struct Try.underlying41 h
  obtain ⟨c0, c1, c2, rfl⟩ := three (hcl.trans (by kernel_rfl))
  have h0 : DataW.trod enc Try.prog W base (fun _ => true) held n 2 (([c0, c1, c2].drop 0).take (Try.prog.cellsOf 2)) = xs[0]? := hf 0 _ rfl
  have h1 : DataW.trod enc Try.prog W base (fun _ => true) held n 2 (([c0, c1, c2].drop 1).take (Try.prog.cellsOf 2)) = xs[1]? := hf 1 _ rfl
  have h2 : DataW.trod enc Try.prog W base (fun _ => true) held n 2 (([c0, c1, c2].drop 2).take (Try.prog.cellsOf 2)) = xs[2]? := hf 2 _ rfl
  rw [show Try.prog.cellsOf 2 = 1 by kernel_rfl] at h0 h1 h2
  match xs, hl with
  | [y0, y1, y2], _ =>
    obtain ⟨n0, e0, _⟩ := int_cell (c := c0) Try.underlying2 h0
    obtain ⟨n1, e1, _⟩ := int_cell (c := c1) Try.underlying2 h1
    obtain ⟨n2, e2, _⟩ := int_cell (c := c2) Try.underlying2 h2
    exact ⟨⟨n0, n1, n2⟩, by rw [e0, e1, e2]; exact k41_mk W ⟨n0, n1, n2⟩⟩
theorem open_pay {fuel : Nat} {cs : List Value} {x : DataW H × List MemPlace} (h : DataW.trod enc Try.prog W base (fun _ => true) held fuel 43 cs = some x) : ∃ y : S43, k43.K W y cs := by
  obtain ⟨xs, n, rfl, _, hcl, hl, hf⟩ := DataW.trod_struct Try.underlying43 h
  obtain ⟨c0, c1, c2, c3, c4, c5, c6, rfl⟩ := seven (hcl.trans (by kernel_rfl))
  have h0 : DataW.trod enc Try.prog W base (fun _ => true) held n 2 (([c0, c1, c2, c3, c4, c5, c6].drop 0).take (Try.prog.cellsOf 2)) = xs[0]? := hf 0 _ rfl
  have h1 : DataW.trod enc Try.prog W base (fun _ => true) held n 3 (([c0, c1, c2, c3, c4, c5, c6].drop 1).take (Try.prog.cellsOf 3)) = xs[1]? := hf 1 _ rfl
  have h2 : DataW.trod enc Try.prog W base (fun _ => true) held n 3 (([c0, c1, c2, c3, c4, c5, c6].drop 2).take (Try.prog.cellsOf 3)) = xs[2]? := hf 2 _ rfl
  have h3 : DataW.trod enc Try.prog W base (fun _ => true) held n 2 (([c0, c1, c2, c3, c4, c5, c6].drop 3).take (Try.prog.cellsOf 2)) = xs[3]? := hf 3 _ rfl
  have h4 : DataW.trod enc Try.prog W base (fun _ => true) held n 3 (([c0, c1, c2, c3, c4, c5, c6].drop 4).take (Try.prog.cellsOf 3)) = xs[4]? := hf 4 _ rfl
  have h5 : DataW.trod enc Try.prog W base (fun _ => true) held n 2 (([c0, c1, c2, c3, c4, c5, c6].drop 5).take (Try.prog.cellsOf 2)) = xs[5]? := hf 5 _ rfl
  have h6 : DataW.trod enc Try.prog W base (fun _ => true) held n 2 (([c0, c1, c2, c3, c4, c5, c6].drop 6).take (Try.prog.cellsOf 2)) = xs[6]? := hf 6 _ rfl
  rw [show Try.prog.cellsOf 2 = 1 by kernel_rfl] at h0 h3 h5 h6
  rw [show Try.prog.cellsOf 3 = 1 by kernel_rfl] at h1 h2 h4
  match xs, hl with
  | [y0, y1, y2, y3, y4, y5, y6], _ =>
    obtain ⟨n0, e0, _⟩ := int_cell (c := c0) Try.underlying2 h0
    obtain ⟨n1, e1, _⟩ := int_cell (c := c1) Try.underlying3 h1
    obtain ⟨n2, e2, _⟩ := int_cell (c := c2) Try.underlying3 h2
    obtain ⟨n3, e3, _⟩ := int_cell (c := c3) Try.underlying2 h3
    obtain ⟨n4, e4, _⟩ := int_cell (c := c4) Try.underlying3 h4
    obtain ⟨n5, e5, _⟩ := int_cell (c := c5) Try.underlying2 h5
    obtain ⟨n6, e6, _⟩ := int_cell (c := c6) Try.underlying2 h6
    exact ⟨⟨n0, n1, n2, n3, n4, n5, n6⟩, by rw [e0, e1, e2, e3, e4, e5, e6]; exact k43_mk W ⟨n0, n1, n2, n3, n4, n5, n6⟩⟩
/-- A slice of slices of numbers in a cell. -/
theorem rows_cell {fuel : Nat} {c : Value} {x : DataW H × List MemPlace} (h : DataW.trod enc Try.prog W base (fun _ => true) held fuel 23 [c] = some x) : ∃ A cc, ∃ l : List (List Int), c = .slice A l.length cc ∧ l.length ≤ cc ∧ Kd.C (Kd.slice 2 (Kd.int .i64)) W A l.length l ∧ l.length ≤ ML ∧ ∀ r ∈ l, r.length ≤ ML := by
  obtain ⟨A, cc, l, h1, h2, h3, h4⟩ := structs_cell (Kd.slice 2 (Kd.int .i64)) Try.underlying23 (by kernel_rfl) (fun {fuel cs x} h => by
    have hcl : cs.length = 1 := by
      rcases DataW.trod_slice Try.underlying24 h with ⟨e, _⟩ | ⟨_, _, _, _, _, _, _, e, _⟩ <;> rw [e] <;> rfl
    match cs, hcl, h with
    | [c], _, h =>
      obtain ⟨A, cc, b, e, hl, _, hC, _⟩ := ints_cell h
      exact ⟨b, A, cc, by rw [e], hl, hC⟩) h
  refine ⟨A, cc, l, h1, h2, h3, h4, fun r hr => ?_⟩
  obtain ⟨i, hi, rfl⟩ := List.mem_iff_getElem.1 hr
  obtain ⟨ad, _, hcell⟩ := h3.2.2 (by omega)
  obtain ⟨cs, _, ⟨A', c', _, _, hC⟩, _⟩ := hcell i _ (List.getElem?_eq_getElem hi)
  exact hC.2.1
theorem arr11 {α : Type} {cs : Array α} (h : cs.size = 11) : ∃ c0 c1 c2 c3 c4 c5 c6 c7 c8 c9 c10, cs = #[c0, c1, c2, c3, c4, c5, c6, c7, c8, c9, c10] := by
  obtain ⟨l⟩ := cs
  match l, h with
  | [c0, c1, c2, c3, c4, c5, c6, c7, c8, c9, c10], _ => exact ⟨c0, c1, c2, c3, c4, c5, c6, c7, c8, c9, c10, rfl⟩
theorem open_books {fuel : Nat} {c0 c1 c2 c3 : Value} {x : DataW H × List MemPlace} (h : DataW.trod enc Try.prog W base (fun _ => true) held fuel 26 [c0, c1, c2, c3] = some x) :
    ∃ A0 d0, ∃ l0 : List S41, ∃ A1 d1, ∃ l1 : List (List Int), ∃ A2 d2, ∃ l2 : List Int, ∃ A3 d3, ∃ l3 : List (List Int), (c0 = .slice A0 l0.length d0 ∧ c1 = .slice A1 l1.length d1 ∧ c2 = .slice A2 l2.length d2 ∧ c3 = .slice A3 l3.length d3) ∧ (l0.length ≤ d0 ∧ l1.length ≤ d1 ∧ l2.length ≤ d2 ∧ l3.length ≤ d3) ∧ (Kd.C k41 W A0 l0.length l0 ∧ Kd.C (Kd.slice 2 (Kd.int .i64)) W A1 l1.length l1 ∧ Kd.C (Kd.int .i64) W A2 l2.length l2 ∧ Kd.C (Kd.slice 2 (Kd.int .i64)) W A3 l3.length l3) ∧ l0.length ≤ ML ∧ (l1.length ≤ ML ∧ ∀ r ∈ l1, r.length ≤ ML) ∧ l2.length ≤ ML ∧ (l3.length ≤ ML ∧ ∀ r ∈ l3, r.length ≤ ML) := by
  obtain ⟨xs, n, rfl, _, _, hl, hf⟩ := DataW.trod_struct Try.underlying26 h
  have h0 : DataW.trod enc Try.prog W base (fun _ => true) held n 22 (([c0, c1, c2, c3].drop 0).take (Try.prog.cellsOf 22)) = xs[0]? := hf 0 _ rfl
  rw [show Try.prog.cellsOf 22 = 1 by kernel_rfl] at h0
  have h1 : DataW.trod enc Try.prog W base (fun _ => true) held n 23 (([c0, c1, c2, c3].drop 1).take (Try.prog.cellsOf 23)) = xs[1]? := hf 1 _ rfl
  rw [show Try.prog.cellsOf 23 = 1 by kernel_rfl] at h1
  have h2 : DataW.trod enc Try.prog W base (fun _ => true) held n 24 (([c0, c1, c2, c3].drop 2).take (Try.prog.cellsOf 24)) = xs[2]? := hf 2 _ rfl
  rw [show Try.prog.cellsOf 24 = 1 by kernel_rfl] at h2
  have h3 : DataW.trod enc Try.prog W base (fun _ => true) held n 23 (([c0, c1, c2, c3].drop 3).take (Try.prog.cellsOf 23)) = xs[3]? := hf 3 _ rfl
  rw [show Try.prog.cellsOf 23 = 1 by kernel_rfl] at h3
  match xs, hl with
  | [y0, y1, y2, y3], _ =>
    obtain ⟨A0, d0, l0, e0, q0, C0, m0⟩ := structs_cell k41 Try.underlying22 (by kernel_rfl) open_acct (c := c0) h0
    obtain ⟨A1, d1, l1, e1, q1, C1, m1, n1⟩ := rows_cell (c := c1) h1
    obtain ⟨A2, d2, l2, e2, q2, _, C2, m2⟩ := ints_cell (c := c2) h2
    obtain ⟨A3, d3, l3, e3, q3, C3, m3, n3⟩ := rows_cell (c := c3) h3
    exact ⟨A0, d0, l0, A1, d1, l1, A2, d2, l2, A3, d3, l3, ⟨e0, e1, e2, e3⟩, ⟨q0, q1, q2, q3⟩, ⟨C0, C1, C2, C3⟩, m0, ⟨m1, n1⟩, m2, m3, n3⟩
/-- A state handed in by value. -/
theorem open_state {r : Reach} {b0 : Nat} {v : Value} {d : DataW H} {p : List MemPlace} (hv : Value.okWide Try.prog W r b0 29 v) (h : DataW.Trod enc Try.prog W base (fun _ => true) held 29 v d p) :
    ∃ (hh : Sh) (s : St), v = .agg #[.int .i64 s.tick, .slice hh.A1 s.accts.length hh.c1, .slice hh.A2 s.bil.length hh.c2, .slice hh.A3 s.mul.length hh.c3, .slice hh.A4 s.pos.length hh.c4, .slice hh.A5 s.prices.length hh.c5, .slice hh.A6 s.holds.length hh.c6, .slice hh.A7 s.pays.length hh.c7, .slice hh.A8 s.ids.length hh.c8, .int .i64 s.total, .bool s.over] ∧ RdS W hh s ∧ s.Bd ML := by
  obtain ⟨cs, rfl, hsz⟩ := okWide_struct Try.underlying29 hv
  obtain ⟨c0, c1, c2, c3, c4, c5, c6, c7, c8, c9, c10, rfl⟩ := arr11 (hsz.trans (by kernel_rfl))
  obtain ⟨fuel, hf0⟩ := h
  obtain ⟨xs, n, rfl, _, _, hl, hf⟩ := DataW.trod_struct Try.underlying29 hf0
  have h0 : DataW.trod enc Try.prog W base (fun _ => true) held n 2 (([c0, c1, c2, c3, c4, c5, c6, c7, c8, c9, c10].drop 0).take (Try.prog.cellsOf 2)) = xs[0]? := hf 0 _ rfl
  rw [show Try.prog.cellsOf 2 = 1 by kernel_rfl] at h0
  have h1 : DataW.trod enc Try.prog W base (fun _ => true) held n 26 (([c0, c1, c2, c3, c4, c5, c6, c7, c8, c9, c10].drop 1).take (Try.prog.cellsOf 26)) = xs[1]? := hf 1 _ rfl
  rw [show Try.prog.cellsOf 26 = 4 by kernel_rfl] at h1
  have h2 : DataW.trod enc Try.prog W base (fun _ => true) held n 24 (([c0, c1, c2, c3, c4, c5, c6, c7, c8, c9, c10].drop 5).take (Try.prog.cellsOf 24)) = xs[2]? := hf 2 _ rfl
  rw [show Try.prog.cellsOf 24 = 1 by kernel_rfl] at h2
  have h3 : DataW.trod enc Try.prog W base (fun _ => true) held n 23 (([c0, c1, c2, c3, c4, c5, c6, c7, c8, c9, c10].drop 6).take (Try.prog.cellsOf 23)) = xs[3]? := hf 3 _ rfl
  rw [show Try.prog.cellsOf 23 = 1 by kernel_rfl] at h3
  have h4 : DataW.trod enc Try.prog W base (fun _ => true) held n 27 (([c0, c1, c2, c3, c4, c5, c6, c7, c8, c9, c10].drop 7).take (Try.prog.cellsOf 27)) = xs[4]? := hf 4 _ rfl
  rw [show Try.prog.cellsOf 27 = 1 by kernel_rfl] at h4
  have h5 : DataW.trod enc Try.prog W base (fun _ => true) held n 24 (([c0, c1, c2, c3, c4, c5, c6, c7, c8, c9, c10].drop 8).take (Try.prog.cellsOf 24)) = xs[5]? := hf 5 _ rfl
  rw [show Try.prog.cellsOf 24 = 1 by kernel_rfl] at h5
  have h6 : DataW.trod enc Try.prog W base (fun _ => true) held n 2 (([c0, c1, c2, c3, c4, c5, c6, c7, c8, c9, c10].drop 9).take (Try.prog.cellsOf 2)) = xs[6]? := hf 6 _ rfl
  rw [show Try.prog.cellsOf 2 = 1 by kernel_rfl] at h6
  have h7 : DataW.trod enc Try.prog W base (fun _ => true) held n 4 (([c0, c1, c2, c3, c4, c5, c6, c7, c8, c9, c10].drop 10).take (Try.prog.cellsOf 4)) = xs[7]? := hf 7 _ rfl
  rw [show Try.prog.cellsOf 4 = 1 by kernel_rfl] at h7
  match xs, hl with
  | [y0, y1, y2, y3, y4, y5, y6, y7], _ =>
    obtain ⟨tk, e0, _⟩ := int_cell (c := c0) Try.underlying2 h0
    obtain ⟨A1, d1, l1, A2, d2, l2, A3, d3, l3, A4, d4, l4, ⟨e1, e2, e3, e4⟩, ⟨q1, q2, q3, q4⟩, ⟨C1, C2, C3, C4⟩, m1, ⟨m2, n2⟩, m3, m4, n4⟩ := open_books (c0 := c1) (c1 := c2) (c2 := c3) (c3 := c4) h1
    obtain ⟨A5, d5, l5, e5, q5, _, C5, m5⟩ := ints_cell (c := c5) h2
    obtain ⟨A6, d6, l6, e6, q6, C6, m6, n6⟩ := rows_cell (c := c6) h3
    obtain ⟨A7, d7, l7, e7, q7, C7, m7⟩ := structs_cell k43 Try.underlying27 (by kernel_rfl) open_pay (c := c7) h4
    obtain ⟨A8, d8, l8, e8, q8, _, C8, m8⟩ := ints_cell (c := c8) h5
    obtain ⟨tt, e9, _⟩ := int_cell (c := c9) Try.underlying2 h6
    obtain ⟨ov, e10⟩ := bool_cell (c := c10) Try.underlying4 h7
    exact ⟨⟨A1, d1, A2, d2, A3, d3, A4, d4, A5, d5, A6, d6, A7, d7, A8, d8⟩, ⟨tk, l1, l2, l3, l4, l5, l6, l7, l8, tt, ov⟩, by rw [e0, e1, e2, e3, e4, e5, e6, e7, e8, e9, e10], ⟨C1, q1, C2, q2, C3, q3, C4, q4, C5, q5, C6, q6, C7, q7, C8, q8⟩, ⟨m1, m2, n2, m3, m4, n4, m5, m6, n6, m7, m8⟩⟩
end
end Go.Proofs.Ytpcfceodbemooaa.B
