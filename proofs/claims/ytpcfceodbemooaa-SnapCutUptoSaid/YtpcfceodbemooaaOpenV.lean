/- A state that came in: read field by field; its numbers, its bulk. -/
import Derived.Test.YtpcfceodbemooaaS13
import Derived.Test.YtpcfceodbemooaaRows
import Derived.Deep.Matrix
import Derived.Lib.SmallJoins
namespace Go.Proofs.Ytpcfceodbemooaa.B
open Go.RowKit Go.Proofs.YtpcfceodbemooaaW.PrintWords Go.Proofs.YtpcfceodbemooaaW.PrintLast Go.Proofs.YtpcfceodbemooaaW.PrintMore Go.Proofs.Ytpcfceodbemooaa.PSnapBytes
open Go.ChangeShapes Go.WideShapes Go.Joins
set_option linter.unusedVariables false

theorem one_le {H : Type} (d : DataW H) : 1 ≤ Rows.uptoBulk d := by
  cases d with
  | lit l => cases l <;> simp [Rows.uptoBulk]
  | nil => simp [Rows.uptoBulk]
  | ptr d => simp [Rows.uptoBulk]
  | slice elems spare => simp [Rows.uptoBulk]
  | agg parts => simp [Rows.uptoBulk]
  | iface t d => simp [Rows.uptoBulk]
  | map entries => simp [Rows.uptoBulk]
  | held h => simp [Rows.uptoBulk]
theorem sum_le {H α : Type} (g : α → Nat) : ∀ (l : List α) (es : List (DataW H)), l.length = es.length → (∀ (i : Nat) (y : α) (e : DataW H), l[i]? = some y → es[i]? = some e → g y ≤ Rows.uptoBulk e) → (l.map g).sum ≤ Rows.uptoBulkAll es
  | [], [], _, _ => Nat.le_refl 0
  | y :: l, e :: es, hl, h => by
    have h1 := h 0 y e rfl rfl
    have h2 := sum_le g l es (by simpa using hl) (fun i y e a b => h (i + 1) y e (by simpa using a) (by simpa using b))
    simp only [List.map_cons, List.sum_cons, Rows.uptoBulkAll]
    omega
theorem exists_list {α : Type} {P : Nat → α → Prop} : ∀ n : Nat, (∀ i, i < n → ∃ x, P i x) → ∃ xs : List α, xs.length = n ∧ ∀ i x, xs[i]? = some x → P i x
  | 0, _ => ⟨[], rfl, fun i x h => by simp at h⟩
  | n + 1, h => by
    obtain ⟨xs, hl, hx⟩ := exists_list n (fun i hi => h i (by omega))
    obtain ⟨y, hy⟩ := h n (by omega)
    refine ⟨xs ++ [y], by simp [hl], fun i x hi => ?_⟩
    rcases Nat.lt_or_ge i xs.length with hlt | hge
    · rw [List.getElem?_append_left hlt] at hi
      exact hx i x hi
    · have : i = n := by
        have := (List.getElem?_eq_some_iff.1 hi).1
        simp at this
        omega
      subst this
      rw [← hl, List.getElem?_concat_length] at hi
      cases hi
      exact hy
def I64 (x : Int) : Prop := -9223372036854775808 ≤ x ∧ x < 9223372036854775808
theorem wf64 {x : Int} (h : (Lit.int .i64 x).wf = true) : I64 x := by
  unfold I64
  simp [Lit.wf, IntKind.min, IntKind.max, IntKind.bits, IntKind.signed] at h
  omega
section
variable {H : Type} {enc : TypeId × Value → H} {W : World} {base : Nat} {held : Bool}
theorem int_cell {sp : Nat → Bool} {t : TypeId} {fuel : Nat} {c : Value} {x : DataW H × List MemPlace} (ht : Try.prog.underlying t = some (.int .i64)) (h : DataW.trod enc Try.prog W base sp held fuel t [c] = some x) : ∃ n, c = .int .i64 n ∧ I64 n := by
  obtain ⟨n, e, _, hw⟩ := DataW.trod_int ht h
  exact ⟨n, by simpa using e, wf64 hw⟩
theorem bool_cell {sp : Nat → Bool} {t : TypeId} {fuel : Nat} {c : Value} {x : DataW H × List MemPlace} (ht : Try.prog.underlying t = some .bool) (h : DataW.trod enc Try.prog W base sp held fuel t [c] = some x) : ∃ b, c = .bool b := by
  obtain ⟨b, e, _⟩ := DataW.trod_bool ht h
  exact ⟨b, by simpa using e⟩
/-- A slice of structs whose cells are read by a kind. -/
theorem structs_cell {α : Type} (d : Kd α) (Q : α → Prop) (g : α → Nat) {t e : TypeId} (ht : Try.prog.underlying t = some (.slice e)) (he : Try.prog.cellsOf e = d.sz) (hop : ∀ {fuel : Nat} {cs : List Value} {x : DataW H × List MemPlace}, DataW.trod enc Try.prog W base (fun _ => true) held fuel e cs = some x → ∃ y : α, d.K W y cs ∧ Q y ∧ g y ≤ Rows.uptoBulk x.1) {fuel : Nat} {c : Value} {x : DataW H × List MemPlace}
    (h : DataW.trod enc Try.prog W base (fun _ => true) held fuel t [c] = some x) : ∃ A cc, ∃ l : List α, c = .slice A l.length cc ∧ l.length ≤ cc ∧ Kd.C d W A l.length l ∧ (∀ y ∈ l, Q y) ∧ (l.map g).sum + 1 ≤ Rows.uptoBulk x.1 := by
  rcases DataW.trod_slice ht h with ⟨hcs, hx⟩ | ⟨ad, ln, cp, elems, rest, n, _, hcs, hx, hb, hl, hm, hlen, hel, _, _⟩
  · exact ⟨none, 0, [], by simpa using hcs, Nat.le_refl _, Kd.C_nil _ _, fun _ h => (List.not_mem_nil h).elim, one_le _⟩
  · rw [he] at hel
    have hm' : cp ≤ 9223372036854775807 := hm
    obtain ⟨l, hll, hx'⟩ := exists_list (P := fun i y => ∃ cs, cs.length = d.sz ∧ d.K W y cs ∧ (∀ j u, cs[j]? = some u → W.cell? ((ad.add (i * d.sz)).add j) = some u) ∧ Q y ∧ ∀ e, (elems.map (·.1))[i]? = some e → g y ≤ Rows.uptoBulk e) ln (fun i hi => by
      have h1 := hel i hi
      rw [List.getElem?_eq_getElem (by omega)] at h1
      obtain ⟨cs, hc, hd⟩ := Option.bind_eq_some_iff.1 h1
      obtain ⟨r, hr, hq, hg⟩ := hop hd
      refine ⟨r, cs, d.K_len hr, hr, fun j u hu => ?_, hq, fun e he => ?_⟩
      · obtain ⟨_, hn, hcell⟩ := World.cells?_some hc
        have hj := (List.getElem?_eq_some_iff.1 hu).1
        rw [hcell j (by omega)]
        exact hu
      · rw [List.getElem?_map, List.getElem?_eq_getElem (by omega)] at he
        cases he
        exact hg)
    refine ⟨some ad, cp, l, by rw [hll]; simpa using hcs, by omega, ⟨rfl, by omega, fun _ => ⟨ad, rfl, fun j p hj => ?_⟩⟩, fun y hy => ?_, ?_⟩
    · obtain ⟨cs, h1, h2, h3, _⟩ := hx' j p hj
      refine ⟨cs, h1, h2, fun i u hu => ?_⟩
      have := h3 i u hu
      rwa [add_add] at this
    · obtain ⟨i, hi, rfl⟩ := List.mem_iff_getElem.1 hy
      obtain ⟨_, _, _, _, hq, _⟩ := hx' i _ (List.getElem?_eq_getElem hi)
      exact hq
    · have h5 := sum_le g l (elems.map (·.1)) (by rw [List.length_map]; omega) (fun i y e hy he => by
        obtain ⟨_, _, _, _, _, hg⟩ := hx' i y hy
        exact hg e he)
      rw [hx]
      simp only [Rows.uptoBulk]
      omega
theorem one {cs : List Value} (h : cs.length = 1) : ∃ c0, cs = [c0] := by
  match cs, h with
  | [c0], _ => exact ⟨c0, rfl⟩
theorem sum_ones {α : Type} (l : List α) : (l.map (fun _ => 1)).sum = l.length := by
  induction l with
  | nil => rfl
  | cons x l ih => simp only [List.map_cons, List.sum_cons, List.length_cons, ih]; omega
/-- A slice of numbers in a cell. -/
theorem ints_cell {fuel : Nat} {c : Value} {x : DataW H × List MemPlace} (h : DataW.trod enc Try.prog W base (fun _ => true) held fuel 24 [c] = some x) : ∃ A cc, ∃ b : List Int, c = .slice A b.length cc ∧ b.length ≤ cc ∧ IsN b ∧ Kd.C (Kd.int .i64) W A b.length b ∧ b.length + 1 ≤ Rows.uptoBulk x.1 := by
  obtain ⟨A, cc, l, h1, h2, h3, h4, h5⟩ := structs_cell (Kd.int .i64) I64 (fun _ => 1) Try.underlying24 (by kernel_rfl) (fun {fuel cs x} h => by
    have hcl : cs.length = 1 := by
      obtain ⟨n, e, _⟩ := DataW.trod_int Try.underlying2 h
      rw [e]; rfl
    obtain ⟨c, rfl⟩ := one hcl
    obtain ⟨n, e, hn⟩ := int_cell Try.underlying2 h
    exact ⟨n, by rw [e]; rfl, hn, one_le _⟩) h
  rw [sum_ones] at h5
  exact ⟨A, cc, l, h1, h2, h4, h3, h5⟩
theorem three {cs : List Value} (h : cs.length = 3) : ∃ c0 c1 c2, cs = [c0, c1, c2] := by
  match cs, h with
  | [c0, c1, c2], _ => exact ⟨c0, c1, c2, rfl⟩
theorem seven {cs : List Value} (h : cs.length = 7) : ∃ c0 c1 c2 c3 c4 c5 c6, cs = [c0, c1, c2, c3, c4, c5, c6] := by
  match cs, h with
  | [c0, c1, c2, c3, c4, c5, c6], _ => exact ⟨c0, c1, c2, c3, c4, c5, c6, rfl⟩
theorem open_acct {fuel : Nat} {cs : List Value} {x : DataW H × List MemPlace} (h : DataW.trod enc Try.prog W base (fun _ => true) held fuel 41 cs = some x) : ∃ y : S41, k41.K W y cs ∧ IsN (aN y) ∧ 4 ≤ Rows.uptoBulk x.1 := by
  obtain ⟨xs, n, rfl, rfl, hcl, hl, hf⟩ := DataW.trod_struct Try.underlying41 h
  obtain ⟨c0, c1, c2, rfl⟩ := three (hcl.trans (by kernel_rfl))
  have h0 : DataW.trod enc Try.prog W base (fun _ => true) held n 2 (([c0, c1, c2].drop 0).take (Try.prog.cellsOf 2)) = xs[0]? := hf 0 _ rfl
  have h1 : DataW.trod enc Try.prog W base (fun _ => true) held n 2 (([c0, c1, c2].drop 1).take (Try.prog.cellsOf 2)) = xs[1]? := hf 1 _ rfl
  have h2 : DataW.trod enc Try.prog W base (fun _ => true) held n 2 (([c0, c1, c2].drop 2).take (Try.prog.cellsOf 2)) = xs[2]? := hf 2 _ rfl
  rw [show Try.prog.cellsOf 2 = 1 by kernel_rfl] at h0 h1 h2
  match xs, hl with
  | [y0, y1, y2], _ =>
    obtain ⟨n0, e0, g0⟩ := int_cell (c := c0) Try.underlying2 h0
    obtain ⟨n1, e1, g1⟩ := int_cell (c := c1) Try.underlying2 h1
    obtain ⟨n2, e2, g2⟩ := int_cell (c := c2) Try.underlying2 h2
    refine ⟨⟨n0, n1, n2⟩, by rw [e0, e1, e2]; exact k41_mk W ⟨n0, n1, n2⟩, fun z hz => ?_, ?_⟩
    · simp only [aN, List.mem_cons, List.not_mem_nil, or_false] at hz
      rcases hz with rfl | rfl | rfl
      · exact g0
      · exact g1
      · exact g2
    · skip
      have w0 := one_le y0.1
      have w1 := one_le y1.1
      have w2 := one_le y2.1
      simp only [List.map_cons, List.map_nil, Rows.uptoBulk, Rows.uptoBulkAll]
      omega
theorem open_pay {fuel : Nat} {cs : List Value} {x : DataW H × List MemPlace} (h : DataW.trod enc Try.prog W base (fun _ => true) held fuel 43 cs = some x) : ∃ y : S43, k43.K W y cs ∧ IsN (pN y) ∧ 8 ≤ Rows.uptoBulk x.1 := by
  obtain ⟨xs, n, rfl, rfl, hcl, hl, hf⟩ := DataW.trod_struct Try.underlying43 h
  obtain ⟨c0, c1, c2, c3, c4, c5, c6, rfl⟩ := seven (hcl.trans (by kernel_rfl))
  have h0 : DataW.trod enc Try.prog W base (fun _ => true) held n 2 (([c0, c1, c2, c3, c4, c5, c6].drop 0).take (Try.prog.cellsOf 2)) = xs[0]? := hf 0 _ rfl
  have h1 : DataW.trod enc Try.prog W base (fun _ => true) held n 3 (([c0, c1, c2, c3, c4, c5, c6].drop 1).take (Try.prog.cellsOf 3)) = xs[1]? := hf 1 _ rfl
  have h2 : DataW.trod enc Try.prog W base (fun _ => true) held n 3 (([c0, c1, c2, c3, c4, c5, c6].drop 2).take (Try.prog.cellsOf 3)) = xs[2]? := hf 2 _ rfl
  have h3 : DataW.trod enc Try.prog W base (fun _ => true) held n 2 (([c0, c1, c2, c3, c4, c5, c6].drop 3).take (Try.prog.cellsOf 2)) = xs[3]? := hf 3 _ rfl
  have h4 : DataW.trod enc Try.prog W base (fun _ => true) held n 3 (([c0, c1, c2, c3, c4, c5, c6].drop 4).take (Try.prog.cellsOf 3)) = xs[4]? := hf 4 _ rfl
  have h5 : DataW.trod enc Try.prog W base (fun _ => true) held n 2 (([c0, c1, c2, c3, c4, c5, c6].drop 5).take (Try.prog.cellsOf 2)) = xs[5]? := hf 5 _ rfl
  have h6 : DataW.trod enc Try.prog W base (fun _ => true) held n 2 (([c0, c1, c2, c3, c4, c5, c6].drop 6).take (Try.prog.cellsOf 2)) = xs[6]? := hf 6 _ rfl
  rw [show Try.prog.cellsOf 2 = 1 by kernel_rfl] at h0 h3 h5 h6
  rw [show Try.prog.cellsOf 3 = 1 by kernel_rfl] at h1 h2 h4
  match xs, hl with
  | [y0, y1, y2, y3, y4, y5, y6], _ =>
    obtain ⟨n0, e0, g0⟩ := int_cell (c := c0) Try.underlying2 h0
    obtain ⟨n1, e1, g1⟩ := int_cell (c := c1) Try.underlying3 h1
    obtain ⟨n2, e2, g2⟩ := int_cell (c := c2) Try.underlying3 h2
    obtain ⟨n3, e3, g3⟩ := int_cell (c := c3) Try.underlying2 h3
    obtain ⟨n4, e4, g4⟩ := int_cell (c := c4) Try.underlying3 h4
    obtain ⟨n5, e5, g5⟩ := int_cell (c := c5) Try.underlying2 h5
    obtain ⟨n6, e6, g6⟩ := int_cell (c := c6) Try.underlying2 h6
    refine ⟨⟨n0, n1, n2, n3, n4, n5, n6⟩, by rw [e0, e1, e2, e3, e4, e5, e6]; exact k43_mk W ⟨n0, n1, n2, n3, n4, n5, n6⟩, fun z hz => ?_, ?_⟩
    · simp only [pN, List.mem_cons, List.not_mem_nil, or_false] at hz
      rcases hz with rfl | rfl | rfl | rfl | rfl | rfl | rfl
      · exact g0
      · exact g1
      · exact g2
      · exact g3
      · exact g4
      · exact g5
      · exact g6
    · skip
      have w0 := one_le y0.1
      have w1 := one_le y1.1
      have w2 := one_le y2.1
      have w3 := one_le y3.1
      have w4 := one_le y4.1
      have w5 := one_le y5.1
      have w6 := one_le y6.1
      simp only [List.map_cons, List.map_nil, Rows.uptoBulk, Rows.uptoBulkAll]
      omega
/-- A slice of slices of numbers in a cell. -/
theorem rows_cell {fuel : Nat} {c : Value} {x : DataW H × List MemPlace} (h : DataW.trod enc Try.prog W base (fun _ => true) held fuel 23 [c] = some x) : ∃ A cc, ∃ l : List (List Int), c = .slice A l.length cc ∧ l.length ≤ cc ∧ Kd.C (Kd.slice 2 (Kd.int .i64)) W A l.length l ∧ (∀ r ∈ l, IsN r) ∧ (l.map (fun r => r.length + 1)).sum + 1 ≤ Rows.uptoBulk x.1 :=
  structs_cell (Kd.slice 2 (Kd.int .i64)) IsN (fun r => r.length + 1) Try.underlying23 (by kernel_rfl) (fun {fuel cs x} h => by
    have hcl : cs.length = 1 := by
      rcases DataW.trod_slice Try.underlying24 h with ⟨e, _⟩ | ⟨_, _, _, _, _, _, _, e, _⟩ <;> rw [e] <;> rfl
    obtain ⟨c, rfl⟩ := one hcl
    obtain ⟨A, cc, b, e, hl, hn, hC, hk⟩ := ints_cell h
    exact ⟨b, ⟨A, cc, by rw [e], hl, hC⟩, hn, hk⟩) h
theorem arr11 {α : Type} {cs : Array α} (h : cs.size = 11) : ∃ c0 c1 c2 c3 c4 c5 c6 c7 c8 c9 c10, cs = #[c0, c1, c2, c3, c4, c5, c6, c7, c8, c9, c10] := by
  obtain ⟨l⟩ := cs
  match l, h with
  | [c0, c1, c2, c3, c4, c5, c6, c7, c8, c9, c10], _ => exact ⟨c0, c1, c2, c3, c4, c5, c6, c7, c8, c9, c10, rfl⟩
theorem open_books {fuel : Nat} {c0 c1 c2 c3 : Value} {x : DataW H × List MemPlace} (h : DataW.trod enc Try.prog W base (fun _ => true) held fuel 26 [c0, c1, c2, c3] = some x) :
    ∃ A0 d0, ∃ l0 : List S41, ∃ A1 d1, ∃ l1 : List (List Int), ∃ A2 d2, ∃ l2 : List Int, ∃ A3 d3, ∃ l3 : List (List Int), (c0 = .slice A0 l0.length d0 ∧ c1 = .slice A1 l1.length d1 ∧ c2 = .slice A2 l2.length d2 ∧ c3 = .slice A3 l3.length d3) ∧ (l0.length ≤ d0 ∧ l1.length ≤ d1 ∧ l2.length ≤ d2 ∧ l3.length ≤ d3) ∧ (Kd.C k41 W A0 l0.length l0 ∧ Kd.C (Kd.slice 2 (Kd.int .i64)) W A1 l1.length l1 ∧ Kd.C (Kd.int .i64) W A2 l2.length l2 ∧ Kd.C (Kd.slice 2 (Kd.int .i64)) W A3 l3.length l3) ∧ ((∀ y ∈ l0, IsN (aN y)) ∧ (∀ y ∈ l1, IsN y) ∧ IsN l2 ∧ ∀ y ∈ l3, IsN y) ∧ (l0.map (fun _ => 4)).sum + 1 + ((l1.map (fun r => r.length + 1)).sum + 1) + (l2.length + 1) + ((l3.map (fun r => r.length + 1)).sum + 1) ≤ Rows.uptoBulk x.1 := by
  obtain ⟨xs, n, rfl, rfl, _, hl, hf⟩ := DataW.trod_struct Try.underlying26 h
  have h0 : DataW.trod enc Try.prog W base (fun _ => true) held n 22 (([c0, c1, c2, c3].drop 0).take (Try.prog.cellsOf 22)) = xs[0]? := hf 0 _ rfl
  rw [show Try.prog.cellsOf 22 = 1 by kernel_rfl] at h0
  have h1 : DataW.trod enc Try.prog W base (fun _ => true) held n 23 (([c0, c1, c2, c3].drop 1).take (Try.prog.cellsOf 23)) = xs[1]? := hf 1 _ rfl
  rw [show Try.prog.cellsOf 23 = 1 by kernel_rfl] at h1
  have h2 : DataW.trod enc Try.prog W base (fun _ => true) held n 24 (([c0, c1, c2, c3].drop 2).take (Try.prog.cellsOf 24)) = xs[2]? := hf 2 _ rfl
  rw [show Try.prog.cellsOf 24 = 1 by kernel_rfl] at h2
  have h3 : DataW.trod enc Try.prog W base (fun _ => true) held n 23 (([c0, c1, c2, c3].drop 3).take (Try.prog.cellsOf 23)) = xs[3]? := hf 3 _ rfl
  rw [show Try.prog.cellsOf 23 = 1 by kernel_rfl] at h3
  match xs, hl with
  | [y0, y1, y2, y3], _ =>
    obtain ⟨A0, d0, l0, e0, q0, C0, m0, n0⟩ := structs_cell k41 (fun y => IsN (aN y)) (fun _ => 4) Try.underlying22 (by kernel_rfl) open_acct (c := c0) h0
    obtain ⟨A1, d1, l1, e1, q1, C1, m1, n1⟩ := rows_cell (c := c1) h1
    obtain ⟨A2, d2, l2, e2, q2, m2, C2, n2⟩ := ints_cell (c := c2) h2
    obtain ⟨A3, d3, l3, e3, q3, C3, m3, n3⟩ := rows_cell (c := c3) h3
    refine ⟨A0, d0, l0, A1, d1, l1, A2, d2, l2, A3, d3, l3, ⟨e0, e1, e2, e3⟩, ⟨q0, q1, q2, q3⟩, ⟨C0, C1, C2, C3⟩, ⟨m0, m1, m2, m3⟩, ?_⟩
    simp only [List.map_cons, List.map_nil, Rows.uptoBulk, Rows.uptoBulkAll]
    omega
/-- How much a state holds. -/
def bk (s : St) : Nat := (s.accts.map (fun _ => 4)).sum + (s.bil.map (fun r => r.length + 1)).sum + (s.mul.length + 1) + (s.pos.map (fun r => r.length + 1)).sum + (s.prices.length + 1) + (s.holds.map (fun r => r.length + 1)).sum + (s.pays.map (fun _ => 8)).sum + (s.ids.length + 1)
/-- Numbers that are int64s. -/
structure NumS (s : St) : Prop where
  tick : I64 s.tick
  total : I64 s.total
  accts : ∀ a ∈ s.accts, IsN (aN a)
  pays : ∀ a ∈ s.pays, IsN (pN a)
  bil : ∀ r ∈ s.bil, IsN r
  mul : IsN s.mul
  pos : ∀ r ∈ s.pos, IsN r
  prices : IsN s.prices
  holds : ∀ r ∈ s.holds, IsN r
  ids : IsN s.ids
/-- A state handed in by value. -/
theorem open_state {r : Reach} {b0 : Nat} {v : Value} {d : DataW H} {p : List MemPlace} (hv : Value.okWide Try.prog W r b0 29 v) (h : DataW.Trod enc Try.prog W base (fun _ => true) held 29 v d p) :
    ∃ (hh : Sh) (s : St), v = .agg #[.int .i64 s.tick, .slice hh.A1 s.accts.length hh.c1, .slice hh.A2 s.bil.length hh.c2, .slice hh.A3 s.mul.length hh.c3, .slice hh.A4 s.pos.length hh.c4, .slice hh.A5 s.prices.length hh.c5, .slice hh.A6 s.holds.length hh.c6, .slice hh.A7 s.pays.length hh.c7, .slice hh.A8 s.ids.length hh.c8, .int .i64 s.total, .bool s.over] ∧ RdS W hh s ∧ NumS s ∧ bk s ≤ Rows.uptoBulk d := by
  obtain ⟨cs, rfl, hsz⟩ := okWide_struct Try.underlying29 hv
  obtain ⟨c0, c1, c2, c3, c4, c5, c6, c7, c8, c9, c10, rfl⟩ := arr11 (hsz.trans (by kernel_rfl))
  obtain ⟨fuel, hf0⟩ := h
  obtain ⟨xs, n, rfl, hx_, _, hl, hf⟩ := DataW.trod_struct Try.underlying29 hf0
  cases hx_
  have h0 : DataW.trod enc Try.prog W base (fun _ => true) held n 2 (([c0, c1, c2, c3, c4, c5, c6, c7, c8, c9, c10].drop 0).take (Try.prog.cellsOf 2)) = xs[0]? := hf 0 _ rfl
  rw [show Try.prog.cellsOf 2 = 1 by kernel_rfl] at h0
  have h1 : DataW.trod enc Try.prog W base (fun _ => true) held n 26 (([c0, c1, c2, c3, c4, c5, c6, c7, c8, c9, c10].drop 1).take (Try.prog.cellsOf 26)) = xs[1]? := hf 1 _ rfl
  rw [show Try.prog.cellsOf 26 = 4 by kernel_rfl] at h1
  have h2 : DataW.trod enc Try.prog W base (fun _ => true) held n 24 (([c0, c1, c2, c3, c4, c5, c6, c7, c8, c9, c10].drop 5).take (Try.prog.cellsOf 24)) = xs[2]? := hf 2 _ rfl
  rw [show Try.prog.cellsOf 24 = 1 by kernel_rfl] at h2
  have h3 : DataW.trod enc Try.prog W base (fun _ => true) held n 23 (([c0, c1, c2, c3, c4, c5, c6, c7, c8, c9, c10].drop 6).take (Try.prog.cellsOf 23)) = xs[3]? := hf 3 _ rfl
  rw [show Try.prog.cellsOf 23 = 1 by kernel_rfl] at h3
  have h4 : DataW.trod enc Try.prog W base (fun _ => true) held n 27 (([c0, c1, c2, c3, c4, c5, c6, c7, c8, c9, c10].drop 7).take (Try.prog.cellsOf 27)) = xs[4]? := hf 4 _ rfl
  rw [show Try.prog.cellsOf 27 = 1 by kernel_rfl] at h4
  have h5 : DataW.trod enc Try.prog W base (fun _ => true) held n 24 (([c0, c1, c2, c3, c4, c5, c6, c7, c8, c9, c10].drop 8).take (Try.prog.cellsOf 24)) = xs[5]? := hf 5 _ rfl
  rw [show Try.prog.cellsOf 24 = 1 by kernel_rfl] at h5
  have h6 : DataW.trod enc Try.prog W base (fun _ => true) held n 2 (([c0, c1, c2, c3, c4, c5, c6, c7, c8, c9, c10].drop 9).take (Try.prog.cellsOf 2)) = xs[6]? := hf 6 _ rfl
  rw [show Try.prog.cellsOf 2 = 1 by kernel_rfl] at h6
  have h7 : DataW.trod enc Try.prog W base (fun _ => true) held n 4 (([c0, c1, c2, c3, c4, c5, c6, c7, c8, c9, c10].drop 10).take (Try.prog.cellsOf 4)) = xs[7]? := hf 7 _ rfl
  rw [show Try.prog.cellsOf 4 = 1 by kernel_rfl] at h7
  match xs, hl with
  | [y0, y1, y2, y3, y4, y5, y6, y7], _ =>
    obtain ⟨tk, e0, t0⟩ := int_cell (c := c0) Try.underlying2 h0
    obtain ⟨A1, d1, l1, A2, d2, l2, A3, d3, l3, A4, d4, l4, ⟨e1, e2, e3, e4⟩, ⟨q1, q2, q3, q4⟩, ⟨C1, C2, C3, C4⟩, ⟨m1, m2, m3, m4⟩, n1⟩ := open_books (c0 := c1) (c1 := c2) (c2 := c3) (c3 := c4) h1
    obtain ⟨A5, d5, l5, e5, q5, m5, C5, n5⟩ := ints_cell (c := c5) h2
    obtain ⟨A6, d6, l6, e6, q6, C6, m6, n6⟩ := rows_cell (c := c6) h3
    obtain ⟨A7, d7, l7, e7, q7, C7, m7, n7⟩ := structs_cell k43 (fun y => IsN (pN y)) (fun _ => 8) Try.underlying27 (by kernel_rfl) open_pay (c := c7) h4
    obtain ⟨A8, d8, l8, e8, q8, m8, C8, n8⟩ := ints_cell (c := c8) h5
    obtain ⟨tt, e9, t9⟩ := int_cell (c := c9) Try.underlying2 h6
    obtain ⟨ov, e10⟩ := bool_cell (c := c10) Try.underlying4 h7
    refine ⟨⟨A1, d1, A2, d2, A3, d3, A4, d4, A5, d5, A6, d6, A7, d7, A8, d8⟩, ⟨tk, l1, l2, l3, l4, l5, l6, l7, l8, tt, ov⟩, by rw [e0, e1, e2, e3, e4, e5, e6, e7, e8, e9, e10], ⟨C1, q1, C2, q2, C3, q3, C4, q4, C5, q5, C6, q6, C7, q7, C8, q8⟩, ⟨t0, t9, m1, m7, m2, m3, m4, m5, m6, m8⟩, ?_⟩
    simp only [bk, List.map_cons, List.map_nil, Rows.uptoBulk, Rows.uptoBulkAll]
    omega
end
theorem rows_bulk (l : List (List Int)) : (rows l).length = 8 * (l.map (fun r => r.length + 1)).sum := by
  induction l with
  | nil => rfl
  | cons r l ih => rw [rows_cons, List.length_append, row_length, ih, List.map_cons, List.sum_cons]; omega
theorem sum_const {α : Type} (k : Nat) (l : List α) : (l.map (fun _ => k)).sum = k * l.length := by
  induction l with
  | nil => rfl
  | cons x l ih => rw [List.map_cons, List.sum_cons, List.length_cons, ih, Nat.mul_succ]; omega
theorem mem_sum (l : List (List Int)) (r : List Int) (h : r ∈ l) : r.length + 1 ≤ (l.map (fun r => r.length + 1)).sum := by
  induction l with
  | nil => cases h
  | cons x l ih =>
    rw [List.map_cons, List.sum_cons]
    cases List.mem_cons.1 h with
    | inl e => subst e; omega
    | inr e => have := ih e; omega
theorem len_sum (l : List (List Int)) : l.length ≤ (l.map (fun r => r.length + 1)).sum := by
  induction l with
  | nil => exact Nat.zero_le _
  | cons x l ih => rw [List.map_cons, List.sum_cons, List.length_cons]; omega
/-- How many bytes a state has. -/
theorem sbytes_bulk (s : St) : (sbytes s).length ≤ 8 * bk s + 80 := by
  rw [sbytes_eq]
  simp only [List.length_append, rows_bulk, row_length, hdr, List.length_cons, List.length_nil, List.map_map, Function.comp_def, aN, pN, sum_const, bk]
  omega
theorem bd_bulk {s : St} {M : Nat} (h : bk s ≤ M) : s.Bd M := by
  unfold bk at h
  rw [sum_const, sum_const] at h
  have h2 := len_sum s.bil; have h4 := len_sum s.pos; have h6 := len_sum s.holds
  exact ⟨by omega, by omega, fun r hr => by have := mem_sum _ r hr; omega, by omega, by omega, fun r hr => by have := mem_sum _ r hr; omega, by omega, by omega, fun r hr => by have := mem_sum _ r hr; omega, by omega, by omega⟩
theorem small0 {H : Type} {d : DataW H} {r : List (DataW H)} (h : Rows.uptoSmall H (d :: r) = true) : Rows.uptoBulk d ≤ 1048576 := by
  have h : Rows.uptoBulkAll (d :: r) ≤ 1048576 := of_decide_eq_true h
  simp only [Rows.uptoBulkAll] at h
  omega
theorem val_of {s : St} (h : NumS s) (hb : bk s ≤ 1048576) : ValS s := ⟨h.tick, h.total, h.accts, h.pays, h.bil, h.mul, h.pos, h.prices, h.holds, h.ids, bd_bulk (by omega)⟩
end Go.Proofs.Ytpcfceodbemooaa.B
