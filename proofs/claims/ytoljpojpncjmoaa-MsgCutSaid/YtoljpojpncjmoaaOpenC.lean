/- A command handed in by value: its eight numbers. -/
import Derived.Test.YtoljpojpncjmoaaOpen
import Derived.Lib.SmallJoins
namespace Go.Proofs.Ytoljpojpncjmoaa.B
open Go.ChangeShapes Go.WideShapes Go.RowKit Go.Joins

theorem mapM_at {α β : Type} {f : α → Option β} : ∀ {L : List α} {ys : List β}, L.mapM f = some ys → ∀ x ∈ L, ∃ y, f x = some y
  | [], _, _, x, hx => by cases hx
  | a :: L, ys, h, x, hx => by
    rw [List.mapM_cons] at h
    simp only [bind, Option.bind_eq_some_iff, pure, Option.some.injEq] at h
    obtain ⟨y, hy, zs, hz, _⟩ := h
    rcases List.mem_cons.1 hx with rfl | hx
    · exact ⟨y, hy⟩
    · exact mapM_at hz x hx
theorem arr8 {α : Type} {cs : Array α} (h : cs.size = 8) : ∃ c0 c1 c2 c3 c4 c5 c6 c7, cs = #[c0, c1, c2, c3, c4, c5, c6, c7] := by
  obtain ⟨l⟩ := cs
  match l, h with
  | [c0, c1, c2, c3, c4, c5, c6, c7], _ => exact ⟨c0, c1, c2, c3, c4, c5, c6, c7, rfl⟩
theorem wf64 {x : Int} (h : (Lit.int .i64 x).wf = true) : -9223372036854775808 ≤ x ∧ x < 9223372036854775808 := by
  simp [Lit.wf, IntKind.min, IntKind.max, IntKind.bits, IntKind.signed] at h
  omega
def I64 (x : Int) : Prop := -9223372036854775808 ≤ x ∧ x < 9223372036854775808
section
variable {H : Type} {enc : TypeId × Value → H} {W : World} {base : Nat} {sp : Nat → Bool} {held : Bool}
theorem int_cell {t : TypeId} {fuel : Nat} {c : Value} {x : DataW H × List MemPlace} (ht : Try.prog.underlying t = some (.int .i64)) (h : DataW.trod enc Try.prog W base sp held fuel t [c] = some x) : ∃ n, c = .int .i64 n ∧ I64 n := by
  obtain ⟨n, e, _, hw⟩ := DataW.trod_int ht h
  exact ⟨n, by simpa using e, wf64 hw⟩
theorem open_arr6 {fuel : Nat} {c0 c1 c2 c3 c4 c5 : Value} {x : DataW H × List MemPlace} (h : DataW.trod enc Try.prog W base sp held fuel 52 [c0, c1, c2, c3, c4, c5] = some x) :
    ∃ p0 p1 p2 p3 p4 p5, [c0, c1, c2, c3, c4, c5] = [Value.int .i64 p0, .int .i64 p1, .int .i64 p2, .int .i64 p3, .int .i64 p4, .int .i64 p5] ∧ I64 p0 ∧ I64 p1 ∧ I64 p2 ∧ I64 p3 ∧ I64 p4 ∧ I64 p5 := by
  cases fuel with
  | zero => simp [DataW.trod] at h
  | succ m =>
    rw [DataW.trod_step] at h
    unfold DataW.trodStep at h
    simp only [Try.underlying52] at h
    split at h
    · simp only [Option.map_eq_some_iff] at h
      obtain ⟨ys, hy, _⟩ := h
      have hc : Try.prog.cellsOf 2 = 1 := by kernel_rfl
      rw [hc] at hy
      have g : ∀ i (hi : i < 6), ∃ n, ([c0, c1, c2, c3, c4, c5] : List Value)[i]'(by simpa using hi) = .int .i64 n ∧ I64 n := fun i hi => by
        obtain ⟨y, hyy⟩ := mapM_at hy i (List.mem_range.2 hi)
        refine int_cell (enc := enc) (W := W) (base := base) (sp := sp) (held := held) (fuel := m) (x := y) Try.underlying2 ?_
        rw [← hyy]
        congr 1
        match i, hi with
        | 0, _ => rfl
        | 1, _ => rfl
        | 2, _ => rfl
        | 3, _ => rfl
        | 4, _ => rfl
        | 5, _ => rfl
      obtain ⟨p0, e0, b0⟩ := g 0 (by omega)
      obtain ⟨p1, e1, b1⟩ := g 1 (by omega)
      obtain ⟨p2, e2, b2⟩ := g 2 (by omega)
      obtain ⟨p3, e3, b3⟩ := g 3 (by omega)
      obtain ⟨p4, e4, b4⟩ := g 4 (by omega)
      obtain ⟨p5, e5, b5⟩ := g 5 (by omega)
      simp only [List.getElem_cons_zero, List.getElem_cons_succ] at e0 e1 e2 e3 e4 e5
      exact ⟨p0, p1, p2, p3, p4, p5, by rw [e0, e1, e2, e3, e4, e5], b0, b1, b2, b3, b4, b5⟩
    · cases h
theorem open_msg {fuel : Nat} {c c0 c1 c2 c3 c4 c5 : Value} {x : DataW H × List MemPlace} (h : DataW.trod enc Try.prog W base sp held fuel 54 [c, c0, c1, c2, c3, c4, c5] = some x) :
    ∃ k p0 p1 p2 p3 p4 p5, [c, c0, c1, c2, c3, c4, c5] = [Value.int .i64 k, .int .i64 p0, .int .i64 p1, .int .i64 p2, .int .i64 p3, .int .i64 p4, .int .i64 p5] ∧ I64 k ∧ I64 p0 ∧ I64 p1 ∧ I64 p2 ∧ I64 p3 ∧ I64 p4 ∧ I64 p5 := by
  obtain ⟨xs, n, rfl, _, _, hl, hf⟩ := DataW.trod_struct Try.underlying54 h
  have h0 : DataW.trod enc Try.prog W base sp held n 3 (([c, c0, c1, c2, c3, c4, c5].drop 0).take (Try.prog.cellsOf 3)) = xs[0]? := hf 0 _ rfl
  have h1 : DataW.trod enc Try.prog W base sp held n 52 (([c, c0, c1, c2, c3, c4, c5].drop 1).take (Try.prog.cellsOf 52)) = xs[1]? := hf 1 _ rfl
  rw [show Try.prog.cellsOf 3 = 1 by kernel_rfl] at h0
  rw [show Try.prog.cellsOf 52 = 6 by kernel_rfl] at h1
  match xs, hl with
  | [y0, y1], _ =>
    obtain ⟨k, e, b⟩ := int_cell (c := c) Try.underlying3 h0
    obtain ⟨p0, p1, p2, p3, p4, p5, e', b'⟩ := open_arr6 (c0 := c0) (c1 := c1) (c2 := c2) (c3 := c3) (c4 := c4) (c5 := c5) h1
    exact ⟨k, p0, p1, p2, p3, p4, p5, by rw [e, e'], b, b'⟩
theorem open_cmd {r : Reach} {b0 : Nat} {v : Value} {d : DataW H} {p : List MemPlace} (hv : Value.okWide Try.prog W r b0 63 v) (h : DataW.Trod enc Try.prog W base sp held 63 v d p) :
    ∃ who k p0 p1 p2 p3 p4 p5, v = .agg #[Value.int .i64 who, .int .i64 k, .int .i64 p0, .int .i64 p1, .int .i64 p2, .int .i64 p3, .int .i64 p4, .int .i64 p5] ∧ I64 who ∧ I64 k ∧ I64 p0 ∧ I64 p1 ∧ I64 p2 ∧ I64 p3 ∧ I64 p4 ∧ I64 p5 := by
  obtain ⟨cs, rfl, hsz⟩ := okWide_struct Try.underlying63 hv
  obtain ⟨c0, c1, c2, c3, c4, c5, c6, c7, rfl⟩ := arr8 (hsz.trans (by kernel_rfl))
  obtain ⟨fuel, hf⟩ := h
  obtain ⟨xs, n, rfl, _, _, hl, hg⟩ := DataW.trod_struct Try.underlying63 hf
  have h0 : DataW.trod enc Try.prog W base sp held n 3 (([c0, c1, c2, c3, c4, c5, c6, c7].drop 0).take (Try.prog.cellsOf 3)) = xs[0]? := hg 0 _ rfl
  have h1 : DataW.trod enc Try.prog W base sp held n 54 (([c0, c1, c2, c3, c4, c5, c6, c7].drop 1).take (Try.prog.cellsOf 54)) = xs[1]? := hg 1 _ rfl
  rw [show Try.prog.cellsOf 3 = 1 by kernel_rfl] at h0
  rw [show Try.prog.cellsOf 54 = 7 by kernel_rfl] at h1
  match xs, hl with
  | [y0, y1], _ =>
    obtain ⟨who, e, b⟩ := int_cell (c := c0) Try.underlying3 h0
    obtain ⟨k, p0, p1, p2, p3, p4, p5, e', b'⟩ := open_msg (c := c1) (c0 := c2) (c1 := c3) (c2 := c4) (c3 := c5) (c4 := c6) (c5 := c7) h1
    simp only [List.cons.injEq, and_true] at e'
    obtain ⟨q0, q1, q2, q3, q4, q5, q6⟩ := e'
    exact ⟨who, k, p0, p1, p2, p3, p4, p5, by rw [e, q0, q1, q2, q3, q4, q5, q6], b, b'⟩
end
theorem IsN6 {a b c d e f : Int} (h0 : I64 a) (h1 : I64 b) (h2 : I64 c) (h3 : I64 d) (h4 : I64 e) (h5 : I64 f) : IsN [a, b, c, d, e, f] := by
  intro x hx
  simp only [List.mem_cons, List.not_mem_nil, or_false] at hx
  rcases hx with rfl | rfl | rfl | rfl | rfl | rfl
  · exact h0
  · exact h1
  · exact h2
  · exact h3
  · exact h4
  · exact h5
end Go.Proofs.Ytoljpojpncjmoaa.B
