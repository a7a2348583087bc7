/- A slice of girolaw4's acts that came in: a row of tuples that is read. -/
import Derived.Test.YthaeppjhmjpecaaOpen
import Derived.Lib.SmallJoins
namespace Go.Proofs.Ythaeppjhmjpecaa.B
open Go.ChangeShapes Go.WideShapes Go.RowKit Go.Joins Go.Proofs.YthaeppjhmjpecaaW.PrintWords

theorem exists_list {α : Type} {P : Nat → α → Prop} : ∀ n : Nat, (∀ i, i < n → ∃ x, P i x) → ∃ xs : List α, xs.length = n ∧ ∀ i x, xs[i]? = some x → P i x
  | 0, _ => ⟨[], rfl, fun i x h => by simp at h⟩
  | n + 1, h => by
    obtain ⟨xs, hl, hx⟩ := exists_list n (fun i hi => h i (by omega))
    obtain ⟨y, hy⟩ := h n (by omega)
    refine ⟨xs ++ [y], by simp [hl], fun i x hi => ?_⟩
    rcases Nat.lt_or_ge i xs.length with hlt | hge
    · rw [List.getElem?_append_left hlt] at hi
      exact hx i x hi
    · have : i = n := by
        have := (List.getElem?_eq_some_iff.1 hi).1
        simp at this
        omega
      subst this
      rw [← hl, List.getElem?_concat_length] at hi
      cases hi
      exact hy
theorem five {cs : List Value} (h : cs.length = 5) : ∃ c0 c1 c2 c3 c4, cs = [c0, c1, c2, c3, c4] := by
  match cs, h with
  | [c0, c1, c2, c3, c4], _ => exact ⟨c0, c1, c2, c3, c4, rfl⟩
theorem wf64 {x : Int} (h : (Lit.int .i64 x).wf = true) : -9223372036854775808 ≤ x ∧ x < 9223372036854775808 := by
  simp [Lit.wf, IntKind.min, IntKind.max, IntKind.bits, IntKind.signed] at h
  omega
theorem wf8 {x : Int} (h : (Lit.int .u8 x).wf = true) : 0 ≤ x ∧ x < 256 := by
  simp [Lit.wf, IntKind.min, IntKind.max, IntKind.bits, IntKind.signed] at h
  omega
def I64 (x : Int) : Prop := -9223372036854775808 ≤ x ∧ x < 9223372036854775808
section
variable {H : Type} {enc : TypeId × Value → H} {W : World} {base : Nat} {held : Bool}
theorem int_cell {sp : Nat → Bool} {t : TypeId} {fuel : Nat} {c : Value} {x : DataW H × List MemPlace} (ht : Try.prog.underlying t = some (.int .i64)) (h : DataW.trod enc Try.prog W base sp held fuel t [c] = some x) : ∃ n, c = .int .i64 n ∧ I64 n := by
  obtain ⟨n, e, _, hw⟩ := DataW.trod_int ht h
  exact ⟨n, by simpa using e, wf64 hw⟩
/-- A slice of bytes in a cell. -/
theorem bytes_cell {fuel : Nat} {c : Value} {x : DataW H × List MemPlace} (h : DataW.trod enc Try.prog W base (fun _ => true) held fuel 22 [c] = some x) : ∃ A cc, ∃ b : List Int, c = .slice A b.length cc ∧ b.length ≤ cc ∧ IsB b ∧ Kd.C (Kd.int .u8) W A b.length b := by
  rcases open_ints Try.underlying22 Try.underlying5 (by kernel_rfl) h with ⟨hcs, _⟩ | ⟨a, l, cp, zs, hcs, _, hl, hm, hz, _, hcell, hwz⟩
  · exact ⟨none, 0, [], by simpa using hcs, Nat.le_refl _, IsB.nil, Kd.C_nil _ _⟩
  · have hz' : zs.length = cp := by simpa using hz
    refine ⟨some a, cp, zs.take l, ?_, ?_, fun y hy => wf8 (hwz y (List.mem_of_mem_take hy)), ?_⟩
    · rw [List.length_take, Nat.min_eq_left (by omega)]
      simpa using hcs
    · rw [List.length_take]; omega
    · refine ⟨rfl, by rw [List.length_take]; unfold maxLen at hm; omega, fun _ => ⟨a, rfl, fun j p hj => ⟨[.int .u8 p], rfl, rfl, fun i u hu => ?_⟩⟩⟩
      obtain ⟨hjl, rfl⟩ := List.getElem?_eq_some_iff.1 hj
      match i, hu with
      | 0, hu =>
        have hu' : Value.int .u8 ((zs.take l)[j]'hjl) = u := by simpa using hu
        subst hu'
        rw [List.length_take] at hjl
        show W.cell? (a.add (j * 1 + 0)) = _
        rw [Nat.mul_one, Nat.add_zero, hcell j (by omega), List.getElem_take, List.getD_eq_getElem?_getD, List.getElem?_eq_getElem (by omega)]
        rfl
      | i + 1, hu => simp at hu
/-- An act: its kind, side, bytes, crash. -/
structure ActR where
  k : Int
  s : Int
  b : List Int
  t : Int
  kp : Int
theorem open_crash {sp : Nat → Bool} {fuel : Nat} {c0 c1 : Value} {x : DataW H × List MemPlace} (h : DataW.trod enc Try.prog W base sp held fuel 32 [c0, c1] = some x) : ∃ p q, c0 = .int .i64 p ∧ c1 = .int .i64 q ∧ I64 p ∧ I64 q := by
  obtain ⟨xs, n, rfl, _, _, hl, hf⟩ := DataW.trod_struct Try.underlying32 h
  have h0 : DataW.trod enc Try.prog W base sp held n 3 (([c0, c1].drop 0).take (Try.prog.cellsOf 3)) = xs[0]? := hf 0 _ rfl
  have h1 : DataW.trod enc Try.prog W base sp held n 3 (([c0, c1].drop 1).take (Try.prog.cellsOf 3)) = xs[1]? := hf 1 _ rfl
  rw [show Try.prog.cellsOf 3 = 1 by kernel_rfl] at h0 h1
  match xs, hl with
  | [y0, y1], _ =>
    obtain ⟨p, e, b⟩ := int_cell (c := c0) Try.underlying3 h0
    obtain ⟨q, e', b'⟩ := int_cell (c := c1) Try.underlying3 h1
    exact ⟨p, q, e, e', b, b'⟩
/-- Five cells that hold an act. -/
def ActK (w : World) (r : ActR) (cs : List Value) : Prop := ∃ A cc, cs = [.int .i64 r.k, .int .i64 r.s, .slice A r.b.length cc, .int .i64 r.t, .int .i64 r.kp] ∧ r.b.length ≤ cc ∧ Kd.C (Kd.int .u8) w A r.b.length r.b ∧ IsB r.b ∧ I64 r.k ∧ I64 r.s ∧ I64 r.t ∧ I64 r.kp
theorem open_act {fuel : Nat} {cs : List Value} {x : DataW H × List MemPlace} (h : DataW.trod enc Try.prog W base (fun _ => true) held fuel 44 cs = some x) : ∃ r, ActK W r cs := by
  obtain ⟨xs, n, rfl, _, hcl, hl, hf⟩ := DataW.trod_struct Try.underlying44 h
  obtain ⟨c0, c1, c2, c3, c4, rfl⟩ := five (hcl.trans (by kernel_rfl))
  have h0 : DataW.trod enc Try.prog W base (fun _ => true) held n 3 (([c0, c1, c2, c3, c4].drop 0).take (Try.prog.cellsOf 3)) = xs[0]? := hf 0 _ rfl
  have h1 : DataW.trod enc Try.prog W base (fun _ => true) held n 3 (([c0, c1, c2, c3, c4].drop 1).take (Try.prog.cellsOf 3)) = xs[1]? := hf 1 _ rfl
  have h2 : DataW.trod enc Try.prog W base (fun _ => true) held n 22 (([c0, c1, c2, c3, c4].drop 2).take (Try.prog.cellsOf 22)) = xs[2]? := hf 2 _ rfl
  have h3 : DataW.trod enc Try.prog W base (fun _ => true) held n 32 (([c0, c1, c2, c3, c4].drop 3).take (Try.prog.cellsOf 32)) = xs[3]? := hf 3 _ rfl
  rw [show Try.prog.cellsOf 3 = 1 by kernel_rfl] at h0 h1
  rw [show Try.prog.cellsOf 22 = 1 by kernel_rfl] at h2
  rw [show Try.prog.cellsOf 32 = 2 by kernel_rfl] at h3
  match xs, hl with
  | [y0, y1, y2, y3], _ =>
    obtain ⟨k, e0, b0⟩ := int_cell (c := c0) Try.underlying3 h0
    obtain ⟨s, e1, b1⟩ := int_cell (c := c1) Try.underlying3 h1
    obtain ⟨A, cc, b, e2, hc, hb, hC⟩ := bytes_cell (c := c2) h2
    obtain ⟨t, kp, e3, e4, b3, b4⟩ := open_crash (c0 := c3) (c1 := c4) h3
    exact ⟨⟨k, s, b, t, kp⟩, A, cc, by rw [e0, e1, e2, e3, e4], hc, hC, hb, b0, b1, b3, b4⟩
/-- A row of acts. -/
def ActsC (w : World) (A : Option Addr) (l : List ActR) : Prop := 0 < l.length → ∃ ad, A = some ad ∧ ∀ i r, l[i]? = some r → ∃ cs, ActK w r cs ∧ ∀ j u, cs[j]? = some u → w.cell? ((ad.add (i * 5)).add j) = some u
theorem open_acts {fuel : Nat} {a : Option Addr} {len cap : Nat} {x : DataW H × List MemPlace} (h : DataW.trod enc Try.prog W base (fun _ => true) held fuel 40 (Value.slice a len cap).cells.toList = some x) :
    ∃ l : List ActR, l.length = len ∧ len ≤ cap ∧ ActsC W a l := by
  rcases DataW.trod_slice Try.underlying40 h with ⟨hcs, _⟩ | ⟨ad, ln, cp, elems, rest, n, _, hcs, _, hb, hl, hm, hlen, hel, _, _⟩
  · simp [Value.cells] at hcs
    obtain ⟨rfl, rfl, rfl⟩ := hcs
    exact ⟨[], rfl, Nat.le_refl _, fun h => absurd h (Nat.lt_irrefl 0)⟩
  · simp [Value.cells] at hcs
    obtain ⟨rfl, rfl, rfl⟩ := hcs
    rw [show Try.prog.cellsOf 44 = 5 by kernel_rfl] at hel
    obtain ⟨l, hll, hx⟩ := exists_list (P := fun i r => ∃ cs, ActK W r cs ∧ ∀ j u, cs[j]? = some u → W.cell? ((ad.add (i * 5)).add j) = some u) len (fun i hi => by
      have h1 := hel i hi
      rw [List.getElem?_eq_getElem (by omega)] at h1
      obtain ⟨cs, hc, hd⟩ := Option.bind_eq_some_iff.1 h1
      obtain ⟨r, hr⟩ := open_act hd
      refine ⟨r, cs, hr, fun j u hu => ?_⟩
      obtain ⟨_, hn, hcell⟩ := World.cells?_some hc
      have hj := (List.getElem?_eq_some_iff.1 hu).1
      rw [hcell j (by omega)]
      exact hu)
    exact ⟨l, hll, hl, fun _ => ⟨ad, rfl, hx⟩⟩
end
end Go.Proofs.Ythaeppjhmjpecaa.B
