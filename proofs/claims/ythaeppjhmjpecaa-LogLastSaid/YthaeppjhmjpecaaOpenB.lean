/- A slice of girolaw6's acts that came in: a row of tuples that is read. -/
import Derived.Test.YthaeppjhmjpecaaOpenA
namespace Go.Proofs.Ythaeppjhmjpecaa.B
open Go.ChangeShapes Go.WideShapes Go.RowKit Go.Joins Go.Proofs.YthaeppjhmjpecaaW.PrintWords
theorem four6 {cs : List Value} (h : cs.length = 4) : ∃ c0 c1 c2 c3, cs = [c0, c1, c2, c3] := by
  match cs, h with
  | [c0, c1, c2, c3], _ => exact ⟨c0, c1, c2, c3, rfl⟩
/-- An act: its kind, bytes, crash. -/
structure Act6 where
  k : Int
  b : List Int
  t : Int
  kp : Int
/-- Four cells that hold an act. -/
def Act6K (w : World) (r : Act6) (cs : List Value) : Prop := ∃ A cc, cs = [.int .i64 r.k, .slice A r.b.length cc, .int .i64 r.t, .int .i64 r.kp] ∧ r.b.length ≤ cc ∧ Kd.C (Kd.int .u8) w A r.b.length r.b ∧ IsB r.b ∧ I64 r.k ∧ I64 r.t ∧ I64 r.kp
/-- A row of acts. -/
def Acts6C (w : World) (A : Option Addr) (l : List Act6) : Prop := 0 < l.length → ∃ ad, A = some ad ∧ ∀ i r, l[i]? = some r → ∃ cs, Act6K w r cs ∧ ∀ j u, cs[j]? = some u → w.cell? ((ad.add (i * 4)).add j) = some u
section
variable {H : Type} {enc : TypeId × Value → H} {W : World} {base : Nat} {held : Bool}
theorem open_act6 {fuel : Nat} {cs : List Value} {x : DataW H × List MemPlace} (h : DataW.trod enc Try.prog W base (fun _ => true) held fuel 74 cs = some x) : ∃ r, Act6K W r cs := by
  obtain ⟨xs, n, rfl, _, hcl, hl, hf⟩ := DataW.trod_struct Try.underlying74 h
  obtain ⟨c0, c1, c2, c3, rfl⟩ := four6 (hcl.trans (by kernel_rfl))
  have h0 : DataW.trod enc Try.prog W base (fun _ => true) held n 3 (([c0, c1, c2, c3].drop 0).take (Try.prog.cellsOf 3)) = xs[0]? := hf 0 _ rfl
  have h2 : DataW.trod enc Try.prog W base (fun _ => true) held n 22 (([c0, c1, c2, c3].drop 1).take (Try.prog.cellsOf 22)) = xs[1]? := hf 1 _ rfl
  have h3 : DataW.trod enc Try.prog W base (fun _ => true) held n 32 (([c0, c1, c2, c3].drop 2).take (Try.prog.cellsOf 32)) = xs[2]? := hf 2 _ rfl
  rw [show Try.prog.cellsOf 3 = 1 by kernel_rfl] at h0
  rw [show Try.prog.cellsOf 22 = 1 by kernel_rfl] at h2
  rw [show Try.prog.cellsOf 32 = 2 by kernel_rfl] at h3
  match xs, hl with
  | [y0, y2, y3], _ =>
    obtain ⟨k, e0, b0⟩ := int_cell (c := c0) Try.underlying3 h0
    obtain ⟨A, cc, b, e2, hc, hb, hC⟩ := bytes_cell (c := c1) h2
    obtain ⟨t, kp, e3, e4, b3, b4⟩ := open_crash (c0 := c2) (c1 := c3) h3
    exact ⟨⟨k, b, t, kp⟩, A, cc, by rw [e0, e2, e3, e4], hc, hC, hb, b0, b3, b4⟩
theorem open_acts6 {fuel : Nat} {a : Option Addr} {len cap : Nat} {x : DataW H × List MemPlace} (h : DataW.trod enc Try.prog W base (fun _ => true) held fuel 72 (Value.slice a len cap).cells.toList = some x) :
    ∃ l : List Act6, l.length = len ∧ len ≤ cap ∧ Acts6C W a l := by
  rcases DataW.trod_slice Try.underlying72 h with ⟨hcs, _⟩ | ⟨ad, ln, cp, elems, rest, n, _, hcs, _, hb, hl, hm, hlen, hel, _, _⟩
  · simp [Value.cells] at hcs
    obtain ⟨rfl, rfl, rfl⟩ := hcs
    exact ⟨[], rfl, Nat.le_refl _, fun h => absurd h (Nat.lt_irrefl 0)⟩
  · simp [Value.cells] at hcs
    obtain ⟨rfl, rfl, rfl⟩ := hcs
    rw [show Try.prog.cellsOf 74 = 4 by kernel_rfl] at hel
    obtain ⟨l, hll, hx⟩ := exists_list (P := fun i r => ∃ cs, Act6K W r cs ∧ ∀ j u, cs[j]? = some u → W.cell? ((ad.add (i * 4)).add j) = some u) len (fun i hi => by
      have h1 := hel i hi
      rw [List.getElem?_eq_getElem (by omega)] at h1
      obtain ⟨cs, hc, hd⟩ := Option.bind_eq_some_iff.1 h1
      obtain ⟨r, hr⟩ := open_act6 hd
      refine ⟨r, cs, hr, fun j u hu => ?_⟩
      obtain ⟨_, hn, hcell⟩ := World.cells?_some hc
      have hj := (List.getElem?_eq_some_iff.1 hu).1
      rw [hcell j (by omega)]
      exact hu)
    exact ⟨l, hll, hl, fun _ => ⟨ad, rfl, hx⟩⟩
end
end Go.Proofs.Ythaeppjhmjpecaa.B
