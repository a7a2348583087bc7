/- Records: what the printed walks of rec.Put, rec.Scan and the reference's compute, as plain lists; their contracts. -/
import Derived.Test.YtoljpojpncjmoaaB2
import Derived.Test.YtoljpojpncjmoaaRec1
import Derived.Test.YtoljpojpncjmoaaQRec
namespace Go.Proofs.Ytoljpojpncjmoaa.B
open Go.RowKit Go.Proofs.YtoljpojpncjmoaaW.PrintWords Go.Proofs.YtoljpojpncjmoaaW.PrintLast Go.Proofs.YtoljpojpncjmoaaW.PrintMore
attribute [local go_sem] max2_int min2_int max_two min_two max_three min_three max_four min_four
set_option linter.unusedVariables false
set_option linter.unusedSimpArgs false

/-- Bytes as a record; too many: nothing. -/
def recp (l : List Int) : List Int := if l.length ≤ 60000 then [((l.length / 256 : Nat) : Int), ((l.length % 256 : Nat) : Int)] ++ l else []
def recok (l : List Int) : Bool := decide (l.length ≤ 60000)
theorem recp_yes {l : List Int} (h : l.length ≤ 60000) : recp l = [((l.length / 256 : Nat) : Int), ((l.length % 256 : Nat) : Int)] ++ l := if_pos h
theorem recp_no {l : List Int} (h : ¬ l.length ≤ 60000) : recp l = [] := if_neg h
theorem recp_length {l : List Int} (h : l.length ≤ 60000) : (recp l).length = 2 + l.length := by rw [recp_yes h, List.length_append]; rfl
theorem recp_bytes {l : List Int} (h : IsB l) : IsB (recp l) := by
  unfold recp
  split
  · refine IsB.append (fun x hx => ?_) h
    simp only [List.mem_cons, List.not_mem_nil, or_false] at hx
    rcases hx with rfl | rfl <;> omega
  · exact IsB.nil
/-- What whole records hold, and how many bytes are left; a: those ahead. -/
def scanK : Nat → List Int → List (List Int) → List (List Int) × Int
  | 0, b, a => (a, b.length)
  | k + 1, b, a =>
    if b.length < 2 then (a, b.length)
    else if 60000 < rd b 0 * 256 + rd b 1 ∨ (b.length : Int) - 2 < rd b 0 * 256 + rd b 1 then (a, b.length)
    else scanK k (b.drop (2 + (rd b 0 * 256 + rd b 1).toNat)) (a ++ [(b.take (2 + (rd b 0 * 256 + rd b 1).toNat)).drop 2])
def scan (b : List Int) : List (List Int) × Int := scanK (b.length + 1) b []
theorem or16 {x y : Int} (h0 : 0 ≤ x) (h1 : x < 256) (c0 : 0 ≤ y) (c1 : y < 256) : bits .or .i64 (x * 256) y = x * 256 + y :=
  bits_join .i64 62 (by decide) (fun n a b => by rw [IntKind.wrap_i64]; omega) 8 (x * 256) y (by omega) (by omega) (by omega) c0 (by omega) (by omega)
theorem w64 {x : Int} (h0 : -9223372036854775808 ≤ x) (h1 : x < 9223372036854775808) : wrap64 x = x := by unfold wrap64; omega
theorem put_f (l : List Int) (hl : l.length ≤ 140737488351232) : rec_Put.f l = some (recp l, recok l) := by
  unfold rec_Put.f recok
  by_cases h : l.length ≤ 60000
  · rw [if_neg (by omega), recp_yes h, decide_eq_true h]
    simp only [Option.bind_some]
    rw [if_pos (by simp; omega)]
    congr 4
    omega
  · rw [if_pos (by omega), recp_no h, decide_eq_false h]
theorem put5_f (l : List Int) (hl : l.length ≤ 140737488351232) : giroref5_Put.f l = some (recp l, recok l) := by
  unfold giroref5_Put.f recok
  by_cases h : l.length ≤ 60000
  · rw [if_neg (by omega), recp_yes h, decide_eq_true h, w64 (by omega) (by omega)]
    simp only [Option.bind_some]
    rw [if_pos (by simp; omega)]
    congr 4
    omega
  · rw [if_pos (by omega), recp_no h, decide_eq_false h]
theorem scan_l0 (k : Nat) : ∀ (b : List Int) (a : List (List Int)), b.length < k → IsB b → b.length + a.length ≤ 1000000 → rec_Scan.l0 k b a = some (scanK k b a) := by
  induction k with
  | zero => intro b a h; omega
  | succ k ih =>
    intro b a hk hb hl
    have h0 := hb.rd 0
    have h1 := hb.rd 1
    simp only [rec_Scan.l0, scanK]
    by_cases h2 : b.length < 2
    · rw [if_neg (by omega), if_pos h2]
    · rw [if_pos (by omega), if_pos (by omega), if_pos (by omega), if_neg h2, w64 (x := rd b 0) (by omega) (by omega), w64 (x := rd b 0 * 256) (by omega) (by omega), w64 (x := rd b 1) (by omega) (by omega), or16 h0.1 h0.2 h1.1 h1.2]
      have hn0 : 0 ≤ rd b 0 * 256 + rd b 1 := by omega
      generalize rd b 0 * 256 + rd b 1 = n at *
      by_cases hbig : 60000 < n
      · rw [if_pos (by omega), if_pos (Or.inl hbig)]
      · rw [if_neg (by omega), w64 (x := (b.length : Int) - 2) (by omega) (by omega)]
        by_cases hov : (b.length : Int) - 2 < n
        · rw [if_pos (by omega), if_pos (Or.inr hov)]
        · rw [if_neg (by omega), if_neg (by omega)]
          simp only [Option.bind_some]
          rw [w64 (x := 2 + n) (by omega) (by omega), if_pos (by omega), if_pos (by omega)]
          have e : (2 + n).toNat = 2 + n.toNat := by omega
          have hlen : ((b.take (2 + n.toNat)).drop 2).length = n.toNat := by rw [List.length_drop, List.length_take]; omega
          rw [e, if_pos (by rw [hlen]; simp; omega), if_pos (by omega), if_pos (by omega), List.nil_append]
          exact ih _ _ (by rw [List.length_drop]; omega) (hb.drop _) (by rw [List.length_drop, List.length_append, List.length_singleton]; omega)
theorem scan5_l0 (k : Nat) : ∀ (b : List Int) (a : List (List Int)), b.length < k → IsB b → b.length + a.length ≤ 1000000 → giroref5_Scan.l0 k b a = some (scanK k b a) := by
  induction k with
  | zero => intro b a h; omega
  | succ k ih =>
    intro b a hk hb hl
    have h0 := hb.rd 0
    have h1 := hb.rd 1
    simp only [giroref5_Scan.l0, scanK]
    by_cases h2 : b.length < 2
    · rw [if_neg (by omega), if_pos h2]
    · rw [if_pos (by omega), if_pos (by omega), if_pos (by omega), if_neg h2, w64 (x := rd b 0) (by omega) (by omega), w64 (x := rd b 0 * 256) (by omega) (by omega), w64 (x := rd b 1) (by omega) (by omega), w64 (x := rd b 0 * 256 + rd b 1) (by omega) (by omega)]
      have hn0 : 0 ≤ rd b 0 * 256 + rd b 1 := by omega
      generalize rd b 0 * 256 + rd b 1 = n at *
      by_cases hbig : 60000 < n
      · rw [if_pos (by omega), if_pos (Or.inl hbig)]
      · rw [if_neg (by omega), w64 (x := (b.length : Int) - 2) (by omega) (by omega)]
        by_cases hov : (b.length : Int) - 2 < n
        · rw [if_pos (by omega), if_pos (Or.inr hov)]
        · rw [if_neg (by omega), if_neg (by omega)]
          simp only [Option.bind_some]
          rw [w64 (x := 2 + n) (by omega) (by omega), if_pos (by omega), if_pos (by omega)]
          have e : (2 + n).toNat = 2 + n.toNat := by omega
          have hlen : ((b.take (2 + n.toNat)).drop 2).length = n.toNat := by rw [List.length_drop, List.length_take]; omega
          rw [e, if_pos (by rw [hlen]; simp; omega), if_pos (by omega), if_pos (by omega), List.nil_append]
          exact ih _ _ (by rw [List.length_drop]; omega) (hb.drop _) (by rw [List.length_drop, List.length_append, List.length_singleton]; omega)

theorem scanK_facts (k : Nat) : ∀ (b : List Int) (a : List (List Int)), IsB b → IsBs a → IsBs (scanK k b a).1 ∧ (scanK k b a).1.length ≤ a.length + b.length ∧ 0 ≤ (scanK k b a).2 ∧ (scanK k b a).2 ≤ b.length := by
  induction k with
  | zero => intro b a hb ha; exact ⟨ha, by show a.length ≤ _; omega, by show (0 : Int) ≤ b.length; omega, by show (b.length : Int) ≤ b.length; omega⟩
  | succ k ih =>
    intro b a hb ha
    simp only [scanK]
    by_cases h2 : b.length < 2
    · rw [if_pos h2]
      exact ⟨ha, by show a.length ≤ _; omega, by show (0 : Int) ≤ b.length; omega, by show (b.length : Int) ≤ b.length; omega⟩
    · rw [if_neg h2]
      split
      · exact ⟨ha, by show a.length ≤ _; omega, by show (0 : Int) ≤ b.length; omega, by show (b.length : Int) ≤ b.length; omega⟩
      · obtain ⟨h1, h3, h4, h5⟩ := ih (b.drop (2 + (rd b 0 * 256 + rd b 1).toNat)) (a ++ [(b.take (2 + (rd b 0 * 256 + rd b 1).toNat)).drop 2]) (hb.drop _) (ha.append (IsBs.one ((hb.take _).drop _)))
        rw [List.length_append, List.length_singleton, List.length_drop] at h3
        rw [List.length_drop] at h5
        exact ⟨h1, by omega, h4, by omega⟩
theorem scan_facts {b : List Int} (hb : IsB b) (hl : b.length ≤ 1000000) : (scan b).1.length ≤ 1000000 ∧ IsBs (scan b).1 := by
  obtain ⟨h1, h2, _, _⟩ := scanK_facts (b.length + 1) b [] hb IsBs.nil
  exact ⟨by have h3 : (scan b).1.length ≤ ([] : List (List Int)).length + b.length := h2
            simp at h3
            omega, h1⟩
theorem rput (A : Option Addr) (c : Nat) (l : List Int) (w : World) (hr : Kd.C (Kd.int .u8) w A l.length l) (hc : l.length ≤ c) (hl : l.length ≤ 140737488351232) :
    Calls Try.prog 19 #[.slice A l.length c] w fun e w' => ∃ v : Value, e = .returned (.tuple #[v, .bool (recok l)]) ∧ Kd.R (Kd.int .u8) 5 w' w.heap.size (fun _ => True) v (recp l) ∧ Below w.heap.size w w' :=
  rec_Put.calls A c l _ _ w hr hc (put_f l hl)
theorem rput5 (A : Option Addr) (c : Nat) (l : List Int) (w : World) (hr : Kd.C (Kd.int .u8) w A l.length l) (hc : l.length ≤ c) (hl : l.length ≤ 140737488351232) :
    Calls Try.prog 20 #[.slice A l.length c] w fun e w' => ∃ v : Value, e = .returned (.tuple #[v, .bool (recok l)]) ∧ Kd.R (Kd.int .u8) 5 w' w.heap.size (fun _ => True) v (recp l) ∧ Below w.heap.size w w' :=
  giroref5_Put.calls A c l _ _ w hr hc (put5_f l hl)
theorem F_C {enc : Int → Value} {h1 : ∀ x, (enc x).oneCell' = true} {w : World} {A : Option Addr} {n : Nat} {xs : List Int} (h : (Kd.scalar enc h1).C w A n xs) : Kd.F (Kd.scalar enc h1) w (fun _ => True) A n xs := by
  intro w' hw
  obtain ⟨a, b, c⟩ := h
  refine ⟨a, b, fun hp => ?_⟩
  obtain ⟨ad, rfl, hc⟩ := c hp
  refine ⟨ad, rfl, fun j p hj => ?_⟩
  obtain ⟨cs, hl, hr, hcell⟩ := hc j p hj
  exact ⟨cs, hl, hr, fun i u hu => Kd.cell_heap (fun k hk => hw k trivial hk) (hcell i u hu)⟩
theorem rscan (A : Option Addr) (c : Nat) (b : List Int) (w : World) (hr : Kd.C (Kd.int .u8) w A b.length b) (hc : b.length ≤ c) (hb : IsB b) (hl : b.length ≤ 1000000) :
    Calls Try.prog 21 #[.slice A b.length c] w fun e w' => ∃ v : Value, e = .returned (.tuple #[v, .int .i64 (scan b).2]) ∧ Kd.S (Kd.slice 5 (Kd.int .u8)) 22 w' w.heap.size (fun k => w.heap.size ≤ k) v (scan b).1 ∧ Below w.heap.size w w' :=
  rec_Scan.calls (b.length + 1) (fun _ => True) A c b _ _ w (Kd.V_mk hc (F_C hr)) (scan_l0 (b.length + 1) b [] (by omega) hb (by simpa using hl))
theorem rscan5 (A : Option Addr) (c : Nat) (b : List Int) (w : World) (hr : Kd.C (Kd.int .u8) w A b.length b) (hc : b.length ≤ c) (hb : IsB b) (hl : b.length ≤ 1000000) :
    Calls Try.prog 22 #[.slice A b.length c] w fun e w' => ∃ v : Value, e = .returned (.tuple #[v, .int .i64 (scan b).2]) ∧ Kd.S (Kd.slice 5 (Kd.int .u8)) 22 w' w.heap.size (fun k => w.heap.size ≤ k) v (scan b).1 ∧ Below w.heap.size w w' :=
  giroref5_Scan.calls (b.length + 1) (fun _ => True) A c b _ _ w (Kd.V_mk hc (F_C hr)) (scan5_l0 (b.length + 1) b [] (by omega) hb (by simpa using hl))
end Go.Proofs.Ytoljpojpncjmoaa.B
