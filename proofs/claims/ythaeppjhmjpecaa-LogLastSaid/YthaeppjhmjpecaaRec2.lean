/- Records: what the printed walks of rec.Put, rec.Scan and the reference's compute, as plain lists; their contracts. -/
import Derived.Test.YthaeppjhmjpecaaB2
import Derived.Test.YthaeppjhmjpecaaRec1
import Derived.Test.YthaeppjhmjpecaaQRec
namespace Go.Proofs.Ythaeppjhmjpecaa.B
open Go.RowKit Go.Proofs.YthaeppjhmjpecaaW.PrintWords Go.Proofs.YthaeppjhmjpecaaW.PrintLast Go.Proofs.YthaeppjhmjpecaaW.PrintMore
attribute [local go_sem] max2_int min2_int max_two min_two max_three min_three max_four min_four
set_option linter.unusedVariables false
set_option linter.unusedSimpArgs false

/-- Bytes as a record; too many: nothing. -/
def recp (l : List Int) : List Int := if l.length ≤ 60000 then [((l.length / 256 : Nat) : Int), ((l.length % 256 : Nat) : Int)] ++ l else []
def recok (l : List Int) : Bool := decide (l.length ≤ 60000)
theorem recp_yes {l : List Int} (h : l.length ≤ 60000) : recp l = [((l.length / 256 : Nat) : Int), ((l.length % 256 : Nat) : Int)] ++ l := if_pos h
theorem recp_no {l : List Int} (h : ¬ l.length ≤ 60000) : recp l = [] := if_neg h
theorem recp_length {l : List Int} (h : l.length ≤ 60000) : (recp l).length = 2 + l.length := by rw [recp_yes h, List.length_append]; rfl
theorem recp_bytes {l : List Int} (h : IsB l) : IsB (recp l) := by
  unfold recp
  split
  · refine IsB.append (fun x hx => ?_) h
    simp only [List.mem_cons, List.not_mem_nil, or_false] at hx
    rcases hx with rfl | rfl <;> omega
  · exact IsB.nil
/-- What whole records hold, and how many bytes are left; a: those ahead. -/
def scanK : Nat → List Int → List (List Int) → List (List Int) × Int
  | 0, b, a => (a, b.length)
  | k + 1, b, a =>
    if b.length < 2 then (a, b.length)
    else if 60000 < rd b 0 * 256 + rd b 1 ∨ (b.length : Int) - 2 < rd b 0 * 256 + rd b 1 then (a, b.length)
    else scanK k (b.drop (2 + (rd b 0 * 256 + rd b 1).toNat)) (a ++ [(b.take (2 + (rd b 0 * 256 + rd b 1).toNat)).drop 2])
def scan (b : List Int) : List (List Int) × Int := scanK (b.length + 1) b []
theorem or16 {x y : Int} (h0 : 0 ≤ x) (h1 : x < 256) (c0 : 0 ≤ y) (c1 : y < 256) : bits .or .i64 (x * 256) y = x * 256 + y :=
  bits_join .i64 62 (by decide) (fun n a b => by rw [IntKind.wrap_i64]; omega) 8 (x * 256) y (by omega) (by omega) (by omega) c0 (by omega) (by omega)
theorem w64 {x : Int} (h0 : -9223372036854775808 ≤ x) (h1 : x < 9223372036854775808) : wrap64 x = x := by unfold wrap64; omega
theorem put_f (l : List Int) (hl : l.length ≤ 140737488351232) : rec_Put.f l = some (recp l, recok l) := by
  unfold rec_Put.f recok
  by_cases h : l.length ≤ 60000
  · rw [if_neg (by omega), recp_yes h, decide_eq_true h]
    simp only [Option.bind_some]
    rw [if_pos (by simp; omega)]
    congr 4
    omega
  · rw [if_pos (by omega), recp_no h, decide_eq_false h]
theorem put5_f (l : List Int) (hl : l.length ≤ 140737488351232) : giroref5_Put.f l = some (recp l, recok l) := by
  unfold giroref5_Put.f recok
  by_cases h : l.length ≤ 60000
  · rw [if_neg (by omega), recp_yes h, decide_eq_true h, w64 (by omega) (by omega)]
    simp only [Option.bind_some]
    rw [if_pos (by simp; omega)]
    congr 4
    omega
  · rw [if_pos (by omega), recp_no h, decide_eq_false h]
theorem scan_l0 (k : Nat) : ∀ (b : List Int) (a : List (List Int)), b.length < k → IsB b → b.length + a.length ≤ 1000000 → rec_Scan.l0 k b a = some (scanK k b a) := by
  induction k with
  | zero => intro b a h; omega
  | succ k ih =>
    intro b a hk hb hl
    have h0 := hb.rd 0
    have h1 := hb.rd 1
    simp only [rec_Scan.l0, scanK]
    by_cases h2 : b.length < 2
    · rw [if_neg (by omega), if_pos h2]
    · rw [if_pos (by omega), if_pos (by omega), if_pos (by omega), if_neg h2, w64 (x := rd b 0) (by omega) (by omega), w64 (x := rd b 0 * 256) (by omega) (by omega), w64 (x := rd b 1) (by omega) (by omega), or16 h0.1 h0.2 h1.1 h1.2]
      have hn0 : 0 ≤ rd b 0 * 256 + rd b 1 := by omega
      generalize rd b 0 * 256 + rd b 1 = n at *
      by_cases hbig : 60000 < n
      · rw [if_pos (by omega), if_pos (Or.inl hbig)]
      · rw [if_neg (by omega), w64 (x := (b.length : Int) - 2) (by omega) (by omega)]
        by_cases hov : (b.length : Int) - 2 < n
        · rw [if_pos (by omega), if_pos (Or.inr hov)]
        · rw [if_neg (by omega), if_neg (by omega)]
          simp only [Option.bind_some]
          rw [w64 (x := 2 + n) (by omega) (by omega), if_pos (by omega), if_pos (by omega)]
          have e : (2 + n).toNat = 2 + n.toNat := by omega
          have hlen : ((b.take (2 + n.toNat)).drop 2).length = n.toNat := by rw [List.length_drop, List.length_take]; omega
          rw [e, if_pos (by rw [hlen]; simp; omega), if_pos (by omega), if_pos (by omega), List.nil_append]
          exact ih _ _ (by rw [List.length_drop]; omega) (hb.drop _) (by rw [List.length_drop, List.length_append, List.length_singleton]; omega)
theorem scan5_l0 (k : Nat) : ∀ (b : List Int) (a : List (List Int)), b.length < k → IsB b → b.length + a.length ≤ 1000000 → giroref5_Scan.l0 k b a = some (scanK k b a) := by
  induction k with
  | zero => intro b a h; omega
  | succ k ih =>
    intro b a hk hb hl
    have h0 := hb.rd 0
    have h1 := hb.rd 1
    simp only [giroref5_Scan.l0, scanK]
    by_cases h2 : b.length < 2
    · rw [if_neg (by omega), if_pos h2]
    · rw [if_pos (by omega), if_pos (by omega), if_pos (by omega), if_neg h2, w64 (x := rd b 0) (by omega) (by omega), w64 (x := rd b 0 * 256) (by omega) (by omega), w64 (x := rd b 1) (by omega) (by omega), w64 (x := rd b 0 * 256 + rd b 1) (by omega) (by omega)]
      have hn0 : 0 ≤ rd b 0 * 256 + rd b 1 := by omega
      generalize rd b 0 * 256 + rd b 1 = n at *
      by_cases hbig : 60000 < n
      · rw [if_pos (by omega), if_pos (Or.inl hbig)]
      · rw [if_neg (by omega), w64 (x := (b.length : Int) - 2) (by omega) (by omega)]
        by_cases hov : (b.length : Int) - 2 < n
        · rw [if_pos (by omega), if_pos (Or.inr hov)]
        · rw [if_neg (by omega), if_neg (by omega)]
          simp only [Option.bind_some]
          rw [w64 (x := 2 + n) (by omega) (by omega), if_pos (by omega), if_pos (by omega)]
          have e : (2 + n).toNat = 2 + n.toNat := by omega
          have hlen : ((b.take (2 + n.toNat)).drop 2).length = n.toNat := by rw [List.length_drop, List.length_take]; omega
          rw [e, if_pos (by rw [hlen]; simp; omega), if_pos (by omega), if_pos (by omega), List.nil_append]
          exact ih _ _ (by rw [List.length_drop]; omega) (hb.drop _) (by rw [List.length_drop, List.length_append, List.length_singleton]; omega)

theorem scanK_facts (k : Nat) : ∀ (b : List Int) (a : List (List Int)), IsB b → IsBs a → IsBs (scanK k b a).1 ∧ (scanK k b a).1.length ≤ a.length + b.length ∧ 0 ≤ (scanK k b a).2 ∧ (scanK k b a).2 ≤ b.length := by
  induction k with
  | zero => intro b a hb ha; exact ⟨ha, by show a.length ≤ _; omega, by show (0 : Int) ≤ b.length; omega, by show (b.length : Int) ≤ b.length; omega⟩
  | succ k ih =>
    intro b a hb ha
    simp only [scanK]
    by_cases h2 : b.length < 2
    · rw [if_pos h2]
      exact ⟨ha, by show a.length ≤ _; omega, by show (0 : Int) ≤ b.length; omega, by show (b.length : Int) ≤ b.length; omega⟩
    · rw [if_neg h2]
      split
      · exact ⟨ha, by show a.length ≤ _; omega, by show (0 : Int) ≤ b.length; omega, by show (b.length : Int) ≤ b.length; omega⟩
      · obtain ⟨h1, h3, h4, h5⟩ := ih (b.drop (2 + (rd b 0 * 256 + rd b 1).toNat)) (a ++ [(b.take (2 + (rd b 0 * 256 + rd b 1).toNat)).drop 2]) (hb.drop _) (ha.append (IsBs.one ((hb.take _).drop _)))
        rw [List.length_append, List.length_singleton, List.length_drop] at h3
        rw [List.length_drop] at h5
        exact ⟨h1, by omega, h4, by omega⟩
theorem scan_facts {b : List Int} (hb : IsB b) (hl : b.length ≤ 1000000) : (scan b).1.length ≤ 1000000 ∧ IsBs (scan b).1 := by
  obtain ⟨h1, h2, _, _⟩ := scanK_facts (b.length + 1) b [] hb IsBs.nil
  exact ⟨by have h3 : (scan b).1.length ≤ ([] : List (List Int)).length + b.length := h2
            simp at h3
            omega, h1⟩
/-- Records, one behind the other. -/
def recs (l : List (List Int)) : List Int := l.flatMap recp
theorem recs_cons (r : List Int) (l : List (List Int)) : recs (r :: l) = recp r ++ recs l := rfl
theorem recs_append (a b : List (List Int)) : recs (a ++ b) = recs a ++ recs b := List.flatMap_append
theorem recs_take_succ (l : List (List Int)) (i : Nat) (hi : i < l.length) : recs (l.take (i + 1)) = recs (l.take i) ++ recp (l.getD i []) := by
  unfold recs
  rw [List.take_succ_eq_append_getElem hi, List.flatMap_append, List.getD_eq_getElem?_getD, List.getElem?_eq_getElem hi]
  simp
theorem recs_bytes {l : List (List Int)} (h : IsBs l) : IsB (recs l) := fun x hx => by
  obtain ⟨r, hr, h2⟩ := List.mem_flatMap.1 hx
  exact recp_bytes (h r hr) x h2
theorem recs_length (l : List (List Int)) (m : Nat) (hm : m ≤ 60000) (h : ∀ r ∈ l, r.length ≤ m) : (recs l).length ≤ l.length * (2 + m) := by
  induction l with
  | nil => simp [recs]
  | cons r l ih =>
    have h1 := h r (by simp)
    have h2 := ih (fun x hx => h x (by simp [hx]))
    rw [recs_cons, List.length_append, recp_length (by omega), List.length_cons, Nat.add_mul]
    omega
theorem rd_head {r rest : List Int} (h : r.length ≤ 60000) : rd (recp r ++ rest) 0 * 256 + rd (recp r ++ rest) 1 = r.length := by
  rw [recp_yes h]
  show ((r.length / 256 : Nat) : Int) * 256 + ((r.length % 256 : Nat) : Int) = _
  omega
theorem scan_cons (k : Nat) (r rest : List Int) (a : List (List Int)) (h : r.length ≤ 60000) : scanK (k + 1) (recp r ++ rest) a = scanK k rest (a ++ [r]) := by
  have hl : (recp r ++ rest).length = 2 + r.length + rest.length := by rw [List.length_append, recp_length h]
  simp only [scanK]
  rw [if_neg (by omega), rd_head h, if_neg (by rw [hl]; omega), Int.toNat_natCast, List.drop_left' (recp_length h), List.take_left' (recp_length h)]
  rw [recp_yes h]
  rfl
theorem scan_recs (l : List (List Int)) : ∀ (k : Nat) (tail : List Int) (a : List (List Int)), (∀ r ∈ l, r.length ≤ 60000) → (recs l ++ tail).length < k → ∃ k', tail.length < k' ∧ scanK k (recs l ++ tail) a = scanK k' tail (a ++ l) := by
  induction l with
  | nil => intro k tail a _ hk; exact ⟨k, hk, by rw [List.append_nil]; rfl⟩
  | cons r l ih =>
    intro k tail a h hk
    have h1 := h r (by simp)
    obtain ⟨k, rfl⟩ : ∃ j, k = j + 1 := ⟨k - 1, by omega⟩
    rw [recs_cons, List.append_assoc, List.length_append, recp_length h1] at hk
    rw [recs_cons, List.append_assoc, scan_cons k r _ a h1]
    obtain ⟨k', h2, h3⟩ := ih k tail (a ++ [r]) (fun x hx => h x (by simp [hx])) (by omega)
    exact ⟨k', h2, by rw [h3, List.append_assoc]; rfl⟩
theorem scan_all (l : List (List Int)) (h : ∀ r ∈ l, r.length ≤ 60000) : scan (recs l) = (l, 0) := by
  obtain ⟨k', h2, h3⟩ := scan_recs l ((recs l).length + 1) [] [] h (by rw [List.append_nil]; omega)
  rw [List.append_nil, List.nil_append] at h3
  unfold scan
  rw [h3]
  obtain ⟨k, rfl⟩ : ∃ j, k' = j + 1 := ⟨k' - 1, by simp at h2; omega⟩
  rfl
/-- A record that is cut short ends the records. -/
theorem scan_stop (k m : Nat) (r rest : List Int) (a : List (List Int)) (h : r.length ≤ 60000) (hm : m < 2 + r.length) : scanK (k + 1) ((recp r ++ rest).take m) a = (a, (m : Int)) := by
  have hl : ((recp r ++ rest).take m).length = m := by rw [List.length_take, List.length_append, recp_length h]; omega
  simp only [scanK]
  rw [hl]
  by_cases h2 : m < 2
  · rw [if_pos h2]
  · rw [if_neg h2]
    have e0 : rd ((recp r ++ rest).take m) 0 = rd (recp r ++ rest) 0 := by
      unfold Go.Proofs.YthaeppjhmjpecaaW.PrintWords.rd
      rw [List.getD_eq_getElem?_getD, List.getD_eq_getElem?_getD, List.getElem?_take_of_lt (by show (0 : Int).toNat < m; omega)]
    have e1 : rd ((recp r ++ rest).take m) 1 = rd (recp r ++ rest) 1 := by
      unfold Go.Proofs.YthaeppjhmjpecaaW.PrintWords.rd
      rw [List.getD_eq_getElem?_getD, List.getD_eq_getElem?_getD, List.getElem?_take_of_lt (by show (1 : Int).toNat < m; omega)]
    rw [e0, e1, rd_head h, if_pos (by omega)]
/-- Of records one behind the other, cut: those that are whole, and what is left. -/
theorem scan_cut (l : List (List Int)) (h : ∀ r ∈ l, r.length ≤ 60000) (n cut : Nat) (hn : n ≤ l.length) (hc : cut ≤ (recs l).length) (h0 : (recs (l.take n)).length ≤ cut) (h1 : n < l.length → cut < (recs (l.take (n + 1))).length) :
    scan ((recs l).take cut) = (l.take n, ((cut - (recs (l.take n)).length : Nat) : Int)) := by
  have e : (recs l).take cut = recs (l.take n) ++ (recs (l.drop n)).take (cut - (recs (l.take n)).length) := by
    conv => lhs; rw [← List.take_append_drop n l, recs_append]
    rw [List.take_append, List.take_of_length_le h0]
  have hlen : ((recs l).take cut).length = cut := by rw [List.length_take]; omega
  unfold scan
  rw [hlen, e]
  obtain ⟨k', h2, h3⟩ := scan_recs (l.take n) (cut + 1) ((recs (l.drop n)).take (cut - (recs (l.take n)).length)) [] (fun r hr => h r (List.mem_of_mem_take hr)) (by rw [← e, hlen]; omega)
  rw [h3, List.nil_append]
  by_cases hlt : n < l.length
  · obtain ⟨k, rfl⟩ : ∃ j, k' = j + 1 := ⟨k' - 1, by omega⟩
    have h4 := h1 hlt
    rw [recs_take_succ l n hlt, List.length_append] at h4
    have hmem : l[n] ∈ l := List.getElem_mem hlt
    have hg : l.getD n [] = l[n] := by rw [List.getD_eq_getElem?_getD, List.getElem?_eq_getElem hlt]; rfl
    rw [hg, recp_length (h _ hmem)] at h4
    rw [List.drop_eq_getElem_cons hlt, recs_cons, scan_stop k _ _ _ _ (h _ hmem) (by omega)]
  · have hd : l.drop n = [] := List.drop_of_length_le (by omega)
    obtain ⟨k, rfl⟩ : ∃ j, k' = j + 1 := ⟨k' - 1, by omega⟩
    have hcut : cut = (recs (l.take n)).length := by
      rw [List.take_of_length_le (by omega)] at h0 ⊢
      omega
    rw [hd, show recs [] = [] from rfl, List.take_nil]
    rw [hcut, Nat.sub_self]
    rfl
theorem grown_set (W : World) (p : Addr) (v : Value) : W.grownBy (W.setCell p v) (some p.block) :=
  ⟨rfl, rfl, rfl, by simp [World.setCell], fun k hk hne => Below.heap_setCell _ _ _ _ (fun e => hne (by rw [e]))⟩
theorem rput (A : Option Addr) (c : Nat) (l : List Int) (w : World) (hr : Kd.C (Kd.int .u8) w A l.length l) (hc : l.length ≤ c) (hl : l.length ≤ 140737488351232) :
    Calls Try.prog 53 #[.slice A l.length c] w fun e w' => ∃ v : Value, e = .returned (.tuple #[v, .bool (recok l)]) ∧ Kd.R (Kd.int .u8) 5 w' w.heap.size (fun _ => True) v (recp l) ∧ Below w.heap.size w w' :=
  rec_Put.calls A c l _ _ w hr hc (put_f l hl)
theorem rput5 (A : Option Addr) (c : Nat) (l : List Int) (w : World) (hr : Kd.C (Kd.int .u8) w A l.length l) (hc : l.length ≤ c) (hl : l.length ≤ 140737488351232) :
    Calls Try.prog 32 #[.slice A l.length c] w fun e w' => ∃ v : Value, e = .returned (.tuple #[v, .bool (recok l)]) ∧ Kd.R (Kd.int .u8) 5 w' w.heap.size (fun _ => True) v (recp l) ∧ Below w.heap.size w w' :=
  giroref5_Put.calls A c l _ _ w hr hc (put5_f l hl)
theorem F_C {enc : Int → Value} {h1 : ∀ x, (enc x).oneCell' = true} {w : World} {A : Option Addr} {n : Nat} {xs : List Int} (h : (Kd.scalar enc h1).C w A n xs) : Kd.F (Kd.scalar enc h1) w (fun _ => True) A n xs := by
  intro w' hw
  obtain ⟨a, b, c⟩ := h
  refine ⟨a, b, fun hp => ?_⟩
  obtain ⟨ad, rfl, hc⟩ := c hp
  refine ⟨ad, rfl, fun j p hj => ?_⟩
  obtain ⟨cs, hl, hr, hcell⟩ := hc j p hj
  exact ⟨cs, hl, hr, fun i u hu => Kd.cell_heap (fun k hk => hw k trivial hk) (hcell i u hu)⟩
theorem rscan (A : Option Addr) (c : Nat) (b : List Int) (w : World) (hr : Kd.C (Kd.int .u8) w A b.length b) (hc : b.length ≤ c) (hb : IsB b) (hl : b.length ≤ 1000000) :
    Calls Try.prog 54 #[.slice A b.length c] w fun e w' => ∃ v : Value, e = .returned (.tuple #[v, .int .i64 (scan b).2]) ∧ Kd.S (Kd.slice 5 (Kd.int .u8)) 22 w' w.heap.size (fun k => w.heap.size ≤ k) v (scan b).1 ∧ Below w.heap.size w w' :=
  rec_Scan.calls (b.length + 1) (fun _ => True) A c b _ _ w (Kd.V_mk hc (F_C hr)) (scan_l0 (b.length + 1) b [] (by omega) hb (by simpa using hl))
theorem rscan5 (A : Option Addr) (c : Nat) (b : List Int) (w : World) (hr : Kd.C (Kd.int .u8) w A b.length b) (hc : b.length ≤ c) (hb : IsB b) (hl : b.length ≤ 1000000) :
    Calls Try.prog 59 #[.slice A b.length c] w fun e w' => ∃ v : Value, e = .returned (.tuple #[v, .int .i64 (scan b).2]) ∧ Kd.S (Kd.slice 5 (Kd.int .u8)) 22 w' w.heap.size (fun k => w.heap.size ≤ k) v (scan b).1 ∧ Below w.heap.size w w' :=
  giroref5_Scan.calls (b.length + 1) (fun _ => True) A c b _ _ w (Kd.V_mk hc (F_C hr)) (scan5_l0 (b.length + 1) b [] (by omega) hb (by simpa using hl))
end Go.Proofs.Ythaeppjhmjpecaa.B
