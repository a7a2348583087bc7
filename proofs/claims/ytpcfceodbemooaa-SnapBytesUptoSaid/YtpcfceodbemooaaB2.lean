/- Bytes as numbers, rows of numbers: plain lists, nothing of the program. -/
import Derived.Test.YtpcfceodbemooaaB1
namespace Go.Proofs.Ytpcfceodbemooaa.B
open Go.RowKit Go.Proofs.YtpcfceodbemooaaW.PrintWords Go.Proofs.YtpcfceodbemooaaW.PrintLast Go.Proofs.YtpcfceodbemooaaW.PrintMore

/-- Bytes as one number, the greatest ahead. -/
def hor (b : List Int) : Int := b.foldl (fun n c => n * 256 + c) 0
theorem hor_nil : hor [] = 0 := rfl
theorem hor_snoc (b : List Int) (c : Int) : hor (b ++ [c]) = hor b * 256 + c := by unfold hor; rw [List.foldl_append]; rfl
theorem hor_bd {b : List Int} (h : IsB b) : 0 ≤ hor b ∧ hor b < 256 ^ b.length := by
  induction hn : b.length generalizing b with
  | zero => rw [List.eq_nil_of_length_eq_zero hn]; exact ⟨by decide, by decide⟩
  | succ n ih =>
    have hne : b ≠ [] := by intro h; rw [h] at hn; cases hn
    obtain ⟨a, c, rfl⟩ : ∃ a c, b = a ++ [c] := ⟨b.dropLast, b.getLast hne, (List.dropLast_concat_getLast hne).symm⟩
    have ha := ih (b := a) h.left (by simpa using hn)
    have hc := h c (by simp)
    rw [hor_snoc, Int.pow_succ]
    omega
theorem hor_take_succ {b : List Int} {i : Nat} (hi : i < b.length) : hor (b.take (i + 1)) = hor (b.take i) * 256 + rd b i := by
  rw [List.take_succ_eq_append_getElem hi, hor_snoc]
  congr 1
  unfold Go.Proofs.YtpcfceodbemooaaW.PrintWords.rd
  rw [Int.toNat_natCast, List.getD_eq_getElem?_getD, List.getElem?_eq_getElem hi]
  rfl
theorem hor_small {b : List Int} (h : IsB b) {i : Nat} (hi : i ≤ 7) : 0 ≤ hor (b.take i) ∧ hor (b.take i) < 72057594037927936 := by
  have h1 := hor_bd (h.take i)
  have h2 : (b.take i).length ≤ 7 := by rw [List.length_take]; omega
  have h3 : 256 ^ (b.take i).length ≤ 72057594037927936 := Nat.le_trans (Nat.pow_le_pow_right (n := 256) (by decide) h2) (by decide +kernel)
  have h4 : (256 : Int) ^ (b.take i).length = ((256 ^ (b.take i).length : Nat) : Int) := (Int.natCast_pow 256 _).symm
  rw [h4] at h1
  generalize 256 ^ (b.take i).length = q at h1 h3
  exact ⟨h1.1, by omega⟩
theorem or_byte {x c : Int} (h0 : 0 ≤ x) (h1 : x < 72057594037927936) (c0 : 0 ≤ c) (c1 : c < 256) : bits .or .u64 (x * 256) c = x * 256 + c :=
  bits_join .u64 64 (by decide) (fun n a b => by simp [IntKind.wrap, IntKind.bits, IntKind.signed]; omega) 8 (x * 256) c (by omega) (by omega) (by omega) c0 (by omega) (by omega)
/-- Eight bytes as a number. -/
def dec8 (b : List Int) : Int := wrap64 (hor b)
theorem dec8_bd (b : List Int) : -9223372036854775808 ≤ dec8 b ∧ dec8 b < 9223372036854775808 := by unfold dec8 wrap64; omega
/-- n rows of eight bytes as numbers. -/
def getn : Nat → List Int → List Int
  | 0, _ => []
  | n + 1, b => dec8 (b.take 8) :: getn n (b.drop 8)
/-- Bytes as numbers. -/
def gets (b : List Int) : List Int := getn (b.length / 8) b
/-- What Get tells: the numbers, and the error (2: no whole numbers). -/
def getl (b : List Int) : List Int := if b.length % 8 = 0 then gets b else []
def gerr (b : List Int) : Int := if b.length % 8 = 0 then 0 else 2
theorem getl_yes {b : List Int} (h : b.length % 8 = 0) : getl b = gets b := if_pos h
theorem getl_no {b : List Int} (h : ¬ b.length % 8 = 0) : getl b = [] := if_neg h
theorem gerr_yes {b : List Int} (h : b.length % 8 = 0) : gerr b = 0 := if_pos h
theorem gerr_no {b : List Int} (h : ¬ b.length % 8 = 0) : gerr b = 2 := if_neg h
theorem getn_length (n : Nat) (b : List Int) : (getn n b).length = n := by
  induction n generalizing b with
  | zero => rfl
  | succ n ih => rw [getn, List.length_cons, ih]
theorem gets_length (b : List Int) : (gets b).length = b.length / 8 := getn_length _ _
theorem getn_succ (n : Nat) (b : List Int) : getn (n + 1) b = getn n b ++ [dec8 ((b.drop (8 * n)).take 8)] := by
  induction n generalizing b with
  | zero => simp [getn]
  | succ n ih =>
    rw [getn, ih, getn, List.cons_append, List.drop_drop]
    rw [show 8 + 8 * n = 8 * (n + 1) by omega]
theorem getn_wf (n : Nat) (b : List Int) : ∀ x ∈ getn n b, -9223372036854775808 ≤ x ∧ x < 9223372036854775808 := by
  induction n generalizing b with
  | zero => intro x h; cases h
  | succ n ih =>
    intro x h
    rw [getn] at h
    rcases List.mem_cons.1 h with rfl | h
    · exact dec8_bd _
    · exact ih _ x h
theorem gets_wf (b : List Int) : ∀ x ∈ gets b, -9223372036854775808 ≤ x ∧ x < 9223372036854775808 := getn_wf _ _
/-- Numbers that an int64 holds. -/
def IsN (l : List Int) : Prop := ∀ x ∈ l, -9223372036854775808 ≤ x ∧ x < 9223372036854775808
theorem hor_be8 (n : Int) : hor (be8 n) = n % 18446744073709551616 := by
  simp only [hor, be8, List.foldl_cons, List.foldl_nil]
  omega
theorem dec8_be8 {n : Int} (h0 : -9223372036854775808 ≤ n) (h1 : n < 9223372036854775808) : dec8 (be8 n) = n := by
  unfold dec8 wrap64
  rw [hor_be8]
  omega
theorem getn_puts {l : List Int} (h : IsN l) (more : List Int) : getn l.length (puts l ++ more) = l := by
  induction l with
  | nil => rfl
  | cons n l ih =>
    have hn := h n (by simp)
    rw [List.length_cons, getn, puts_cons, List.append_assoc, List.take_left' (be8_length n), List.drop_left' (be8_length n), dec8_be8 hn.1 hn.2, ih (fun x hx => h x (by simp [hx]))]
theorem gets_puts {l : List Int} (h : IsN l) : gets (puts l) = l := by
  have := getn_puts h []
  rw [List.append_nil] at this
  unfold gets
  rw [puts_length, Nat.mul_div_cancel_left _ (by decide)]
  exact this

theorem be8_snoc64 (n : Int) (j : Nat) (h : j < 8) : (be8 n).take (j + 1) = (be8 n).take j ++ [IntKind.u64.wrap n / 2 ^ (56 - 8 * j) % 256] := by
  have hw : IntKind.u64.wrap n = n % 18446744073709551616 := by simp [IntKind.wrap, IntKind.bits, IntKind.signed]
  rw [be8_snoc n j h, hw]
  have : j = 0 ∨ j = 1 ∨ j = 2 ∨ j = 3 ∨ j = 4 ∨ j = 5 ∨ j = 6 ∨ j = 7 := by omega
  rcases this with rfl | rfl | rfl | rfl | rfl | rfl | rfl | rfl <;> simp <;> omega
/-- Numbers as a row: how many they are, ahead. -/
def row (l : List Int) : List Int := be8 l.length ++ puts l
theorem row_length (l : List Int) : (row l).length = 8 + 8 * l.length := by rw [row, List.length_append, be8_length, puts_length]
theorem row_bytes (l : List Int) : IsB (row l) := (be8_bytes _).append (puts_bytes l)
theorem puts_one (n : Int) : puts [n] = be8 n := by rw [puts_cons, puts_nil, List.append_nil]
/-- The row that bytes begin with: how many numbers. -/
def nextN (b : List Int) : Int := dec8 (b.take 8)
/-- Is there a row? -/
def nextB (b : List Int) : Bool := decide (8 ≤ b.length) && decide (0 ≤ nextN b) && decide (nextN b ≤ ((b.length - 8) / 8 : Nat))
def nextL (b : List Int) : List Int := if nextB b then gets ((b.drop 8).take (8 * (nextN b).toNat)) else []
def nextR (b : List Int) : List Int := if nextB b then b.drop (8 + 8 * (nextN b).toNat) else []
theorem nextR_bytes {b : List Int} (h : IsB b) : IsB (nextR b) := by
  unfold nextR
  split
  · exact h.drop _
  · exact IsB.nil
theorem nextN_row {l : List Int} (hl : l.length ≤ 1000000000) (more : List Int) : nextN (row l ++ more) = l.length := by
  unfold nextN row
  rw [List.append_assoc, List.take_left' (be8_length _), dec8_be8 (by omega) (by omega)]
theorem next_row {l : List Int} (h : IsN l) (hl : l.length ≤ 1000000000) (more : List Int) : nextB (row l ++ more) = true ∧ nextL (row l ++ more) = l ∧ nextR (row l ++ more) = more := by
  have hN := nextN_row hl more
  have hB : nextB (row l ++ more) = true := by
    unfold nextB
    rw [hN, List.length_append, row_length]
    simp only [Bool.and_eq_true, decide_eq_true_eq]
    omega
  refine ⟨hB, ?_, ?_⟩
  · unfold nextL
    rw [hB, if_pos rfl, hN, Int.toNat_natCast]
    have : ((row l ++ more).drop 8).take (8 * l.length) = puts l := by
      unfold row
      rw [List.append_assoc, List.drop_left' (be8_length _), List.take_left' (puts_length l)]
    rw [this]
    exact gets_puts h
  · unfold nextR
    rw [hB, if_pos rfl, hN, Int.toNat_natCast, List.drop_left' (row_length l)]
theorem same_step' {a b : List Int} {i : Nat} (h : a.length = b.length) (hi : i < a.length) (ht : a.take i = b.take i) (he : rd a i = rd b i) : a.take (i + 1) = b.take (i + 1) := by
  rw [List.take_succ_eq_append_getElem hi, List.take_succ_eq_append_getElem (by omega), ht]
  unfold Go.Proofs.YtpcfceodbemooaaW.PrintWords.rd at he
  rw [Int.toNat_natCast, List.getD_eq_getElem?_getD, List.getD_eq_getElem?_getD, List.getElem?_eq_getElem hi, List.getElem?_eq_getElem (by omega)] at he
  simp only [Option.getD_some] at he
  rw [he]
theorem same_end' {a b : List Int} {i : Nat} (h : a.length = b.length) (hi : a.length ≤ i) (ht : a.take i = b.take i) : a = b := by
  rwa [List.take_of_length_le hi, List.take_of_length_le (by omega)] at ht
/-- A row that is cut short is none. -/
theorem next_cut {l : List Int} (hl : l.length ≤ 1000000000) (k : Nat) (hk : k < (row l).length) : nextB ((row l).take k) = false := by
  rw [row_length] at hk
  by_cases h8 : k < 8
  · unfold nextB
    rw [show decide (8 ≤ ((row l).take k).length) = false from decide_eq_false (by rw [List.length_take]; omega)]
    rfl
  · have hN : nextN ((row l).take k) = l.length := by
      unfold nextN
      rw [List.take_take, show min 8 k = 8 by omega, row, List.take_left' (be8_length _), dec8_be8 (by omega) (by omega)]
    unfold nextB
    rw [hN, show decide ((l.length : Int) ≤ (((((row l).take k).length - 8) / 8 : Nat) : Int)) = false from decide_eq_false (by rw [List.length_take, row_length]; omega)]
    simp
theorem carryC {α : Type} {d : Kd α} {W w' : World} {A : Option Addr} {n : Nat} {xs : List α} (hbl : Below W.heap.size W w') (h : Aside0 (Kd.C d W A n xs)) : Aside0 (Kd.C d w' A n xs) := ⟨Kd.C_below h.out hbl⟩
theorem carryB {w W w' : World} (hbl : Below W.heap.size W w') (h : Aside0 (Below w.heap.size w W)) : Aside0 (Below w.heap.size w w') := ⟨below_step h.out hbl⟩
theorem pick8 {a b c d e f g h r : Prop} (x : a ∧ b ∧ c ∧ d ∧ e ∧ f ∧ g ∧ Aside0 h ∧ r) : h := x.2.2.2.2.2.2.2.1.out
theorem pick4 {a b c h r : Prop} (x : a ∧ b ∧ c ∧ Aside0 h ∧ r) : h := x.2.2.2.1.out
/-- Rows, one behind the other. -/
def flatR (l : List (List Int)) : List Int := l.flatMap row
theorem flatR_take_succ (l : List (List Int)) (i : Nat) (hi : i < l.length) : flatR (l.take (i + 1)) = flatR (l.take i) ++ row (l.getD i []) := by
  unfold flatR
  rw [List.take_succ_eq_append_getElem hi, List.flatMap_append, List.getD_eq_getElem?_getD, List.getElem?_eq_getElem hi]
  simp
theorem flatR_drop (l : List (List Int)) (i : Nat) (hi : i < l.length) : flatR (l.drop i) = row (l.getD i []) ++ flatR (l.drop (i + 1)) := by
  unfold flatR
  rw [List.drop_eq_getElem_cons hi, List.flatMap_cons, List.getD_eq_getElem?_getD, List.getElem?_eq_getElem hi]
  rfl
theorem flatR_bytes (l : List (List Int)) : IsB (flatR l) := fun x hx => by
  obtain ⟨r, _, h⟩ := List.mem_flatMap.1 hx
  exact row_bytes r x h
theorem flatR_length (l : List (List Int)) (m : Nat) (h : ∀ r ∈ l, r.length ≤ m) : (flatR l).length ≤ l.length * (8 + 8 * m) := by
  induction l with
  | nil => simp [flatR]
  | cons r l ih =>
    have h1 := h r (by simp)
    have h2 := ih (fun x hx => h x (by simp [hx]))
    show (row r ++ flatR l).length ≤ _
    rw [List.length_append, row_length, List.length_cons, Nat.add_mul]
    omega
theorem reps_map {α : Type} (enc : α → Value) (xs : List α) : Reps (fun (x : α) (cs : List Value) => cs = [enc x]) 1 xs (xs.map enc) := by
  refine ⟨by simp, fun j p hj => ?_⟩
  obtain ⟨hl, rfl⟩ := List.getElem?_eq_some_iff.1 hj
  rw [Nat.mul_one]
  have h1 : j < (xs.map enc).length := by rw [List.length_map]; exact hl
  rw [List.drop_eq_getElem_cons h1]
  simp
/-- '[]byte("..")' of a constant: it is read (its row bears the run-time's mark). -/
theorem C_const {k : IntKind} (w : World) (xs : List Int) (C : Array Value) (e : TypeId) (fr : Nat × Nat) (hC : C.toList = xs.map (Value.int k)) (hl : xs.length ≤ 9223372036854775807) :
    Kd.C (Kd.int k) (w.alloc (.cells C e fr)) (some ⟨w.heap.size, 0, none⟩) xs.length xs := by
  refine ⟨rfl, hl, fun _ => ⟨_, rfl, fun j p hj => ⟨[.int k p], rfl, rfl, fun i u hu => ?_⟩⟩⟩
  obtain ⟨hl', rfl⟩ := List.getElem?_eq_some_iff.1 hj
  match i, hu with
  | 0, hu =>
    have hu' : Value.int k xs[j] = u := by simpa using hu
    subst hu'
    show (w.alloc (.cells C e fr)).cell? ((⟨w.heap.size, 0, none⟩ : Addr).add (j * 1 + 0)) = _
    rw [add_plain, World.cell?_alloc_mark, Nat.mul_one, Nat.add_zero, ← Array.getElem?_toList, hC]
    simp
  | i + 1, hu => simp at hu
end Go.Proofs.Ytpcfceodbemooaa.B
