/- Snap: a state as plain data; what the printed comparisons answer. -/
import Derived.Test.YtpcfceodbemooaaWord4
import Derived.Test.YtpcfceodbemooaaPSnapBytesx3
import Derived.Test.YtpcfceodbemooaaPSnapBytesx8
namespace Go.Proofs.Ytpcfceodbemooaa.B
open Go.RowKit Go.Proofs.YtpcfceodbemooaaW.PrintWords Go.Proofs.YtpcfceodbemooaaW.PrintLast Go.Proofs.YtpcfceodbemooaaW.PrintMore Go.Proofs.Ytpcfceodbemooaa.PSnapBytes
set_option linter.unusedVariables false
set_option linter.unusedSimpArgs false

instance eqAcct : DecidableEq S41 := fun a b => decidable_of_iff (a.f0 = b.f0 ∧ a.f1 = b.f1 ∧ a.f2 = b.f2) (by cases a; cases b; simp)
instance eqPay : DecidableEq S43 := fun a b => decidable_of_iff (a.f0 = b.f0 ∧ a.f1 = b.f1 ∧ a.f2 = b.f2 ∧ a.f3 = b.f3 ∧ a.f4 = b.f4 ∧ a.f5 = b.f5 ∧ a.f6 = b.f6) (by cases a; cases b; simp)
/-- A state. -/
structure St where
  tick : Int
  accts : List S41
  bil : List (List Int)
  mul : List Int
  pos : List (List Int)
  prices : List Int
  holds : List (List Int)
  pays : List S43
  ids : List Int
  total : Int
  over : Bool
instance eqSt : DecidableEq St := fun a b => decidable_of_iff (a.tick = b.tick ∧ a.accts = b.accts ∧ a.bil = b.bil ∧ a.mul = b.mul ∧ a.pos = b.pos ∧ a.prices = b.prices ∧ a.holds = b.holds ∧ a.pays = b.pays ∧ a.ids = b.ids ∧ a.total = b.total ∧ a.over = b.over) (by cases a; cases b; simp)
/-- No list is longer than M. -/
structure St.Bd (M : Nat) (s : St) : Prop where
  accts : s.accts.length ≤ M
  bil : s.bil.length ≤ M
  bils : ∀ r ∈ s.bil, r.length ≤ M
  mul : s.mul.length ≤ M
  pos : s.pos.length ≤ M
  poss : ∀ r ∈ s.pos, r.length ≤ M
  prices : s.prices.length ≤ M
  holds : s.holds.length ≤ M
  holdss : ∀ r ∈ s.holds, r.length ≤ M
  pays : s.pays.length ≤ M
  ids : s.ids.length ≤ M

theorem drop_step {α : Type} [DecidableEq α] (z : α) {a b : List α} (h : a.length = b.length) {i : Nat} (hi : i < a.length) : decide (a.drop i = b.drop i) = (decide (a.getD i z = b.getD i z) && decide (a.drop (i + 1) = b.drop (i + 1))) := by
  rw [List.drop_eq_getElem_cons hi, List.drop_eq_getElem_cons (show i < b.length by omega), List.getD_eq_getElem?_getD, List.getD_eq_getElem?_getD, List.getElem?_eq_getElem hi, List.getElem?_eq_getElem (show i < b.length by omega), Bool.eq_iff_iff]
  simp only [decide_eq_true_iff, Bool.and_eq_true, List.cons.injEq, Option.getD_some]
theorem drop_end {α : Type} [DecidableEq α] {a b : List α} (h : a.length = b.length) {i : Nat} (hi : a.length ≤ i) : decide (a.drop i = b.drop i) = true := by
  rw [List.drop_eq_nil_of_le hi, List.drop_eq_nil_of_le (show b.length ≤ i by omega)]; exact decide_eq_true rfl
theorem wrap_s (i : Nat) (h : i < 9223372036854775807) : wrap64 ((i : Int) + 1) = ((i + 1 : Nat) : Int) := by unfold wrap64; omega
theorem acct_ne (a b : S41) : (!(a.f0 == b.f0) || (!(a.f1 == b.f1) || !(a.f2 == b.f2))) = !decide (a = b) := by
  rw [Bool.eq_iff_iff]; cases a; cases b; simp
theorem pay_ne (a b : S43) : (!(a.f0 == b.f0) || (!(a.f1 == b.f1) || (!(a.f2 == b.f2) || (!(a.f3 == b.f3) || (!(a.f4 == b.f4) || (!(a.f5 == b.f5) || !(a.f6 == b.f6))))))) = !decide (a = b) := by
  rw [Bool.eq_iff_iff]; cases a; cases b; simp
theorem sl_l0 (a b : List Int) (h : a.length = b.length) (hM : a.length ≤ 9223372036854775807) (d : Nat) : ∀ (k i : Nat), i + d = a.length → d < k → slices_Equal_int64_int64.l0 k a b a.length i = some (decide (a.drop i = b.drop i)) := by
  induction d with
  | zero =>
    intro k i hi hk
    obtain ⟨k, rfl⟩ : ∃ m, k = m + 1 := ⟨k - 1, by omega⟩
    simp only [slices_Equal_int64_int64.l0]; rw [if_neg (by omega), drop_end h (by omega)]
  | succ d ih =>
    intro k i hi hk
    obtain ⟨k, rfl⟩ : ∃ m, k = m + 1 := ⟨k - 1, by omega⟩
    simp only [slices_Equal_int64_int64.l0]; rw [if_pos (by omega), if_pos (by omega), if_pos (by omega), if_pos (by omega), drop_step (0 : Int) h (by omega)]
    have e : ∀ x : List Int, rd x i = x.getD i 0 := fun x => by unfold rd; rw [Int.toNat_natCast]
    rw [e, e]
    by_cases c : a.getD i 0 = b.getD i 0
    · rw [if_pos c, wrap_s i (by omega), ih k (i + 1) (by omega) (by omega), decide_eq_true c, Bool.true_and]
    · rw [if_neg c, decide_eq_false c, Bool.false_and]
theorem sl_f (a b : List Int) (hM : a.length ≤ 9223372036854775807) (k : Nat) (hk : a.length < k) : slices_Equal_int64_int64.f k a b = some (decide (a = b)) := by
  unfold slices_Equal_int64_int64.f
  by_cases c : (a.length : Int) = (b.length : Int)
  · have h := sl_l0 a b (by omega) hM a.length k 0 (by omega) hk
    rw [if_pos c]; exact h
  · rw [if_neg c, decide_eq_false (fun e => c (by rw [e]))]
theorem s2_l0 (a b : List Int) (h : a.length = b.length) (hM : a.length ≤ 9223372036854775807) (d : Nat) : ∀ (k i : Nat), i + d = a.length → d < k → giroref2_Same.l0 k a b i = some (decide (a.drop i = b.drop i)) := by
  induction d with
  | zero =>
    intro k i hi hk
    obtain ⟨k, rfl⟩ : ∃ m, k = m + 1 := ⟨k - 1, by omega⟩
    simp only [giroref2_Same.l0]; rw [if_neg (by omega), drop_end h (by omega)]
  | succ d ih =>
    intro k i hi hk
    obtain ⟨k, rfl⟩ : ∃ m, k = m + 1 := ⟨k - 1, by omega⟩
    simp only [giroref2_Same.l0]; rw [if_pos (by omega), if_pos (by omega), if_pos (by omega), drop_step (0 : Int) h (by omega)]
    have e : ∀ x : List Int, rd x i = x.getD i 0 := fun x => by unfold rd; rw [Int.toNat_natCast]
    rw [e, e]
    by_cases c : a.getD i 0 = b.getD i 0
    · rw [if_pos c, wrap_s i (by omega), ih k (i + 1) (by omega) (by omega), decide_eq_true c, Bool.true_and]
    · rw [if_neg c, decide_eq_false c, Bool.false_and]
theorem s2_f (a b : List Int) (hM : a.length ≤ 9223372036854775807) (k : Nat) (hk : a.length < k) : giroref2_Same.f k a b = some (decide (a = b)) := by
  unfold giroref2_Same.f
  by_cases c : (a.length : Int) = (b.length : Int)
  · have h := s2_l0 a b (by omega) hM a.length k 0 (by omega) hk
    rw [if_pos c]; exact h
  · rw [if_neg c, decide_eq_false (fun e => c (by rw [e]))]
theorem r10_l0 (M : Nat) (a b : List (List Int)) (h : a.length = b.length) (hM : M ≤ 9223372036854775807) (ha : a.length ≤ M) (hr : ∀ r ∈ a, r.length ≤ M) (d : Nat) : ∀ (k i : Nat), i + d = a.length → M + d + 1 < k → giroref10_Rows.l0 k a b i = some (decide (a.drop i = b.drop i)) := by
  induction d with
  | zero =>
    intro k i hi hk
    obtain ⟨k, rfl⟩ : ∃ m, k = m + 1 := ⟨k - 1, by omega⟩
    simp only [giroref10_Rows.l0]; rw [if_neg (by omega), drop_end h (by omega)]
  | succ d ih =>
    intro k i hi hk
    obtain ⟨k, rfl⟩ : ∃ m, k = m + 1 := ⟨k - 1, by omega⟩
    simp only [giroref10_Rows.l0]; rw [if_pos (by omega), if_pos (by omega), if_pos (by omega), drop_step ([] : List Int) h (by omega)]
    have e : ∀ x : List (List Int), PSnapBytes.rd_L2 x i = x.getD i [] := fun x => by unfold PSnapBytes.rd_L2; rw [Int.toNat_natCast]
    have hl : (a.getD i []).length ≤ M := by
      rw [List.getD_eq_getElem?_getD, List.getElem?_eq_getElem (show i < a.length by omega)]
      exact hr _ (List.getElem_mem _)
    rw [e, e, s2_f _ _ (by omega) k (by omega)]
    simp only [Option.bind_some]
    by_cases c : a.getD i [] = b.getD i []
    · rw [decide_eq_true c, if_pos rfl, wrap_s i (by omega), ih k (i + 1) (by omega) (by omega), Bool.true_and]
    · rw [decide_eq_false c, if_neg (by decide), Bool.false_and]
theorem r10_f (M : Nat) (a b : List (List Int)) (hM : M ≤ 9223372036854775807) (ha : a.length ≤ M) (hr : ∀ r ∈ a, r.length ≤ M) (k : Nat) (hk : 2 * M + 1 < k) : giroref10_Rows.f k a b = some (decide (a = b)) := by
  unfold giroref10_Rows.f
  by_cases c : (a.length : Int) = (b.length : Int)
  · have h := r10_l0 M a b (by omega) (by omega) ha hr a.length k 0 (by omega) (by omega)
    rw [if_pos c]; exact h
  · rw [if_neg c, decide_eq_false (fun e => c (by rw [e]))]
theorem ac_l0 (a b : List S41) (h : a.length = b.length) (hM : a.length ≤ 9223372036854775807) (d : Nat) : ∀ (k i : Nat), i + d = a.length → d < k → api_Acct.l0 k a b a.length i = some (decide (a.drop i = b.drop i)) := by
  induction d with
  | zero =>
    intro k i hi hk
    obtain ⟨k, rfl⟩ : ∃ m, k = m + 1 := ⟨k - 1, by omega⟩
    simp only [api_Acct.l0]; rw [if_neg (by omega), drop_end h (by omega)]
  | succ d ih =>
    intro k i hi hk
    obtain ⟨k, rfl⟩ : ∃ m, k = m + 1 := ⟨k - 1, by omega⟩
    simp only [api_Acct.l0]; rw [if_pos (by omega), if_pos (by omega), if_pos (by omega), if_pos (by omega), drop_step z41 h (by omega), acct_ne]
    have e : ∀ x : List S41, rd_T41 x i = x.getD i z41 := fun x => by unfold rd_T41; rw [Int.toNat_natCast]
    rw [e, e]
    by_cases c : a.getD i z41 = b.getD i z41
    · rw [decide_eq_true c, if_neg (by decide), wrap_s i (by omega), ih k (i + 1) (by omega) (by omega), Bool.true_and]
    · rw [decide_eq_false c, if_pos (by decide), Bool.false_and]
theorem ac_f (a b : List S41) (hM : a.length ≤ 9223372036854775807) (k : Nat) (hk : a.length < k) : api_Acct.f k a b = some (decide (a = b)) := by
  unfold api_Acct.f
  by_cases c : (a.length : Int) = (b.length : Int)
  · have h := ac_l0 a b (by omega) hM a.length k 0 (by omega) hk
    rw [if_pos c]; exact h
  · rw [if_neg c, decide_eq_false (fun e => c (by rw [e]))]
theorem py_l0 (a b : List S43) (h : a.length = b.length) (hM : a.length ≤ 9223372036854775807) (d : Nat) : ∀ (k i : Nat), i + d = a.length → d < k → api_Pay.l0 k a b a.length i = some (decide (a.drop i = b.drop i)) := by
  induction d with
  | zero =>
    intro k i hi hk
    obtain ⟨k, rfl⟩ : ∃ m, k = m + 1 := ⟨k - 1, by omega⟩
    simp only [api_Pay.l0]; rw [if_neg (by omega), drop_end h (by omega)]
  | succ d ih =>
    intro k i hi hk
    obtain ⟨k, rfl⟩ : ∃ m, k = m + 1 := ⟨k - 1, by omega⟩
    simp only [api_Pay.l0]; rw [if_pos (by omega), if_pos (by omega), if_pos (by omega), if_pos (by omega), drop_step z43 h (by omega), pay_ne]
    have e : ∀ x : List S43, rd_T43 x i = x.getD i z43 := fun x => by unfold rd_T43; rw [Int.toNat_natCast]
    rw [e, e]
    by_cases c : a.getD i z43 = b.getD i z43
    · rw [decide_eq_true c, if_neg (by decide), wrap_s i (by omega), ih k (i + 1) (by omega) (by omega), Bool.true_and]
    · rw [decide_eq_false c, if_pos (by decide), Bool.false_and]
theorem py_f (a b : List S43) (hM : a.length ≤ 9223372036854775807) (k : Nat) (hk : a.length < k) : api_Pay.f k a b = some (decide (a = b)) := by
  unfold api_Pay.f
  by_cases c : (a.length : Int) = (b.length : Int)
  · have h := py_l0 a b (by omega) hM a.length k 0 (by omega) hk
    rw [if_pos c]; exact h
  · rw [if_neg c, decide_eq_false (fun e => c (by rw [e]))]
theorem p11_l0 (a b : List S43) (h : a.length = b.length) (hM : a.length ≤ 9223372036854775807) (d : Nat) : ∀ (k i : Nat), i + d = a.length → d < k → giroref11_Same.l0 k a b i = some (decide (a.drop i = b.drop i)) := by
  induction d with
  | zero =>
    intro k i hi hk
    obtain ⟨k, rfl⟩ : ∃ m, k = m + 1 := ⟨k - 1, by omega⟩
    simp only [giroref11_Same.l0]; rw [if_neg (by omega), drop_end h (by omega)]
  | succ d ih =>
    intro k i hi hk
    obtain ⟨k, rfl⟩ : ∃ m, k = m + 1 := ⟨k - 1, by omega⟩
    simp only [giroref11_Same.l0]; rw [if_pos (by omega), if_pos (by omega), if_pos (by omega), drop_step z43 h (by omega), pay_ne]
    have e : ∀ x : List S43, rd_T43 x i = x.getD i z43 := fun x => by unfold rd_T43; rw [Int.toNat_natCast]
    rw [e, e]
    by_cases c : a.getD i z43 = b.getD i z43
    · rw [decide_eq_true c, if_neg (by decide), wrap_s i (by omega), ih k (i + 1) (by omega) (by omega), Bool.true_and]
    · rw [decide_eq_false c, if_pos (by decide), Bool.false_and]
theorem p11_f (a b : List S43) (hM : a.length ≤ 9223372036854775807) (k : Nat) (hk : a.length < k) : giroref11_Same.f k a b = some (decide (a = b)) := by
  unfold giroref11_Same.f
  by_cases c : (a.length : Int) = (b.length : Int)
  · have h := p11_l0 a b (by omega) hM a.length k 0 (by omega) hk
    rw [if_pos c]; exact h
  · rw [if_neg c, decide_eq_false (fun e => c (by rw [e]))]
theorem b10_l0 (M : Nat) (a b : List S41) (a1 : List (List Int)) (a2 : List Int) (a3 b1 : List (List Int)) (b2 : List Int) (b3 : List (List Int)) (h : a.length = b.length) (hM : a.length ≤ 9223372036854775807) (d : Nat) : ∀ (k i : Nat), i + d = a.length → d < k → giroref10_Same.l0 k i a a1 a2 a3 b b1 b2 b3 = some (decide (a.drop i = b.drop i)) := by
  induction d with
  | zero =>
    intro k i hi hk
    obtain ⟨k, rfl⟩ : ∃ m, k = m + 1 := ⟨k - 1, by omega⟩
    simp only [giroref10_Same.l0]; rw [if_neg (by omega), drop_end h (by omega)]
  | succ d ih =>
    intro k i hi hk
    obtain ⟨k, rfl⟩ : ∃ m, k = m + 1 := ⟨k - 1, by omega⟩
    simp only [giroref10_Same.l0]; rw [if_pos (by omega), if_pos (by omega), if_pos (by omega), drop_step z41 h (by omega), acct_ne]
    have e : ∀ x : List S41, rd_T41 x i = x.getD i z41 := fun x => by unfold rd_T41; rw [Int.toNat_natCast]
    rw [e, e]
    by_cases c : a.getD i z41 = b.getD i z41
    · rw [decide_eq_true c, if_neg (by decide), wrap_s i (by omega), ih k (i + 1) (by omega) (by omega), Bool.true_and]
    · rw [decide_eq_false c, if_pos (by decide), Bool.false_and]
theorem b10_f (M : Nat) (a b : List S41) (a1 : List (List Int)) (a2 : List Int) (a3 b1 : List (List Int)) (b2 : List Int) (b3 : List (List Int)) (hM : M ≤ 9223372036854775807) (h0 : a.length ≤ M) (h1 : a1.length ≤ M) (h1r : ∀ r ∈ a1, r.length ≤ M) (h2 : a2.length ≤ M) (h3 : a3.length ≤ M) (h3r : ∀ r ∈ a3, r.length ≤ M) (k : Nat) (hk : 2 * M + 2 < k) :
    giroref10_Same.f k a a1 a2 a3 b b1 b2 b3 = some (decide (a = b ∧ a1 = b1 ∧ a2 = b2 ∧ a3 = b3)) := by
  obtain ⟨k, rfl⟩ : ∃ m, k = m + 1 := ⟨k - 1, by omega⟩
  unfold giroref10_Same.f
  by_cases c : (a.length : Int) = (b.length : Int)
  · rw [if_pos c, r10_f M a1 b1 hM h1 h1r _ (by omega)]
    simp only [Option.bind_some]
    by_cases c1 : a1 = b1
    · rw [if_pos (decide_eq_true c1), r10_f M a3 b3 hM h3 h3r _ (by omega)]
      simp only [Option.bind_some]
      by_cases c3 : a3 = b3
      · rw [if_pos (decide_eq_true c3), s2_f a2 b2 (by omega) _ (by omega)]
        simp only [Option.bind_some, giroref10_Same.j0]
        by_cases c2 : a2 = b2
        · rw [if_neg (by rw [decide_eq_true c2]; decide)]
          have h := b10_l0 M a b a1 a2 a3 b1 b2 b3 (by omega) (by omega) a.length k 0 (by omega) (by omega)
          refine Eq.trans h ?_
          simp [c1, c2, c3]
        · rw [if_pos (by rw [decide_eq_false c2]; decide)]
          simp [c2]
      · rw [if_neg (by rw [decide_eq_false c3]; decide)]
        simp [giroref10_Same.j0, c3]
    · rw [if_neg (by rw [decide_eq_false c1]; decide)]
      simp [giroref10_Same.j0, c1]
  · rw [if_neg c]
    have : ¬ a = b := fun e => c (by rw [e])
    simp [giroref10_Same.j0, this]
/-- giroref24.Same. -/
theorem same24_f (M : Nat) (a b : St) (hM : M ≤ 9223372036854775807) (h : a.Bd M) (k : Nat) (hk : 2 * M + 2 < k) :
    giroref24_Same.f k a.tick a.accts a.bil a.mul a.pos a.prices a.holds a.pays a.ids a.total a.over b.tick b.accts b.bil b.mul b.pos b.prices b.holds b.pays b.ids b.total b.over = some (decide (a = b)) := by
  have hd : decide (a = b) = decide (a.tick = b.tick ∧ a.accts = b.accts ∧ a.bil = b.bil ∧ a.mul = b.mul ∧ a.pos = b.pos ∧ a.prices = b.prices ∧ a.holds = b.holds ∧ a.pays = b.pays ∧ a.ids = b.ids ∧ a.total = b.total ∧ a.over = b.over) := by
    rw [Bool.eq_iff_iff, decide_eq_true_iff, decide_eq_true_iff]; cases a; cases b; simp
  rw [hd]
  unfold giroref24_Same.f
  by_cases c0 : a.tick = b.tick
  · rw [if_pos c0]
    by_cases c1 : a.total = b.total
    · rw [if_pos c1]
      by_cases c2 : (a.over == b.over) = true
      · have c2' : a.over = b.over := by simpa using c2
        rw [if_pos c2, b10_f M a.accts b.accts a.bil a.mul a.pos b.bil b.mul b.pos hM h.accts h.bil h.bils h.mul h.pos h.poss k hk]
        simp only [Option.bind_some]
        by_cases c3 : a.accts = b.accts ∧ a.bil = b.bil ∧ a.mul = b.mul ∧ a.pos = b.pos
        · rw [if_pos (decide_eq_true c3), s2_f a.prices b.prices (by have := h.prices; omega) k (by have := h.prices; omega)]
          simp only [Option.bind_some]
          by_cases c4 : a.prices = b.prices
          · rw [if_pos (decide_eq_true c4), r10_f M a.holds b.holds hM h.holds h.holdss k (by omega)]
            simp only [Option.bind_some]
            by_cases c5 : a.holds = b.holds
            · rw [if_pos (decide_eq_true c5), p11_f a.pays b.pays (by have := h.pays; omega) k (by have := h.pays; omega)]
              simp only [Option.bind_some]
              by_cases c6 : a.pays = b.pays
              · rw [if_pos (decide_eq_true c6), s2_f a.ids b.ids (by have := h.ids; omega) k (by have := h.ids; omega)]
                simp only [Option.bind_some]
                obtain ⟨d1, d2, d3, d4⟩ := c3
                simp [c0, c1, c2', d1, d2, d3, d4, c4, c5, c6]
              · rw [if_neg (by rw [decide_eq_false c6]; decide)]; simp [c6]
            · rw [if_neg (by rw [decide_eq_false c5]; decide)]; simp [c5]
          · rw [if_neg (by rw [decide_eq_false c4]; decide)]; simp [c4]
        · rw [if_neg (by rw [decide_eq_false c3]; decide)]
          exact congrArg some (decide_eq_false (fun e => c3 ⟨e.2.1, e.2.2.1, e.2.2.2.1, e.2.2.2.2.1⟩)).symm
      · have c2' : ¬ a.over = b.over := by simpa using c2
        rw [if_neg c2]; simp [c2']
    · rw [if_neg c1]; simp [c1]
  · rw [if_neg c0]; simp [c0]
end Go.Proofs.Ytpcfceodbemooaa.B
