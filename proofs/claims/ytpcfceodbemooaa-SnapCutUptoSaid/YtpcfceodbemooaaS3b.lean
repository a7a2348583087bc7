/- Snap: what the printed walk of giroref24.Bytes answers. -/
import Derived.Test.YtpcfceodbemooaaS3
import Derived.Test.YtpcfceodbemooaaPSnapBytesx5
namespace Go.Proofs.Ytpcfceodbemooaa.B
open Go.RowKit Go.Proofs.YtpcfceodbemooaaW.PrintWords Go.Proofs.YtpcfceodbemooaaW.PrintLast Go.Proofs.YtpcfceodbemooaaW.PrintMore Go.Proofs.Ytpcfceodbemooaa.PSnapBytes
set_option linter.unusedVariables false
set_option linter.unusedSimpArgs false

theorem shr_u64 (n : Int) (j : Nat) (hj : j ≤ 7) : shr .u64 (IntKind.u64.wrap n) (IntKind.u64.wrap (56 - 8 * (j : Int))) = IntKind.u64.wrap n / 2 ^ (56 - 8 * j) := by
  have hw : IntKind.u64.wrap (56 - 8 * (j : Int)) = ((56 - 8 * j : Nat) : Int) := by
    simp [IntKind.wrap, IntKind.bits, IntKind.signed]; omega
  rw [hw]
  unfold shr
  rw [Int.toNat_natCast, Nat.min_eq_left (by show _ ≤ 64; omega)]
theorem put_l1 (l : List Int) (i : Nat) (hi : i < l.length) (hl : l.length < 9000000000000000000) (Y : List Int) (hY : Y.length + 8 < 140737488355328) (d : Nat) : ∀ (k j : Nat), j + d = 8 →
    giroref2_Put.l1 (k + d + 1) l (Y ++ (be8 (rd l i)).take j) i (56 - 8 * (j : Int)) = giroref2_Put.l0 k l (Y ++ be8 (rd l i)) ((i + 1 : Nat) : Int) := by
  induction d with
  | zero =>
    intro k j hj
    have : j = 8 := by omega
    subst this
    simp only [giroref2_Put.l1]
    rw [if_neg (by omega), List.take_of_length_le (by rw [be8_length]; omega), wrap_s i (by omega)]
  | succ d ih =>
    intro k j hj
    rw [show k + (d + 1) + 1 = (k + d + 1) + 1 by omega]
    simp only [giroref2_Put.l1]
    have hln : (Y ++ (be8 (rd l i)).take j).length < 140737488355328 := by rw [List.length_append, List.length_take, be8_length]; omega
    have hw : 0 ≤ IntKind.u64.wrap (56 - 8 * (j : Int)) := by simp [IntKind.wrap, IntKind.bits, IntKind.signed]; omega
    rw [if_pos (by omega), if_pos (by omega), if_pos (by omega), if_pos hw, if_pos hln, shr_u64 _ j (by omega), List.append_assoc, ← be8_snoc64 (rd l i) j (by omega)]
    have hx : wrap64 (56 - 8 * (j : Int) - 8) = 56 - 8 * ((j + 1 : Nat) : Int) := by unfold wrap64; omega
    rw [hx]
    exact ih k (j + 1) (by omega)
theorem put_l0 (l : List Int) (hl : 8 * l.length + 8 < 140737488355328) (d : Nat) : ∀ (k i : Nat), i + d = l.length → giroref2_Put.l0 (k + 10 * d + 1) l (puts (l.take i)) i = some (puts l) := by
  induction d with
  | zero =>
    intro k i hi
    simp only [giroref2_Put.l0]
    rw [if_neg (by omega), List.take_of_length_le (by omega)]
  | succ d ih =>
    intro k i hi
    rw [show k + 10 * (d + 1) + 1 = ((k + 10 * d + 1) + 8 + 1) + 1 by omega]
    simp only [giroref2_Put.l0]
    have h := put_l1 l i (by omega) (by omega) (puts (l.take i)) (by rw [puts_length, List.length_take]; omega) 8 (k + 10 * d + 1) 0 (by omega)
    rw [List.take_zero, List.append_nil] at h
    rw [if_pos (by omega)]
    refine Eq.trans h ?_
    have e : puts (l.take i) ++ be8 (rd l i) = puts (l.take (i + 1)) := by
      rw [puts_take_succ l i (by omega)]; unfold rd; rw [Int.toNat_natCast]
    rw [e]
    exact ih k (i + 1) (by omega)
theorem put_f (l : List Int) (hl : 8 * l.length + 8 < 140737488355328) (k : Nat) (hk : 10 * l.length < k) : giroref2_Put.f k l = some (puts l) := by
  obtain ⟨k, rfl⟩ : ∃ m, k = m + 10 * l.length + 1 := ⟨k - 10 * l.length - 1, by omega⟩
  unfold giroref2_Put.f
  have h := put_l0 l hl l.length k 0 (by omega)
  rw [List.take_zero, puts_nil] at h
  exact h
theorem row_f (l : List Int) (hl : (row l).length < 140737488355328) (k : Nat) (hk : 10 * l.length + 10 < k) : giroref2_Row.f k l = some (row l) := by
  rw [row_length] at hl
  unfold giroref2_Row.f
  rw [put_f [(l.length : Int)] (by simp) k (by simp; omega)]
  simp only [Option.bind_some]
  rw [put_f l (by omega) k (by omega)]
  simp only [Option.bind_some]
  rw [if_pos (by rw [puts_length, puts_length]; simp; omega), puts_one]
  rfl
theorem rows_drop (x : List (List Int)) (i : Nat) (hi : i < x.length) : rows (x.drop i) = row (x.getD i []) ++ rows (x.drop (i + 1)) := by
  rw [List.drop_eq_getElem_cons hi, rows_cons, List.getD_eq_getElem?_getD, List.getElem?_eq_getElem hi, Option.getD_some]
theorem rows24_l0 (M : Nat) (x : List (List Int)) (hl : x.length < 9000000000000000000) (hr : ∀ r ∈ x, r.length ≤ M) (d : Nat) : ∀ (k i : Nat) (acc : List Int), i + d = x.length → 10 * M + 11 + d < k → acc.length + (rows (x.drop i)).length < 140737488355328 → giroref24_rows.l0 k x acc i = some (acc ++ rows (x.drop i)) := by
  induction d with
  | zero =>
    intro k i acc hi hk hs
    obtain ⟨k, rfl⟩ : ∃ m, k = m + 1 := ⟨k - 1, by omega⟩
    simp only [giroref24_rows.l0]
    rw [if_neg (by omega), List.drop_eq_nil_of_le (by omega), rows_nil, List.append_nil]
  | succ d ih =>
    intro k i acc hi hk hs
    obtain ⟨k, rfl⟩ : ∃ m, k = m + 1 := ⟨k - 1, by omega⟩
    simp only [giroref24_rows.l0]
    have e : PSnapBytes.rd_L2 x i = x.getD i [] := by unfold PSnapBytes.rd_L2; rw [Int.toNat_natCast]
    have hm : (x.getD i []).length ≤ M := by
      rw [List.getD_eq_getElem?_getD, List.getElem?_eq_getElem (show i < x.length by omega)]
      exact hr _ (List.getElem_mem _)
    rw [rows_drop x i (by omega), List.length_append] at hs
    rw [if_pos (by omega), if_pos (by omega), e, row_f _ (by omega) k (by omega)]
    simp only [Option.bind_some]
    rw [if_pos (by omega), wrap_s i (by omega), ih k (i + 1) _ (by omega) (by omega) (by rw [List.length_append]; omega), List.append_assoc, ← rows_drop x i (by omega)]
theorem rows24_f (M : Nat) (x : List (List Int)) (hl : x.length ≤ M) (hM : M < 900000000000000000) (hr : ∀ r ∈ x, r.length ≤ M) (k : Nat) (hk : 11 * M + 11 < k) (hs : (rows x).length < 140737488355328) : giroref24_rows.f k x = some (rows x) := by
  unfold giroref24_rows.f
  have h := rows24_l0 M x (by omega) hr x.length k 0 [] (by omega) (by omega) (by rw [List.drop_zero]; simp; omega)
  rw [List.drop_zero, List.nil_append] at h
  exact h
theorem amap_drop (l : List S41) (i : Nat) (hi : i < l.length) : rows ((l.drop i).map aN) = row (aN (l.getD i z41)) ++ rows ((l.drop (i + 1)).map aN) := by
  rw [List.drop_eq_getElem_cons hi, List.map_cons, rows_cons, List.getD_eq_getElem?_getD, List.getElem?_eq_getElem hi, Option.getD_some]
theorem pmap_drop (l : List S43) (i : Nat) (hi : i < l.length) : rows ((l.drop i).map pN) = row (pN (l.getD i z43)) ++ rows ((l.drop (i + 1)).map pN) := by
  rw [List.drop_eq_getElem_cons hi, List.map_cons, rows_cons, List.getD_eq_getElem?_getD, List.getElem?_eq_getElem hi, Option.getD_some]
theorem b24_l1 (M : Nat) (s : St) (hB : s.Bd M) (hM : M < 900000000000000000) (d : Nat) : ∀ (k i : Nat) (acc : List Int), i + d = s.pays.length → 10 * M + 100 + d < k → acc.length + (rows ((s.pays.drop i).map pN)).length + (row s.ids).length < 140737488355328 →
    giroref24_Bytes.l1 k acc i s.tick s.accts s.bil s.mul s.pos s.prices s.holds s.pays s.ids s.total s.over = some (acc ++ rows ((s.pays.drop i).map pN) ++ row s.ids) := by
  have hp := hB.pays
  have hid := hB.ids
  induction d with
  | zero =>
    intro k i acc hi hk hs
    obtain ⟨k, rfl⟩ : ∃ m, k = m + 1 := ⟨k - 1, by omega⟩
    simp only [giroref24_Bytes.l1]
    rw [List.drop_eq_nil_of_le (show s.pays.length ≤ i by omega), List.map_nil, rows_nil] at hs ⊢
    simp only [List.length_nil, Nat.add_zero] at hs
    rw [if_neg (by omega), row_f _ (by omega) k (by omega)]
    simp only [Option.bind_some]
    rw [if_pos (by omega), List.append_nil]
  | succ d ih =>
    intro k i acc hi hk hs
    obtain ⟨k, rfl⟩ : ∃ m, k = m + 1 := ⟨k - 1, by omega⟩
    simp only [giroref24_Bytes.l1]
    have e : rd_T43 s.pays i = s.pays.getD i z43 := by unfold rd_T43; rw [Int.toNat_natCast]
    rw [pmap_drop s.pays i (by omega), List.length_append] at hs
    rw [if_pos (by omega), if_pos (by omega), e]
    have hr : giroref2_Row.f k [(s.pays.getD i z43).f0, (s.pays.getD i z43).f1, (s.pays.getD i z43).f2, (s.pays.getD i z43).f3, (s.pays.getD i z43).f4, (s.pays.getD i z43).f5, (s.pays.getD i z43).f6] = some (row (pN (s.pays.getD i z43))) := row_f (pN (s.pays.getD i z43)) (by omega) k (by simp [pN]; omega)
    rw [hr]
    simp only [Option.bind_some]
    rw [if_pos (by omega), wrap_s i (by omega), ih k (i + 1) _ (by omega) (by omega) (by rw [List.length_append]; omega), pmap_drop s.pays i (by omega)]
    simp only [List.append_assoc]
theorem b24_l0 (M : Nat) (s : St) (hB : s.Bd M) (hM : M < 900000000000000000) (d : Nat) : ∀ (k i : Nat) (acc : List Int), i + d = s.accts.length → 12 * M + 200 + d < k → acc.length + (rows ((s.accts.drop i).map aN)).length + (rows s.bil).length + (row s.mul).length + (rows s.pos).length + (row s.prices).length + (rows s.holds).length + (rows (s.pays.map pN)).length + (row s.ids).length < 140737488355328 →
    giroref24_Bytes.l0 k acc i s.tick s.accts s.bil s.mul s.pos s.prices s.holds s.pays s.ids s.total s.over s.accts s.bil s.mul s.pos = some (acc ++ rows ((s.accts.drop i).map aN) ++ rows s.bil ++ row s.mul ++ rows s.pos ++ row s.prices ++ rows s.holds ++ rows (s.pays.map pN) ++ row s.ids) := by
  obtain ⟨h1, h2, h3, h4, h5, h6, h7, h8, h9, h10, h11⟩ := hB
  have hB : s.Bd M := ⟨h1, h2, h3, h4, h5, h6, h7, h8, h9, h10, h11⟩
  induction d with
  | zero =>
    intro k i acc hi hk hs
    obtain ⟨k, rfl⟩ : ∃ m, k = m + 1 := ⟨k - 1, by omega⟩
    simp only [giroref24_Bytes.l0]
    rw [List.drop_eq_nil_of_le (show s.accts.length ≤ i by omega), List.map_nil, rows_nil] at hs ⊢
    simp only [List.length_nil, Nat.add_zero] at hs
    rw [if_neg (by omega), rows24_f M _ h2 hM h3 k (by omega) (by omega)]
    simp only [Option.bind_some]
    rw [if_pos (by omega), row_f _ (by omega) k (by omega)]
    simp only [Option.bind_some]
    rw [if_pos (by simp only [List.length_append]; omega), rows24_f M _ h5 hM h6 k (by omega) (by omega)]
    simp only [Option.bind_some]
    rw [if_pos (by simp only [List.length_append]; omega), row_f _ (by omega) k (by omega)]
    simp only [Option.bind_some]
    rw [if_pos (by simp only [List.length_append]; omega), rows24_f M _ h8 hM h9 k (by omega) (by omega)]
    simp only [Option.bind_some]
    rw [if_pos (by simp only [List.length_append]; omega)]
    have h := b24_l1 M s hB hM s.pays.length k 0 (acc ++ rows s.bil ++ row s.mul ++ rows s.pos ++ row s.prices ++ rows s.holds) (by omega) (by omega) (by rw [List.drop_zero]; simp only [List.length_append]; omega)
    rw [List.drop_zero] at h
    refine Eq.trans h ?_
    simp only [List.append_assoc, List.nil_append]
  | succ d ih =>
    intro k i acc hi hk hs
    obtain ⟨k, rfl⟩ : ∃ m, k = m + 1 := ⟨k - 1, by omega⟩
    simp only [giroref24_Bytes.l0]
    have e : rd_T41 s.accts i = s.accts.getD i z41 := by unfold rd_T41; rw [Int.toNat_natCast]
    rw [amap_drop s.accts i (by omega), List.length_append] at hs
    rw [if_pos (by omega), if_pos (by omega), e]
    have hr : giroref2_Row.f k [(s.accts.getD i z41).f0, (s.accts.getD i z41).f1, (s.accts.getD i z41).f2] = some (row (aN (s.accts.getD i z41))) := row_f (aN (s.accts.getD i z41)) (by omega) k (by simp [aN]; omega)
    rw [hr]
    simp only [Option.bind_some]
    rw [if_pos (by omega), wrap_s i (by omega), ih k (i + 1) _ (by omega) (by omega) (by rw [List.length_append]; omega), amap_drop s.accts i (by omega)]
    simp only [List.append_assoc]
/-- giroref24.Bytes. -/
theorem bytes24_f (M : Nat) (s : St) (hB : s.Bd M) (hM : M < 900000000000000000) (k : Nat) (hk : 13 * M + 300 < k) (hs : (sbytes s).length < 140737488355328) :
    giroref24_Bytes.f k s.tick s.accts s.bil s.mul s.pos s.prices s.holds s.pays s.ids s.total s.over = some (sbytes s) := by
  have hb1 := hB.accts
  rw [sbytes_eq] at hs ⊢
  simp only [List.length_append] at hs
  have hj : giroref24_Bytes.j0 k (bitN s.over) s.tick s.accts s.bil s.mul s.pos s.prices s.holds s.pays s.ids s.total s.over = some (row (hdr s) ++ rows (s.accts.map aN) ++ rows s.bil ++ row s.mul ++ rows s.pos ++ row s.prices ++ rows s.holds ++ rows (s.pays.map pN) ++ row s.ids) := by
    obtain ⟨k, rfl⟩ : ∃ m, k = m + 1 := ⟨k - 1, by omega⟩
    simp only [giroref24_Bytes.j0]
    have hr := row_f (hdr s) (by omega) k (by simp [hdr]; omega)
    unfold hdr at hr
    rw [hr]
    simp only [Option.bind_some]
    have h := b24_l0 M s hB hM s.accts.length k 0 (row (hdr s)) (by omega) (by omega) (by rw [List.drop_zero]; omega)
    rw [List.drop_zero] at h
    exact h
  unfold giroref24_Bytes.f
  by_cases c : s.over = true
  · rw [if_pos c]; rw [c] at hj ⊢; exact hj
  · rw [if_neg c]; rw [Bool.eq_false_iff.mpr c] at hj ⊢; exact hj
end Go.Proofs.Ytpcfceodbemooaa.B
