/- Snap: a state's bytes are read back, whatever stands behind; plain laws. -/
import Derived.Test.YtpcfceodbemooaaS7
namespace Go.Proofs.Ytpcfceodbemooaa.B
open Go.RowKit Go.Proofs.YtpcfceodbemooaaW.PrintWords Go.Proofs.YtpcfceodbemooaaW.PrintLast Go.Proofs.YtpcfceodbemooaaW.PrintMore Go.Proofs.Ytpcfceodbemooaa.PSnapBytes
set_option linter.unusedVariables false
set_option linter.unusedSimpArgs false

/-- Numbers that are int64s, lengths that may be. -/
structure ValS (s : St) : Prop where
  tick : -9223372036854775808 ≤ s.tick ∧ s.tick < 9223372036854775808
  total : -9223372036854775808 ≤ s.total ∧ s.total < 9223372036854775808
  accts : ∀ a ∈ s.accts, IsN (aN a)
  pays : ∀ a ∈ s.pays, IsN (pN a)
  bil : ∀ r ∈ s.bil, IsN r
  mul : IsN s.mul
  pos : ∀ r ∈ s.pos, IsN r
  prices : IsN s.prices
  holds : ∀ r ∈ s.holds, IsN r
  ids : IsN s.ids
  bd : s.Bd 100000000
theorem rows_len_ge (l : List (List Int)) : l.length ≤ (rows l).length := by
  induction l with
  | nil => exact Nat.zero_le _
  | cons r l ih => rw [rows_cons, List.length_append, row_length, List.length_cons]; omega
theorem its_app {α : Type} (rd : List Int → α) (bd : List Int → Bool → Bool) (en : α → List Int) : ∀ (L : List α) (h : ∀ a ∈ L, ∀ y, rd (row (en a) ++ y) = a ∧ bd (row (en a) ++ y) false = false ∧ nextR (row (en a) ++ y) = y) (f : Nat) (x : List Int), L.length + 1 ≤ f → its rd bd f (L.length : Int) (rows (L.map en) ++ x) false = (L, x, false)
  | [], h, f, x, hf => by
    obtain ⟨f, rfl⟩ : ∃ m, f = m + 1 := ⟨f - 1, by simp at hf; omega⟩
    rw [its_end rd bd (by simp)]; rfl
  | a :: L, h, f, x, hf => by
    obtain ⟨f, rfl⟩ : ∃ m, f = m + 1 := ⟨f - 1, by simp at hf; omega⟩
    obtain ⟨h1, h2, h3⟩ := h a (List.mem_cons_self ..) (rows (L.map en) ++ x)
    have ih := its_app rd bd en L (fun b hb => h b (List.mem_cons_of_mem _ hb)) f x (by simp at hf; omega)
    rw [List.map_cons, rows_cons, List.append_assoc, its_go rd bd (by rw [List.length_cons]; omega) rfl, h1, h2, h3]
    have e : ((a :: L).length : Int) - 1 = (L.length : Int) := by simp
    rw [e, ih]
theorem row_ok {r : List Int} (h : IsN r) (hl : r.length ≤ 1000000000) (y : List Int) : nextL (row r ++ y) = r ∧ rowB (row r ++ y) false = false ∧ nextR (row r ++ y) = y := by
  obtain ⟨h1, h2, h3⟩ := next_row h hl y
  exact ⟨h2, by unfold rowB; rw [h1]; rfl, h3⟩
theorem js_ok {r : List Int} (n : Nat) (h : IsN r) (hl : r.length = n) (hn : n ≤ 1000000000) (y : List Int) : jsL n (row r ++ y) = r ∧ jsB n (row r ++ y) false = false ∧ nextR (row r ++ y) = y := by
  obtain ⟨h1, h2, h3⟩ := row_ok h (by omega) y
  exact ⟨by rw [jsL_yes (by rw [h1]; exact hl)]; exact h1, by rw [jsB_yes (by rw [h1]; exact hl)]; exact h2, h3⟩
theorem acct_ok {a : S41} (h : IsN (aN a)) (y : List Int) : mkA (row (aN a) ++ y) = a ∧ jsB 3 (row (aN a) ++ y) false = false ∧ nextR (row (aN a) ++ y) = y := by
  obtain ⟨h1, h2, h3⟩ := js_ok 3 h rfl (by decide) y
  refine ⟨?_, h2, h3⟩
  unfold mkA
  rw [h1]
  cases a
  rfl
theorem pay_ok {a : S43} (h : IsN (pN a)) (y : List Int) : mkP (row (pN a) ++ y) = a ∧ jsB 7 (row (pN a) ++ y) false = false ∧ nextR (row (pN a) ++ y) = y := by
  obtain ⟨h1, h2, h3⟩ := js_ok 7 h rfl (by decide) y
  refine ⟨?_, h2, h3⟩
  unfold mkP
  rw [h1]
  cases a
  rfl
theorem itA_app (l : List S41) (h : ∀ a ∈ l, IsN (aN a)) (x : List Int) : itA (l.length : Int) (rows (l.map aN) ++ x, false) = (l, x, false) := by
  unfold itA
  refine its_app mkA (jsB 3) aN l (fun a ha y => acct_ok (h a ha) y) _ x ?_
  have := rows_len_ge (l.map aN)
  rw [List.length_map] at this
  show l.length + 1 ≤ (rows (l.map aN) ++ x).length + 2
  rw [List.length_append]; omega
theorem itP_app (l : List S43) (h : ∀ a ∈ l, IsN (pN a)) (x : List Int) : itP (l.length : Int) (rows (l.map pN) ++ x, false) = (l, x, false) := by
  unfold itP
  refine its_app mkP (jsB 7) pN l (fun a ha y => pay_ok (h a ha) y) _ x ?_
  have := rows_len_ge (l.map pN)
  rw [List.length_map] at this
  show l.length + 1 ≤ (rows (l.map pN) ++ x).length + 2
  rw [List.length_append]; omega
theorem itR_app (l : List (List Int)) (h : ∀ r ∈ l, IsN r ∧ r.length ≤ 1000000000) (x : List Int) : itR (l.length : Int) (rows l ++ x, false) = (l, x, false) := by
  unfold itR
  have h1 := its_app nextL rowB (fun r => r) l (fun a ha y => row_ok (h a ha).1 (h a ha).2 y) ((rows l ++ x).length + 2) x (by have := rows_len_ge l; rw [List.length_append]; omega)
  rw [map_id_rows] at h1
  exact h1
theorem nx_app (r : List Int) (h : IsN r) (hl : r.length ≤ 1000000000) (x : List Int) : nextL (row r ++ x) = r ∧ nx (row r ++ x, false) = (x, false) := by
  obtain ⟨h1, h2, h3⟩ := row_ok h hl x
  exact ⟨h1, by unfold nx; rw [h2, h3]⟩
theorem hdr_n {s : St} (h : ValS s) : IsN (hdr s) := by
  have b := h.bd
  have b1 := b.accts; have b2 := b.bil; have b3 := b.mul; have b4 := b.pos; have b5 := b.holds; have b6 := b.pays
  intro x hx
  simp only [hdr, List.mem_cons, List.not_mem_nil, or_false] at hx
  rcases hx with rfl | rfl | rfl | rfl | rfl | rfl | rfl | rfl | rfl
  · exact h.tick
  · exact h.total
  · unfold bitN; split <;> exact ⟨by decide, by decide⟩
  all_goals (constructor <;> omega)
/-- A state's bytes, and whatever stands behind: the state is read, and that is left. -/
theorem read_app {s : St} (h : ValS s) (x : List Int) : sSt (sbytes s ++ x) = s ∧ pI (sbytes s ++ x) = (x, false) := by
  have b := h.bd
  have b1 := b.mul; have b2 := b.prices; have b3 := b.ids
  have e0 : sbytes s ++ x = row (hdr s) ++ (rows (s.accts.map aN) ++ (rows s.bil ++ (row s.mul ++ (rows s.pos ++ (row s.prices ++ (rows s.holds ++ (rows (s.pays.map pN) ++ (row s.ids ++ x)))))))) := by
    rw [sbytes_eq]; simp only [List.append_assoc]
  rw [e0]
  obtain ⟨h1, h2, h3⟩ := js_ok 9 (hdr_n h) rfl (by decide) (rows (s.accts.map aN) ++ (rows s.bil ++ (row s.mul ++ (rows s.pos ++ (row s.prices ++ (rows s.holds ++ (rows (s.pays.map pN) ++ (row s.ids ++ x))))))))
  obtain ⟨B, hB⟩ : ∃ B, row (hdr s) ++ (rows (s.accts.map aN) ++ (rows s.bil ++ (row s.mul ++ (rows s.pos ++ (row s.prices ++ (rows s.holds ++ (rows (s.pays.map pN) ++ (row s.ids ++ x)))))))) = B := ⟨_, rfl⟩
  rw [hB] at h1 h2 h3 ⊢
  have q0 : hd B = hdr s := h1
  have q1 : p1 B = (rows (s.accts.map aN) ++ (rows s.bil ++ (row s.mul ++ (rows s.pos ++ (row s.prices ++ (rows s.holds ++ (rows (s.pays.map pN) ++ (row s.ids ++ x))))))), false) := by unfold p1; rw [h2, h3]
  have q2 : itA (rd (hd B) 3) (p1 B) = (s.accts, rows s.bil ++ (row s.mul ++ (rows s.pos ++ (row s.prices ++ (rows s.holds ++ (rows (s.pays.map pN) ++ (row s.ids ++ x)))))), false) := by
    rw [q0, q1]; exact itA_app s.accts h.accts _
  have q3 : pA B = (rows s.bil ++ (row s.mul ++ (rows s.pos ++ (row s.prices ++ (rows s.holds ++ (rows (s.pays.map pN) ++ (row s.ids ++ x)))))), false) := by unfold pA; rw [q2]
  have q4 : itR (rd (hd B) 4) (pA B) = (s.bil, row s.mul ++ (rows s.pos ++ (row s.prices ++ (rows s.holds ++ (rows (s.pays.map pN) ++ (row s.ids ++ x))))), false) := by
    rw [q0, q3]; exact itR_app s.bil (fun r hr => ⟨h.bil r hr, by have := b.bils r hr; omega⟩) _
  have q5 : pB B = (row s.mul ++ (rows s.pos ++ (row s.prices ++ (rows s.holds ++ (rows (s.pays.map pN) ++ (row s.ids ++ x))))), false) := by unfold pB; rw [q4]
  obtain ⟨m1, m2⟩ := nx_app s.mul h.mul (by omega) (rows s.pos ++ (row s.prices ++ (rows s.holds ++ (rows (s.pays.map pN) ++ (row s.ids ++ x)))))
  have q6 : pM B = (rows s.pos ++ (row s.prices ++ (rows s.holds ++ (rows (s.pays.map pN) ++ (row s.ids ++ x)))), false) := by unfold pM; rw [q5]; exact m2
  have q7 : itR (rd (hd B) 6) (pM B) = (s.pos, row s.prices ++ (rows s.holds ++ (rows (s.pays.map pN) ++ (row s.ids ++ x))), false) := by
    rw [q0, q6]; exact itR_app s.pos (fun r hr => ⟨h.pos r hr, by have := b.poss r hr; omega⟩) _
  have q8 : pS B = (row s.prices ++ (rows s.holds ++ (rows (s.pays.map pN) ++ (row s.ids ++ x))), false) := by unfold pS; rw [q7]
  obtain ⟨c1, c2⟩ := nx_app s.prices h.prices (by omega) (rows s.holds ++ (rows (s.pays.map pN) ++ (row s.ids ++ x)))
  have q9 : pC B = (rows s.holds ++ (rows (s.pays.map pN) ++ (row s.ids ++ x)), false) := by unfold pC; rw [q8]; exact c2
  have q10 : itR (rd (hd B) 7) (pC B) = (s.holds, rows (s.pays.map pN) ++ (row s.ids ++ x), false) := by
    rw [q0, q9]; exact itR_app s.holds (fun r hr => ⟨h.holds r hr, by have := b.holdss r hr; omega⟩) _
  have q11 : pH B = (rows (s.pays.map pN) ++ (row s.ids ++ x), false) := by unfold pH; rw [q10]
  have q12 : itP (rd (hd B) 8) (pH B) = (s.pays, row s.ids ++ x, false) := by
    rw [q0, q11]; exact itP_app s.pays h.pays _
  have q13 : pP B = (row s.ids ++ x, false) := by unfold pP; rw [q12]
  obtain ⟨d1, d2⟩ := nx_app s.ids h.ids (by omega) x
  refine ⟨?_, by unfold pI; rw [q13]; exact d2⟩
  have e5 : nextL (pB B).1 = s.mul := by rw [q5]; exact m1
  have e6 : nextL (pS B).1 = s.prices := by rw [q8]; exact c1
  have e7 : nextL (pP B).1 = s.ids := by rw [q13]; exact d1
  have e8 : (rd (hd B) 2 == 1) = s.over := by rw [q0]; cases ho : s.over <;> simp [hdr, bitN, ho, Go.Proofs.YtpcfceodbemooaaW.PrintWords.rd]
  unfold sSt
  rw [q2, q4, e5, q7, e6, q10, q12, e7, e8, q0]
  cases s
  rfl
theorem read_back {s : St} (h : ValS s) : sOk (sbytes s) = true ∧ sRead (sbytes s) = s := by
  obtain ⟨h1, h2⟩ := read_app h []
  rw [List.append_nil] at h1 h2
  have hk : sOk (sbytes s) = true := by unfold sOk; rw [h1, h2]; simp
  exact ⟨hk, by unfold sRead; rw [hk, if_pos rfl, h1]⟩
end Go.Proofs.Ytpcfceodbemooaa.B
