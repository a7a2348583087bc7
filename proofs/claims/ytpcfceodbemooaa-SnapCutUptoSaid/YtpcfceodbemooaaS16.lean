/- Snap: a state's bytes cut short, or with a byte more, are none: plainly. -/
import Derived.Test.YtpcfceodbemooaaS13
import Derived.Laws.BitsLemmas
namespace Go.Proofs.Ytpcfceodbemooaa.B
open Go.RowKit Go.Proofs.YtpcfceodbemooaaW.PrintWords Go.Proofs.YtpcfceodbemooaaW.PrintLast Go.Proofs.YtpcfceodbemooaaW.PrintMore Go.Proofs.Ytpcfceodbemooaa.PSnapBytes
set_option linter.unusedVariables false
set_option linter.unusedSimpArgs false
def In64 (x : Int) : Prop := -9223372036854775808 ≤ x ∧ x < 9223372036854775808
theorem dec8_n (b : List Int) : In64 (dec8 b) := dec8_bd b
theorem getn_n : ∀ (n : Nat) (b : List Int), IsN (getn n b)
  | 0, _ => fun _ h => (List.not_mem_nil h).elim
  | n + 1, b => fun x hx => by
    rcases List.mem_cons.1 hx with rfl | hx
    · exact dec8_n _
    · exact getn_n n _ x hx
theorem nextL_n (b : List Int) : IsN (nextL b) := by
  unfold nextL
  split
  · exact getn_n _ _
  · exact fun _ h => (List.not_mem_nil h).elim
theorem jsL_n (n : Nat) (b : List Int) : IsN (jsL n b) := by
  unfold jsL
  split
  · exact nextL_n b
  · intro x hx
    rw [List.eq_of_mem_replicate hx]
    exact ⟨by decide, by decide⟩
theorem rd_n {l : List Int} (h : IsN l) (i : Int) : In64 (rd l i) := by
  unfold rd
  rw [List.getD_eq_getElem?_getD]
  rcases Nat.lt_or_ge i.toNat l.length with hi | hi
  · rw [List.getElem?_eq_getElem hi]; exact h _ (List.getElem_mem _)
  · rw [List.getElem?_eq_none hi]; exact ⟨by decide, by decide⟩
theorem mkA_n (b : List Int) : IsN (aN (mkA b)) := by
  intro x hx
  have h := jsL_n 3 b
  simp only [aN, mkA, List.mem_cons, List.not_mem_nil, or_false] at hx
  rcases hx with rfl | rfl | rfl <;> exact rd_n h _
theorem mkP_n (b : List Int) : IsN (pN (mkP b)) := by
  intro x hx
  have h := jsL_n 7 b
  simp only [pN, mkP, List.mem_cons, List.not_mem_nil, or_false] at hx
  rcases hx with rfl | rfl | rfl | rfl | rfl | rfl | rfl <;> exact rd_n h _
theorem its_all {α : Type} (rd : List Int → α) (bd : List Int → Bool → Bool) (Q : α → Prop) (hq : ∀ b, Q (rd b)) : ∀ (f : Nat) (n : Int) (b : List Int) (bad : Bool), ∀ y ∈ (its rd bd f n b bad).1, Q y := by
  intro f
  induction f with
  | zero => intro n b bad y hy; cases hy
  | succ f ih =>
    intro n b bad y hy
    by_cases c : 0 < n ∧ bad = false
    · rw [its_go rd bd c.1 c.2] at hy
      rcases List.mem_cons.1 hy with rfl | hy
      · exact hq b
      · exact ih _ _ _ y hy
    · rw [its_end rd bd c] at hy; cases hy
theorem Bd.mono {s : St} {M N : Nat} (h : s.Bd M) (hn : M ≤ N) : s.Bd N :=
  ⟨Nat.le_trans h.accts hn, Nat.le_trans h.bil hn, fun r hr => Nat.le_trans (h.bils r hr) hn, Nat.le_trans h.mul hn, Nat.le_trans h.pos hn, fun r hr => Nat.le_trans (h.poss r hr) hn, Nat.le_trans h.prices hn, Nat.le_trans h.holds hn, fun r hr => Nat.le_trans (h.holdss r hr) hn, Nat.le_trans h.pays hn, Nat.le_trans h.ids hn⟩
/-- What is read are int64s. -/
theorem sSt_val (b : List Int) (h : b.length ≤ 90000000) : ValS (sSt b) :=
  ⟨rd_n (jsL_n 9 b) 0, rd_n (jsL_n 9 b) 1, its_all mkA (jsB 3) _ mkA_n _ _ _ _, its_all mkP (jsB 7) _ mkP_n _ _ _ _, its_all nextL rowB _ nextL_n _ _ _ _, nextL_n _, its_all nextL rowB _ nextL_n _ _ _ _, nextL_n _, its_all nextL rowB _ nextL_n _ _ _ _, nextL_n _, Bd.mono (sSt_bd b) (by omega)⟩
/-- Cut short: none. -/
theorem cut_none {s : St} (h : ValS s) {m : Nat} (hm : m < (sbytes s).length) (hl : (sbytes s).length ≤ 90000000) : sOk ((sbytes s).take m) = false := by
  cases hk : sOk ((sbytes s).take m)
  · rfl
  exfalso
  unfold sOk at hk
  rw [Bool.and_eq_true, decide_eq_true_iff] at hk
  have h1 := read_app (sSt_val ((sbytes s).take m) (by rw [List.length_take]; omega)) ((sbytes s).drop m)
  rw [hk.2, List.take_append_drop] at h1
  have h2 := read_app h []
  rw [List.append_nil] at h2
  have h3 : (sbytes s).drop m = [] := by
    have := h1.2.symm.trans h2.2
    exact congrArg Prod.fst this
  have := congrArg List.length h3
  rw [List.length_drop, List.length_nil] at this
  omega
/-- A byte more: none. -/
theorem more_none {s : St} (h : ValS s) (x : Int) : sOk (sbytes s ++ [x]) = false := by
  have h1 := read_app h [x]
  unfold sOk
  rw [h1.1, Bool.and_eq_false_iff]
  refine Or.inr (decide_eq_false fun e => ?_)
  have := congrArg List.length e
  rw [List.length_append, List.length_singleton] at this
  omega
/-- The cut's place. -/
theorem mask20 (x : Int) : ∃ n : Nat, Go.bits .and .i64 x 1048575 = (n : Int) ∧ n ≤ 1048575 := by
  refine ⟨(BitVec.ofInt 64 x &&& BitVec.ofInt 64 1048575).toNat, ?_, ?_⟩
  · have h : (BitVec.ofInt 64 x &&& BitVec.ofInt 64 1048575).toNat ≤ 1048575 := by
      rw [BitVec.toNat_and]; exact Nat.and_le_right
    show IntKind.i64.wrap _ = _
    rw [IntKind.wrap_i64]
    show (((BitVec.ofInt 64 x &&& BitVec.ofInt 64 1048575).toNat : Int) + 9223372036854775808) % 18446744073709551616 - 9223372036854775808 = _
    omega
  · rw [BitVec.toNat_and]; exact Nat.and_le_right
end Go.Proofs.Ytpcfceodbemooaa.B
