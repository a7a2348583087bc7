/- Snap: bytes as a state, plainly. -/
import Derived.Test.YtpcfceodbemooaaS6
namespace Go.Proofs.Ytpcfceodbemooaa.B
open Go.RowKit Go.Proofs.YtpcfceodbemooaaW.PrintWords Go.Proofs.YtpcfceodbemooaaW.PrintLast Go.Proofs.YtpcfceodbemooaaW.PrintMore Go.Proofs.Ytpcfceodbemooaa.PSnapBytes
set_option linter.unusedVariables false
set_option linter.unusedSimpArgs false

def mkA (b : List Int) : S41 := ⟨rd (jsL 3 b) 0, rd (jsL 3 b) 1, rd (jsL 3 b) 2⟩
def mkP (b : List Int) : S43 := ⟨rd (jsL 7 b) 0, rd (jsL 7 b) 1, rd (jsL 7 b) 2, rd (jsL 7 b) 3, rd (jsL 7 b) 4, rd (jsL 7 b) 5, rd (jsL 7 b) 6⟩
def itA (n : Int) (p : List Int × Bool) : List S41 × List Int × Bool := its mkA (jsB 3) (p.1.length + 2) n p.1 p.2
def itR (n : Int) (p : List Int × Bool) : List (List Int) × List Int × Bool := its nextL rowB (p.1.length + 2) n p.1 p.2
def itP (n : Int) (p : List Int × Bool) : List S43 × List Int × Bool := its mkP (jsB 7) (p.1.length + 2) n p.1 p.2
def hd (b : List Int) : List Int := jsL 9 b
def p1 (b : List Int) : List Int × Bool := (nextR b, jsB 9 b false)
def pA (b : List Int) : List Int × Bool := (itA (rd (hd b) 3) (p1 b)).2
def pB (b : List Int) : List Int × Bool := (itR (rd (hd b) 4) (pA b)).2
def nx (p : List Int × Bool) : List Int × Bool := (nextR p.1, rowB p.1 p.2)
def pM (b : List Int) : List Int × Bool := nx (pB b)
def pS (b : List Int) : List Int × Bool := (itR (rd (hd b) 6) (pM b)).2
def pC (b : List Int) : List Int × Bool := nx (pS b)
def pH (b : List Int) : List Int × Bool := (itR (rd (hd b) 7) (pC b)).2
def pP (b : List Int) : List Int × Bool := (itP (rd (hd b) 8) (pH b)).2
def pI (b : List Int) : List Int × Bool := nx (pP b)
/-- The state that is read, well or not. -/
def sSt (b : List Int) : St := ⟨rd (hd b) 0, (itA (rd (hd b) 3) (p1 b)).1, (itR (rd (hd b) 4) (pA b)).1, nextL (pB b).1, (itR (rd (hd b) 6) (pM b)).1, nextL (pS b).1, (itR (rd (hd b) 7) (pC b)).1, (itP (rd (hd b) 8) (pH b)).1, nextL (pP b).1, rd (hd b) 1, rd (hd b) 2 == 1⟩
def sOk (b : List Int) : Bool := !(pI b).2 && decide (sbytes (sSt b) = b)
def st0 : St := ⟨0, [], [], [], [], [], [], [], [], 0, false⟩
def sRead (b : List Int) : St := if sOk b = true then sSt b else st0

theorem next_len {b : List Int} (h : nextB b = true) : b.length = (row (nextL b)).length + (nextR b).length := by
  have h0 := h
  unfold nextB at h0
  simp only [Bool.and_eq_true, decide_eq_true_iff] at h0
  rw [row_length]
  unfold nextL nextR
  rw [if_pos h, if_pos h, List.length_drop]
  unfold gets
  rw [getn_length]
  have h1 : ((b.drop 8).take (8 * (nextN b).toNat)).length = 8 * (nextN b).toNat := by rw [List.length_take, List.length_drop]; omega
  rw [h1]
  omega
theorem its_len {α : Type} (rd : List Int → α) (bd : List Int → Bool → Bool) (en : α → List Int) (hbd : ∀ b bad, bd b bad = false → bad = false ∧ nextB b = true ∧ (en (rd b)).length = (nextL b).length) :
    ∀ (f : Nat) (n : Int) (b : List Int) (bad : Bool), (its rd bd f n b bad).2.2 = false → bad = false ∧ b.length = (rows ((its rd bd f n b bad).1.map en)).length + (its rd bd f n b bad).2.1.length := by
  intro f
  induction f with
  | zero => intro n b bad h; exact ⟨h, by simp [its, rows_nil]⟩
  | succ f ih =>
    intro n b bad h
    by_cases c : 0 < n ∧ bad = false
    · rw [its_go rd bd c.1 c.2] at h ⊢
      obtain ⟨h1, h2⟩ := ih (n - 1) (nextR b) (bd b bad) h
      obtain ⟨_, h4, h5⟩ := hbd b bad h1
      refine ⟨c.2, ?_⟩
      have h6 := next_len h4
      rw [List.map_cons, rows_cons, List.length_append, row_length, h5, ← row_length]
      have h7 : (its rd bd f (n - 1) (nextR b) (bd b bad)).2.1.length = (rd b :: (its rd bd f (n - 1) (nextR b) (bd b bad)).1, (its rd bd f (n - 1) (nextR b) (bd b bad)).2).2.1.length := rfl
      omega
    · rw [its_end rd bd c] at h ⊢
      exact ⟨h, by simp [rows_nil]⟩
theorem rowB_all {b : List Int} {bad : Bool} (h : rowB b bad = false) : bad = false ∧ nextB b = true ∧ (nextL b).length = (nextL b).length := by
  refine ⟨?_, rowB_ok h, rfl⟩
  unfold rowB at h
  cases bad
  · rfl
  · cases h
theorem jsB_len {n : Nat} {b : List Int} {bad : Bool} (h : jsB n b bad = false) : (nextL b).length = n ∧ rowB b bad = false := by
  unfold jsB at h
  split at h
  · exact ⟨by assumption, h⟩
  · cases h
theorem jsA_all {b : List Int} {bad : Bool} (h : jsB 3 b bad = false) : bad = false ∧ nextB b = true ∧ (aN (mkA b)).length = (nextL b).length := by
  obtain ⟨h1, h2⟩ := jsB_len h
  exact ⟨(rowB_all h2).1, rowB_ok h2, by rw [h1]; rfl⟩
theorem jsP_all {b : List Int} {bad : Bool} (h : jsB 7 b bad = false) : bad = false ∧ nextB b = true ∧ (pN (mkP b)).length = (nextL b).length := by
  obtain ⟨h1, h2⟩ := jsB_len h
  exact ⟨(rowB_all h2).1, rowB_ok h2, by rw [h1]; rfl⟩
theorem map_id_rows (l : List (List Int)) : l.map (fun r => r) = l := List.map_id l
theorem nx_len {p : List Int × Bool} (h : (nx p).2 = false) : p.2 = false ∧ p.1.length = (row (nextL p.1)).length + (nx p).1.length := by
  obtain ⟨h1, h2, _⟩ := rowB_all h
  exact ⟨h1, next_len h2⟩
/-- Where all went well, what is left is what the state's bytes do not take. -/
theorem read_len {b : List Int} (h : (pI b).2 = false) : b.length = (sbytes (sSt b)).length + (pI b).1.length := by
  obtain ⟨h1, e1⟩ := nx_len h
  obtain ⟨h2, e2⟩ := its_len mkP (jsB 7) pN (fun _ _ => jsP_all) _ _ _ _ h1
  obtain ⟨h3, e3⟩ := its_len nextL rowB (fun r => r) (fun _ _ => rowB_all) _ _ _ _ h2
  obtain ⟨h4, e4⟩ := nx_len h3
  obtain ⟨h5, e5⟩ := its_len nextL rowB (fun r => r) (fun _ _ => rowB_all) _ _ _ _ h4
  obtain ⟨h6, e6⟩ := nx_len h5
  obtain ⟨h7, e7⟩ := its_len nextL rowB (fun r => r) (fun _ _ => rowB_all) _ _ _ _ h6
  obtain ⟨h8, e8⟩ := its_len mkA (jsB 3) aN (fun _ _ => jsA_all) _ _ _ _ h7
  obtain ⟨h9, h10⟩ := jsB_len h8
  have e9 := next_len (rowB_ok h10)
  rw [map_id_rows] at e3 e5 e7
  have e10 : (row (hdr (sSt b))).length = (row (nextL b)).length := by rw [row_length, row_length, h9]; rfl
  rw [sbytes_eq]
  simp only [List.length_append]
  have g1 : b.length = (row (nextL b)).length + (p1 b).1.length := e9
  have g2 : (p1 b).1.length = (rows ((sSt b).accts.map aN)).length + (pA b).1.length := e8
  have g3 : (pA b).1.length = (rows (sSt b).bil).length + (pB b).1.length := e7
  have g4 : (pB b).1.length = (row (sSt b).mul).length + (pM b).1.length := e6
  have g5 : (pM b).1.length = (rows (sSt b).pos).length + (pS b).1.length := e5
  have g6 : (pS b).1.length = (row (sSt b).prices).length + (pC b).1.length := e4
  have g7 : (pC b).1.length = (rows (sSt b).holds).length + (pH b).1.length := e3
  have g8 : (pH b).1.length = (rows ((sSt b).pays.map pN)).length + (pP b).1.length := e2
  have g9 : (pP b).1.length = (row (sSt b).ids).length + (pI b).1.length := e1
  omega
/-- Sizes: nothing that is read is longer than the bytes. -/
theorem its_left {α : Type} (rd : List Int → α) (bd : List Int → Bool → Bool) : ∀ (f : Nat) (n : Int) (b : List Int) (bad : Bool), (its rd bd f n b bad).2.1.length ≤ b.length ∧ (its rd bd f n b bad).1.length ≤ f := by
  intro f
  induction f with
  | zero => intro n b bad; exact ⟨Nat.le_refl _, Nat.le_refl _⟩
  | succ f ih =>
    intro n b bad
    by_cases c : 0 < n ∧ bad = false
    · rw [its_go rd bd c.1 c.2]
      obtain ⟨h1, h2⟩ := ih (n - 1) (nextR b) (bd b bad)
      have h3 := nextR_len b
      exact ⟨Nat.le_trans h1 h3, by simp; omega⟩
    · rw [its_end rd bd c]; exact ⟨Nat.le_refl _, Nat.zero_le _⟩
theorem itR_rows : ∀ (f : Nat) (n : Int) (b : List Int) (bad : Bool), ∀ r ∈ (its nextL rowB f n b bad).1, r.length ≤ b.length := by
  intro f
  induction f with
  | zero => intro n b bad r hr; cases hr
  | succ f ih =>
    intro n b bad r hr
    by_cases c : 0 < n ∧ bad = false
    · rw [its_go nextL rowB c.1 c.2] at hr
      rcases List.mem_cons.1 hr with rfl | hr
      · exact nextL_len b
      · exact Nat.le_trans (ih _ _ _ r hr) (nextR_len b)
    · rw [its_end nextL rowB c] at hr; cases hr
theorem p1_le (b : List Int) : (p1 b).1.length ≤ b.length := nextR_len b
theorem pA_le (b : List Int) : (pA b).1.length ≤ b.length := Nat.le_trans (its_left _ _ _ _ _ _).1 (p1_le b)
theorem pB_le (b : List Int) : (pB b).1.length ≤ b.length := Nat.le_trans (its_left _ _ _ _ _ _).1 (pA_le b)
theorem pM_le (b : List Int) : (pM b).1.length ≤ b.length := Nat.le_trans (nextR_len _) (pB_le b)
theorem pS_le (b : List Int) : (pS b).1.length ≤ b.length := Nat.le_trans (its_left _ _ _ _ _ _).1 (pM_le b)
theorem pC_le (b : List Int) : (pC b).1.length ≤ b.length := Nat.le_trans (nextR_len _) (pS_le b)
theorem pH_le (b : List Int) : (pH b).1.length ≤ b.length := Nat.le_trans (its_left _ _ _ _ _ _).1 (pC_le b)
theorem pP_le (b : List Int) : (pP b).1.length ≤ b.length := Nat.le_trans (its_left _ _ _ _ _ _).1 (pH_le b)
theorem sSt_bd (b : List Int) : (sSt b).Bd (b.length + 2) := by
  have a1 := p1_le b; have a2 := pA_le b; have a3 := pB_le b; have a4 := pM_le b; have a5 := pS_le b; have a6 := pC_le b; have a7 := pH_le b; have a8 := pP_le b
  refine ⟨?_, ?_, fun r hr => ?_, ?_, ?_, fun r hr => ?_, ?_, ?_, fun r hr => ?_, ?_, ?_⟩
  · have := (its_left mkA (jsB 3) ((p1 b).1.length + 2) (rd (hd b) 3) (p1 b).1 (p1 b).2).2; show (itA _ _).1.length ≤ _; unfold itA; omega
  · have := (its_left nextL rowB ((pA b).1.length + 2) (rd (hd b) 4) (pA b).1 (pA b).2).2; show (itR _ _).1.length ≤ _; unfold itR; omega
  · have := itR_rows _ _ _ _ r hr; omega
  · have := nextL_len (pB b).1; show (nextL _).length ≤ _; omega
  · have := (its_left nextL rowB ((pM b).1.length + 2) (rd (hd b) 6) (pM b).1 (pM b).2).2; show (itR _ _).1.length ≤ _; unfold itR; omega
  · have := itR_rows _ _ _ _ r hr; omega
  · have := nextL_len (pS b).1; show (nextL _).length ≤ _; omega
  · have := (its_left nextL rowB ((pC b).1.length + 2) (rd (hd b) 7) (pC b).1 (pC b).2).2; show (itR _ _).1.length ≤ _; unfold itR; omega
  · have := itR_rows _ _ _ _ r hr; omega
  · have := (its_left mkP (jsB 7) ((pH b).1.length + 2) (rd (hd b) 8) (pH b).1 (pH b).2).2; show (itP _ _).1.length ≤ _; unfold itP; omega
  · have := nextL_len (pP b).1; show (nextL _).length ≤ _; omega
end Go.Proofs.Ytpcfceodbemooaa.B

