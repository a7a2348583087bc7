/- Snap: a state's bytes, plainly; what the printed walk of giroref24.Bytes answers. -/
import Derived.Test.YtpcfceodbemooaaS2
namespace Go.Proofs.Ytpcfceodbemooaa.B
open Go.RowKit Go.Proofs.YtpcfceodbemooaaW.PrintWords Go.Proofs.YtpcfceodbemooaaW.PrintLast Go.Proofs.YtpcfceodbemooaaW.PrintMore Go.Proofs.Ytpcfceodbemooaa.PSnapBytes
set_option linter.unusedVariables false
set_option linter.unusedSimpArgs false

def bitN (b : Bool) : Int := if b then 1 else 0
/-- The first row. -/
def hdr (s : St) : List Int := [s.tick, s.total, bitN s.over, (s.accts.length : Int), (s.bil.length : Int), (s.mul.length : Int), (s.pos.length : Int), (s.holds.length : Int), (s.pays.length : Int)]
def aN (a : S41) : List Int := [a.f0, a.f1, a.f2]
def pN (p : S43) : List Int := [p.f0, p.f1, p.f2, p.f3, p.f4, p.f5, p.f6]
/-- Rows as bytes. -/
def rows (l : List (List Int)) : List Int := l.flatMap row
theorem rows_nil : rows [] = [] := rfl
theorem rows_cons (r : List Int) (l : List (List Int)) : rows (r :: l) = row r ++ rows l := rfl
theorem rows_append (a b : List (List Int)) : rows (a ++ b) = rows a ++ rows b := List.flatMap_append
theorem rows_one (r : List Int) : rows [r] = row r := by rw [rows_cons, rows_nil, List.append_nil]
theorem rows_bytes (l : List (List Int)) : IsB (rows l) := by
  induction l with
  | nil => exact IsB.nil
  | cons r l ih => rw [rows_cons]; exact (row_bytes r).append ih
/-- A state's rows. -/
def rowsOf (s : St) : List (List Int) := [hdr s] ++ s.accts.map aN ++ s.bil ++ [s.mul] ++ s.pos ++ [s.prices] ++ s.holds ++ s.pays.map pN ++ [s.ids]
/-- A state's bytes. -/
def sbytes (s : St) : List Int := rows (rowsOf s)
theorem sbytes_bytes (s : St) : IsB (sbytes s) := rows_bytes _
theorem sbytes_eq (s : St) : sbytes s = row (hdr s) ++ rows (s.accts.map aN) ++ rows s.bil ++ row s.mul ++ rows s.pos ++ row s.prices ++ rows s.holds ++ rows (s.pays.map pN) ++ row s.ids := by
  unfold sbytes rowsOf
  simp only [rows_append, rows_one]

end Go.Proofs.Ytpcfceodbemooaa.B
