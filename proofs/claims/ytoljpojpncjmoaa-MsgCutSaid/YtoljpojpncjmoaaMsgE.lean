/- '==' of messages. -/
import Derived.Test.YtoljpojpncjmoaaMsgK
namespace Go.Proofs.Ytoljpojpncjmoaa.B
open Go.RowKit Go.Proofs.YtoljpojpncjmoaaW.PrintWords Go.Proofs.YtoljpojpncjmoaaW.PrintLast Go.Proofs.YtoljpojpncjmoaaW.PrintMore
set_option linter.unusedVariables false
set_option linter.unusedSimpArgs false

theorem eqArr6 (d : Nat) (w : World) (a0 a1 a2 a3 a4 a5 : Int) : (Op.equalIn (d + 2) 52 (.agg #[.int .i64 a0, .int .i64 a1, .int .i64 a2, .int .i64 a3, .int .i64 a4, .int .i64 a5]) (.agg #[.int .i64 a0, .int .i64 a1, .int .i64 a2, .int .i64 a3, .int .i64 a4, .int .i64 a5])).run Try.prog w = .ok true w := by
  obtain ⟨i0, hi0, hzz⟩ := Option.map_eq_some_iff.1 info2
  simp only [Prod.mk.injEq] at hzz
  obtain ⟨hz0, hz1, hz2⟩ := hzz
  have he : ∀ x : Int, (Op.equalIn (d + 1) 2 (.int .i64 x) (.int .i64 x)).run Try.prog w = .ok true w := fun x => by
    rw [run_equalIn_int (P := Try.prog) w d 2 .i64 .i64 x x Try.underlying2, beq_self_eq_true]
  have hp : ∀ (xs : Array Value) (j : Nat) (x : Int), xs[j]? = some (.int .i64 x) → (part 2 xs j).run Try.prog w = .ok (.int .i64 x) w := fun xs j x h => by
    simp [part, run_underlying (P := Try.prog) Try.underlying2, h]
  rw [Op.equalIn]
  simp [run_underlying (P := Try.prog) Try.underlying52, sizeOf, typeInfo, hi0, hz1, Result.andThen, List.range', he, hp]
theorem eqMs (d : Nat) (w : World) (k a0 a1 a2 a3 a4 a5 : Int) : (Op.equalIn (d + 3) 54 (.agg #[.int .i64 k, .int .i64 a0, .int .i64 a1, .int .i64 a2, .int .i64 a3, .int .i64 a4, .int .i64 a5]) (.agg #[.int .i64 k, .int .i64 a0, .int .i64 a1, .int .i64 a2, .int .i64 a3, .int .i64 a4, .int .i64 a5])).run Try.prog w = .ok true w := by
  rw [show (Result.ok true w : Result Bool) = .ok (true && true) w from rfl]
  refine eqA_of Try.underlying54 (by kernel_rfl) ?_
  refine eqf_cons (by rfl) (by first | (go_simp; done) | (go_simp; rfl)) (by first | (go_simp; done) | (go_simp; rfl)) (by go_simp; try simp) ?_
  exact eqf_last (by rfl) (by first | (go_simp; done) | (go_simp; rfl)) (by first | (go_simp; done) | (go_simp; rfl)) (eqArr6 d w a0 a1 a2 a3 a4 a5)
theorem eqMsRun (w : World) (k a0 a1 a2 a3 a4 a5 : Int) : (Go.binOp .eql 54 (.agg #[.int .i64 k, .int .i64 a0, .int .i64 a1, .int .i64 a2, .int .i64 a3, .int .i64 a4, .int .i64 a5]) (.agg #[.int .i64 k, .int .i64 a0, .int .i64 a1, .int .i64 a2, .int .i64 a3, .int .i64 a4, .int .i64 a5])).run Try.prog w = .ok (.bool true) w := by
  rw [run_eql_struct, eqMs 9997]
  rfl
theorem eqCmd (d : Nat) (w : World) (who k a0 a1 a2 a3 a4 a5 : Int) : (Op.equalIn (d + 4) 63 (.agg #[.int .i64 who, .int .i64 k, .int .i64 a0, .int .i64 a1, .int .i64 a2, .int .i64 a3, .int .i64 a4, .int .i64 a5]) (.agg #[.int .i64 who, .int .i64 k, .int .i64 a0, .int .i64 a1, .int .i64 a2, .int .i64 a3, .int .i64 a4, .int .i64 a5])).run Try.prog w = .ok true w := by
  rw [show (Result.ok true w : Result Bool) = .ok (true && true) w from rfl]
  refine eqA_of Try.underlying63 (by kernel_rfl) ?_
  refine eqf_cons (by rfl) (by first | (go_simp; done) | (go_simp; rfl)) (by first | (go_simp; done) | (go_simp; rfl)) (by go_simp; try simp) ?_
  exact eqf_last (by rfl) (by first | (go_simp; done) | (go_simp; rfl)) (by first | (go_simp; done) | (go_simp; rfl)) (eqMs d w k a0 a1 a2 a3 a4 a5)
end Go.Proofs.Ytoljpojpncjmoaa.B
