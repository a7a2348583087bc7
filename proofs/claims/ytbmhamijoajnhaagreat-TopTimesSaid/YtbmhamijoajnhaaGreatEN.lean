/- The given program bears the reckoning; 'known' answers true. -/
import Derived.Test.YtbmhamijoajnhaaGreatEL
import Derived.Test.YtbmhamijoajnhaaGreatChecked
import Derived.KernelRfl
import Derived.Eval
namespace Go.Proofs.YtbmhamijoajnhaaGreat.E
open Go Go.RowKit

/-- The name of no function is that of the runtime's count. -/
theorem names_ok : (Tryz.prog.funcs.toList.all fun fn => !(fn.name == "runtime.NumGoroutine")) = true := by kernel_rfl
def addFn (args : Array Value) : Sem Value := do
  let (x, y, c) ← Extern.MathBitsCarry.three "Add64" args
  pure (Extern.MathBitsCarry.pair ((x + y + c) % Extern.MathBitsCarry.m64) ((x + y + c) / Extern.MathBitsCarry.m64))
theorem add_body : Tryz.f148.body.isNone = true := by kernel_rfl
theorem add_name : (Tryz.f148.name == "runtime.NumGoroutine") = false := by kernel_rfl
theorem add_next : (Extern.findNext Tryz.f148).isNone = true := by kernel_rfl
theorem add_find : Extern.find Tryz.f148 = some addFn := by kernel_rfl
theorem prog_ok : ProgOK Tryz.prog 148 := by
  refine ⟨Tryz.checked.mixed, fun f fn h => ?_, fun x y c hc w => ?_⟩
  · have := List.all_eq_true.1 names_ok fn (by rw [Array.mem_toList_iff]; exact Array.mem_of_getElem? h)
    simpa using this
  · have h3 : Extern.findNext Tryz.f148 = none := by simpa using add_next
    unfold callFunc
    simp only [Sem.run_bind, run_program, Result.andThen_ok, Tryz.func148, add_name, add_body, h3, add_find, run_mark, Bool.false_eq_true, if_false, if_true]
    have e : Extern.MathBitsCarry.three "Add64" #[.int .u64 x, .int .u64 y, .int .u64 c] = (do
        let c := (← asInt (.int .u64 c)).toNat
        if c > 1 then unsupported (.noEntry ("extern/math/bits." ++ "Add64" ++ ": a carry that is neither 0 nor 1"))
        pure ((← asInt (.int .u64 x)).toNat, (← asInt (.int .u64 y)).toNat, c)) := rfl
    have hc' : ¬ (c > 1) := by omega
    have h : (Extern.MathBitsCarry.three "Add64" #[.int .u64 x, .int .u64 y, .int .u64 c]).run Tryz.prog w = .ok (x, y, c) w := by
      rw [e]
      simp only [asInt, asIntOf, pure_bind, Int.toNat_natCast, if_neg hc', Sem.run_pure]
    have h2 : (addFn #[.int .u64 x, .int .u64 y, .int .u64 c]).run Tryz.prog w = .ok (Extern.MathBitsCarry.pair ((x + y + c) % Extern.MathBitsCarry.m64) ((x + y + c) / Extern.MathBitsCarry.m64)) w := by
      unfold addFn
      rw [Sem.run_bind, h]
      rfl
    simp only [h2, Result.andThen_ok, Sem.run_pure]
    rfl
end Go.Proofs.YtbmhamijoajnhaaGreat.E
