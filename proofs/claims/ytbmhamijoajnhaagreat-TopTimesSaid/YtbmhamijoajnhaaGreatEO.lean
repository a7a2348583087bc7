/- 'known' answers true: the kernel reckons it. -/
import Derived.Test.YtbmhamijoajnhaaGreatEN
namespace Go.Proofs.YtbmhamijoajnhaaGreat.E
open Go Go.RowKit
set_option linter.constructorNameAsVariable false
theorem callsX {P : Program} {ad : Nat} {kn : Known} {F : Facts} {d f : Nat} {l : List AV} (hP : ProgOK P ad) (hkn : KnownOK P kn) (h : isTrue (callX P F ad kn d f l ⟨.lf, 0⟩) = true) {ρ : Nat → Int} (hF : F.Sat ρ) (w : World) {args : Array Value}
    (hargs : All2 (AR (fun _ => none) ρ w) args.toList l) : CallP P f args w fun u w' => u = .bool true ∧ Below w.heap.size w w' := by
  rw [callX_eq] at h
  exact calls_true hP hkn h hF w hargs
theorem nothing_known (P : Program) : KnownOK P [] := fun f v h => by
  have h : (none : Option AV) = some v := h
  cases h
theorem nothing_sat (ρ : Nat → Int) : (Facts.mk [] []).Sat ρ := ⟨fun i lo hi h => by simp at h, fun f h => absurd h List.not_mem_nil⟩
theorem knowsX {P : Program} {ad d f : Nat} (hP : ProgOK P ad) (h : isTrue (callX P ⟨[], []⟩ ad [] d f [] ⟨.lf, 0⟩) = true) : KnownOK P [(f, .c (.b true))] := by
  intro g v hv w
  have e : knownA [(f, .c (.b true))] g = Bool.rec (motive := fun _ => Option AV) none (some (.c (.b true))) (Nat.beq g f) := rfl
  rw [e] at hv
  cases hb : Nat.beq g f with
  | false => rw [hb] at hv; cases hv
  | true =>
    rw [hb] at hv
    have h1 := beq_true hb
    have h2 := (Option.some.inj hv).symm
    subst h1
    subst h2
    exact CallP.mono (callsX hP (nothing_known P) h (nothing_sat fun _ => 0) w (args := #[]) trivial) fun _ _ h => ⟨fun _ _ _ => h.1, h.2⟩
/-- A call of a function that is entered. -/
theorem enter_of {P : Program} {f : Nat} {args : Array Value} {w : World} {K : Value → World → Prop} {fn : Func} (hf : P.funcs[f]? = some fn) (hn : (fn.name == "runtime.NumGoroutine") = false) (hc : fn.body.isSome = true) (h : CallP P f args w K) :
    Calls P f args w fun e w' => ∃ u, e = .returned u ∧ K u w' := by
  obtain ⟨c, hc⟩ := Option.isSome_iff_exists.1 hc
  have hrun : (callFunc f args).run P w = .ok (.enter f args) w := by
    unfold callFunc
    simp only [Sem.run_bind, run_program, Result.andThen_ok, hf, hn, hc]
    rfl
  unfold CallP at h
  rw [hrun] at h
  refine Calls.mono h fun e w' he => ?_
  cases e with
  | returned u => exact ⟨u, rfl, he⟩
  | panicked c => exact he.elim
  | outgrown => exact he.elim
def kn1 : Known := [(11, .c (.b true))]
theorem known_true : isTrue (callX Tryz.prog ⟨[], []⟩ 148 [] 20 11 [] ⟨.lf, 0⟩) = true := by kernel_rfl
theorem kn_ok : KnownOK Tryz.prog kn1 := @knowsX Tryz.prog 148 20 11 prog_ok known_true
end Go.Proofs.YtbmhamijoajnhaaGreat.E
