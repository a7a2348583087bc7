/- How a law is had from what the kernel reckons at the leaves of a tree of cases. -/
import Derived.Test.YtbmhamijoajnhaaGreatEO
namespace Go.Proofs.YtbmhamijoajnhaaGreat.E
open Go Go.RowKit
set_option linter.constructorNameAsVariable false
/-- The call returns true, whatever the unknowns are that the facts let in. -/
def T (P : Program) (f : Nat) (l : List AV) (F : Facts) : Prop := ∀ (ρ : Nat → Int), F.Sat ρ → ∀ (w : World) (args : Array Value), All2 (AR (fun _ => none) ρ w) args.toList l → CallP P f args w fun u w' => u = .bool true ∧ Below w.heap.size w w'
theorem T.leaf {P : Program} {ad : Nat} {kn : Known} {d : Nat} {f : Nat} {l : List AV} {F : Facts} (hP : ProgOK P ad) (hkn : KnownOK P kn) (h : isTrue (callX P F ad kn d f l ⟨.lf, 0⟩) = true) : T P f l F := fun _ hF w _ hargs => callsX hP hkn h hF w hargs
theorem T.split {P : Program} {f : Nat} {l : List AV} {bd : List (Int × Int)} {fs : List Lin} (e e' : Lin) (he : notE e = e') (h1 : T P f l ⟨bd, e :: fs⟩) (h2 : T P f l ⟨bd, e' :: fs⟩) : T P f l ⟨bd, fs⟩ := by
  intro ρ hF w args hargs
  by_cases h : 0 ≤ e.val ρ
  · refine h1 ρ ⟨hF.1, fun x hx => ?_⟩ w args hargs
    rcases List.mem_cons.1 hx with rfl | hx
    · exact h
    · exact hF.2 x hx
  · refine h2 ρ ⟨hF.1, fun x hx => ?_⟩ w args hargs
    rcases List.mem_cons.1 hx with rfl | hx
    · rw [← he]
      unfold notE
      rw [off_val, neg_val]
      omega
    · exact hF.2 x hx
/-- An unknown as an argument. -/
def x0 (i : Nat) : AV := .c (.x .i64 (.mk (.ofNat 0) [(i, .ofNat 1)]))
def i0 (n : Int) : AV := .c (.i .i64 n)
def b0 (b : Bool) : AV := .c (.b b)
theorem x0_ok {μ : Mu} {ρ : Nat → Int} {w : World} {i : Nat} {x : Int} (h : ρ i = x) : AR μ ρ w (.int .i64 x) (x0 i) := by
  subst h
  show Value.int .i64 (ρ i) = .int .i64 (1 * ρ i + 0)
  rw [Int.one_mul, Int.add_zero]
/-- Bounds, one behind the other. -/
def In (ρ : Nat → Int) : Nat → List (Int × Int) → Prop
  | _, [] => True
  | n, p :: r => (p.1 ≤ ρ n ∧ ρ n ≤ p.2) ∧ In ρ (n + 1) r
theorem In.get {ρ : Nat → Int} : ∀ (l : List (Int × Int)) (n i : Nat) (lo hi : Int), In ρ n l → l[i]? = some (lo, hi) → lo ≤ ρ (n + i) ∧ ρ (n + i) ≤ hi
  | [], _, _, _, _, _, h => by simp at h
  | p :: r, n, 0, lo, hi, h, hi' => by
    simp only [List.getElem?_cons_zero, Option.some.injEq] at hi'
    have h1 := h.1
    rw [hi'] at h1
    exact h1
  | p :: r, n, i + 1, lo, hi, h, hi' => by
    have := In.get r (n + 1) i lo hi h.2 (by simpa using hi')
    rw [show n + (i + 1) = n + 1 + i by omega]
    exact this
theorem sat_of {ρ : Nat → Int} {bd : List (Int × Int)} (h : In ρ 0 bd) : (Facts.mk bd []).Sat ρ :=
  ⟨fun i lo hi hi' => by have := In.get bd 0 i lo hi h hi'; rwa [Nat.zero_add] at this, fun x hx => absurd hx List.not_mem_nil⟩
/-- What the law asks. -/
theorem T.calls {P : Program} {f : Nat} {l : List AV} {bd : List (Int × Int)} (h : T P f l ⟨bd, []⟩) (ρ : Nat → Int) (hb : In ρ 0 bd) (w : World) {args : Array Value} (hargs : All2 (AR (fun _ => none) ρ w) args.toList l)
    {fn : Func} (hf : P.funcs[f]? = some fn) (hn : (fn.name == "runtime.NumGoroutine") = false) (hc : fn.body.isSome = true) :
    Calls P f args w fun e w' => e = .returned (.bool true) ∧ Below w.heap.size w w' :=
  Calls.mono (enter_of hf hn hc (h ρ (sat_of hb) w args hargs)) fun _ _ ⟨_, he, hu, hb⟩ => ⟨by rw [he, hu], hb⟩
end Go.Proofs.YtbmhamijoajnhaaGreat.E
