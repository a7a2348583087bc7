/- What is wanted; regions in the order of their text. Nothing of the program. -/
import Derived.Test.YtbmhamijoajnhaaGreatED
namespace Go.Proofs.YtbmhamijoajnhaaGreat.E
open Go Go.RowKit
section
variable {X : Nat → Prop} {P : Program} {F : Facts} {cl : CallT} {μ : Mu} {ρ : Nat → Int} {B : Nat} {w : World} {M : Mem} {a : Act} {nt : Nat} {t : PT AV} {ops : Array Oper} {o : Oper}

/-- The temporaries that an operation looks at are as they are reckoned. -/
def Agree (μ : Mu) (ρ : Nat → Int) (w : World) (ops : Array Oper) (o : Oper) (a : Act) (t : PT AV) : Prop := ∀ d v, d ∈ looksO ops o → t.get d = some v → ∃ u, a.tmps[d]? = some u ∧ AR μ ρ w u v
theorem TR.agree (h : TR nt μ ρ w a t) : Agree μ ρ w ops o a t := fun d v _ hd => h.tmp d v hd
theorem wantA_ok (h : Agree μ ρ w ops o a t) {b : Bool} (hl : wantA t ops o = .ok b) : Region.wanted o (yielded ops a.tmps) = b := by
  unfold wantA at hl
  unfold Region.wanted
  cases hg : o.guard with
  | none => rw [hg] at hl; cases hl; rfl
  | some g =>
    rw [hg] at hl
    obtain ⟨j, want⟩ := g
    obtain ⟨y, hy, hl⟩ := bind_ok hl
    cases hl
    have key : yielded ops a.tmps j = y := by
      unfold yieldA at hy
      unfold yielded
      cases hd : (ops[j]?).bind (·.dst) with
      | none => rw [hd] at hy; cases hy; rfl
      | some d =>
        rw [hd] at hy
        obtain ⟨v, hv, hy⟩ := bind_ok hy
        obtain ⟨u, hu, hur⟩ := h d v (by unfold looksO Oper.looksAt; rw [hg]; simp [hd]) (ofOpt_ok hv)
        show (match a.tmps[d]? with | some (.bool b) => some b | _ => none) = y
        rw [hu]
        split at hy
        · cases hy
          have e : u = .bool _ := hur
          subst e; rfl
        · cases hy
          obtain ⟨vs, rfl, _⟩ := hur
          rfl
        · cases hy
    show (yielded ops a.tmps j == some want) = beqO y want
    rw [key]
    cases y with
    | none => rfl
    | some b => show (some b == some want) = beqB b want; rw [beqB_eq]; rfl
/-- What an operation sees. -/
noncomputable def seeO (ops : Array Oper) (o : Oper) (t : PT AV) (x : Operand) : Res AV := match x with
  | .tmp d => if d ∈ looksO ops o then ofOpt 22 (t.get d) else .no (.n 22)
  | x => evO t x
theorem seeO_ok (h : Agree μ ρ w ops o a t) : ∀ x v, seeO ops o t x = .ok v → AR μ ρ w (a.eval x) v := by
  intro x v hx
  cases x with
  | tmp d =>
    unfold seeO at hx
    by_cases hd : d ∈ looksO ops o
    · simp only [if_pos hd] at hx
      obtain ⟨u, h1, h2⟩ := h d v hd (ofOpt_ok hx)
      show AR μ ρ w (a.tmps.getD d undef) v
      rw [getD_some h1]; exact h2
    · simp only [if_neg hd] at hx; cases hx
  | const c => exact ofV_ok hx
  | func f => cases hx; exact ⟨#[], rfl, trivial⟩
  | global g => cases hx
theorem see_eq {x : Operand} (hx : x ∈ o.op.operands) : evO t x = seeO ops o t x := by
  cases x with
  | tmp d =>
    have hd : d ∈ looksO ops o := List.mem_append_left _ (List.mem_filterMap.2 ⟨.tmp d, by simpa using hx, rfl⟩)
    unfold seeO
    simp only [if_pos hd]
    rfl
  | _ => rfl
theorem opA_see {op : Op} (ho : o.op = op) : opA P F cl (evO t) op M = opA P F cl (seeO ops o t) op M := opA_congr op fun x hx => see_eq (by rw [ho]; exact hx)
theorem newA_see {op : Op} (ho : o.op = op) : newA P (evO t) op = newA P (seeO ops o t) op := newA_congr op fun x hx => see_eq (by rw [ho]; exact hx)

/-- What a region leaves. -/
def Left (X : Nat → Prop) (nt : Nat) (μ : Mu) (ρ : Nat → Int) (B : Nat) (w : World) (a : Act) (t' : PT AV) (M' : Mem) (a' : Act) (w' : World) : Prop :=
  ∃ μ', TR nt μ' ρ w' a' t' ∧ a'.defers = a.defers ∧ MR X μ' ρ B w' M' ∧ Ste B μ w μ' w'
theorem put_defers (a : Act) (d : Option Nat) (v : Value) : (a.put d v).defers = a.defers := by cases d <;> rfl
theorem seq_ok (hF : F.Sat ρ) (hcl : CallOK P F cl) {Q : Exit → Act → World → Prop} : ∀ (l : List Oper) (k : Nat) (t : PT AV) (M : Mem) (μ : Mu) (a : Act) (w : World) {t' : PT AV} {M' : Mem},
    (∀ j o, l[j]? = some o → ops[k + j]? = some o) → opsA P F cl nt ops l t M = .ok (t', M') → TR nt μ ρ w a t → MR X μ ρ B w M → B ≤ w.heap.size →
    (∀ a' w', Left X nt μ ρ B w a t' M' a' w' → Q .normal a' w') → wpOps P ops Q (List.range' k l.length) a w
  | [], k, t, M, μ, a, w, t', M', _, hl, hT, hM, _, hQ => by
    cases hl
    exact hQ a w ⟨μ, hT, rfl, hM, Ste.refl B μ w⟩
  | o :: l, k, t, M, μ, a, w, t', M', hops, hl, hT, hM, hB, hQ => by
    have ho : ops[k]? = some o := by have := hops 0 o rfl; simpa using this
    have hrest : ∀ j o', l[j]? = some o' → ops[k + 1 + j]? = some o' := fun j o' hj => by have := hops (j + 1) o' (by simpa using hj); rwa [show k + (j + 1) = k + 1 + j by omega] at this
    rw [List.length_cons, List.range'_succ]
    simp only [wpOps, ho]
    have e : opsA P F cl nt ops (o :: l) t M = (wantA t ops o).bind fun w => Bool.rec (motive := fun _ => Res TM) ((putT nt t o.dst undA).bind fun t => opsA P F cl nt ops l t M) (stepO P F cl nt o t M (opsA P F cl nt ops l)) w := rfl
    rw [e] at hl
    obtain ⟨b, hb, hl⟩ := bind_ok hl
    have hw := wantA_ok (ops := ops) hT.agree hb
    cases b with
    | false =>
      obtain ⟨t1, ht1, hl⟩ := bind_ok hl
      simp only [hw, Bool.false_eq_true, if_false]
      refine seq_ok hF hcl l (k + 1) t1 M μ (a.put o.dst undef) w hrest hl (hT.put (AR.und μ ρ w) ht1) hM hB fun a' w' hL => ?_
      obtain ⟨μ', h1, h2, h3, h4⟩ := hL
      exact hQ a' w' ⟨μ', h1, by rw [h2, put_defers], h3, h4⟩
    | true =>
      obtain ⟨q, hq, hl⟩ := bind_ok hl
      simp only [frc_eq, frcM_eq] at hl
      obtain ⟨t1, ht1, hl⟩ := bind_ok hl
      simp only [frcT_eq] at hl
      simp only [hw, if_true]
      refine .inl (op_ok hF hcl hM hB (fun x v hx => evO_ok hT hx) (v := q.1) (M' := q.2) hq _ Q fun u μ' w' hu hM' hS => ?_)
      refine seq_ok hF hcl l (k + 1) t1 q.2 μ' (a.put o.dst u) w' hrest hl ((hT.mono hS.le hS.ext).put hu ht1) hM' (Nat.le_trans hB hS.below.size) fun a' w'' hL => ?_
      obtain ⟨μ'', h1, h2, h3, h4⟩ := hL
      exact hQ a' w'' ⟨μ'', h1, by rw [h2, put_defers], h3, hS.trans h4⟩
end
end Go.Proofs.YtbmhamijoajnhaaGreat.E
