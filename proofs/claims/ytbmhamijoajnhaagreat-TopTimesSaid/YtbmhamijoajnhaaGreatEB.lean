/- Each operation is as the model has it. Nothing of the program. -/
import Derived.Test.YtbmhamijoajnhaaGreatEA
namespace Go.Proofs.YtbmhamijoajnhaaGreat.E
open Go Go.RowKit

/-- What a call of a function comes to. -/
def CallP (P : Program) (f : FuncId) (args : Array Value) (w : World) (K : Value → World → Prop) : Prop := match (callFunc f args).run P w with
  | .ok (.value u) w' => K u w'
  | .ok (.enter g as) w' => Calls P g as w' fun e w'' => match e with
    | .returned v => K v w''
    | _ => False
  | _ => False
/-- The reckoning of calls is sound. -/
def CallOK (P : Program) (F : Facts) (cl : CallT) : Prop := ∀ (f : Nat) (as : List AV) (M : Mem) (v : AV) (M' : Mem), cl f as M = .ok (v, M') →
  ∀ (X : Nat → Prop) (B : Nat) (μ : Mu) (ρ : Nat → Int) (w : World) (args : Array Value), F.Sat ρ → All2 (AR μ ρ w) args.toList as → MR X μ ρ B w M → B ≤ w.heap.size →
  ∀ K : Value → World → Prop, (∀ (u : Value) (μ' : Mu) (w' : World), AR μ' ρ w' u v → MR X μ' ρ B w' M' → Ste B μ w μ' w' → K u w') → CallP P f args w K

section
variable {X : Nat → Prop} {P : Program} {F : Facts} {cl : CallT} {μ : Mu} {ρ : Nat → Int} {B : Nat} {w : World} {M : Mem} {a : Act} {r : Operand → Res AV}

theorem pureR_ok {x : Res AV} {v : AV} {M' : Mem} (h : pureR M x = .ok (v, M')) : x = .ok v ∧ M' = M := by
  obtain ⟨y, hy, h⟩ := bind_ok h
  cases h
  exact ⟨hy, rfl⟩
theorem pureC_ok {x : Res CV} {v : AV} {M' : Mem} (h : pureC M x = .ok (v, M')) : ∃ y, x = .ok y ∧ v = .c y ∧ M' = M := by
  obtain ⟨y, hy, h⟩ := bind_ok h
  cases h
  exact ⟨y, hy, rfl, rfl⟩
theorem memR_ok {x : Res Mem} {v : AV} {M' : Mem} (h : memR x = .ok (v, M')) : x = .ok M' ∧ v = undA := by
  obtain ⟨y, hy, h⟩ := bind_ok h
  cases h
  exact ⟨hy, rfl⟩
theorem cvOf {x : AV} {y : CV} (h : x.cv = .ok y) : x = .c y := by
  cases x with
  | c zz => cases h; rfl
  | g l => cases h
  | t l => cases h
/-- An operand of one cell. -/
theorem opnd (hr : ∀ x v, r x = .ok v → AR μ ρ w (a.eval x) v) {x : Operand} {β : Type} {f : CV → Res β} {b : β} (h : ((r x).bind fun v => v.cv.bind f) = .ok b) : ∃ y, CR μ ρ w (a.eval x) y ∧ f y = .ok b := by
  obtain ⟨v, hv, h⟩ := bind_ok h
  obtain ⟨y, hy, h⟩ := bind_ok h
  exact ⟨y, ((hr x v hv).cv hy).1, h⟩
theorem nats (hr : ∀ x v, r x = .ok v → AR μ ρ w (a.eval x) v) {x : Operand} {β : Type} {f : Nat → Res β} {b : β} (h : ((r x).bind fun v => (anat v).bind f) = .ok b) : ∃ n k, a.eval x = .int k ((n : Nat) : Int) ∧ f n = .ok b := by
  obtain ⟨v, hv, h⟩ := bind_ok h
  obtain ⟨n, hn, h⟩ := bind_ok h
  obtain ⟨k, hk⟩ := anat_ok (hr x v hv) hn
  exact ⟨n, k, hk, h⟩
theorem optR_ok (hr : ∀ x v, r x = .ok v → AR μ ρ w (a.eval x) v) {o : Option Operand} {n : Option Nat} (h : optR r o = .ok n) : BO (o.map a.eval) n := by
  cases o with
  | none => cases h; trivial
  | some x =>
    obtain ⟨n, k, hk, h⟩ := nats hr h
    cases h
    exact ⟨k, hk⟩
theorem mapR_vals (hr : ∀ x v, r x = .ok v → AR μ ρ w (a.eval x) v) {l : Array Operand} {m : List AV} (h : argsR r l = .ok m) : All2 (AR μ ρ w) (l.map a.eval).toList m := by
  rw [Array.toList_map]
  unfold argsR at h
  generalize l.toList = ll at *
  induction ll generalizing m with
  | nil => cases h; trivial
  | cons x l ih =>
    rw [mapR_cons] at h
    obtain ⟨v, hv, h⟩ := bind_ok h
    obtain ⟨q, hq, h⟩ := bind_ok h
    cases h
    exact ⟨hr _ _ hv, ih hq⟩
/-- What an operation that only reads comes to. -/
def ValOK (P : Program) (μ : Mu) (ρ : Nat → Int) (w : World) (a : Act) (o : Oper) (v : AV) : Prop := ∃ u, (execOp a.eval o).run P w = .ok (.value u) w ∧ AR μ ρ w u v
theorem val_of {s : Sem Value} {o : Oper} {v : AV} (he : execOp a.eval o = (do pure (.value (← s)))) (h : ∃ u, s.run P w = .ok u w ∧ AR μ ρ w u v) : ValOK P μ ρ w a o v := by
  obtain ⟨u, h1, h2⟩ := h
  exact ⟨u, by rw [he]; simp [h1], h2⟩
theorem all1 {vs : Array Value} {l : List AV} {x : AV} (h : All2 (AR μ ρ w) vs.toList l) (hl : l = [x]) : ∃ u, vs = #[u] ∧ AR μ ρ w u x := by
  subst hl
  have hlen := h.length
  match hvs : vs.toList, h with
  | [u], h => exact ⟨u, Array.ext' (by simpa using hvs), h.1⟩
theorem all2 {vs : Array Value} {l : List AV} {x y : AV} (h : All2 (AR μ ρ w) vs.toList l) (hl : l = [x, y]) : ∃ u t, vs = #[u, t] ∧ AR μ ρ w u x ∧ AR μ ρ w t y := by
  subst hl
  match hvs : vs.toList, h with
  | [u, t], h => exact ⟨u, t, Array.ext' (by simpa using hvs), h.1, h.2.1⟩
theorem exec_builtin (o : Oper) (b : Builtin) (args : Array Operand) (ts : Array TypeId) (ho : o.op = .call ⟨.builtin b, args, ts⟩) : ∃ cs, execOp a.eval o = builtin b ts o.type cs (args.map a.eval) := by
  have key : ∃ d, resolve a.eval ⟨.builtin b, args, ts⟩ o.type = pure d ∧ (∃ cs, d.target = .builtin b ts o.type cs) ∧ d.args = args.map a.eval := ⟨_, rfl, ⟨_, rfl⟩, rfl⟩
  obtain ⟨d, h1, ⟨cs, h2⟩, h3⟩ := key
  refine ⟨cs, ?_⟩
  unfold execOp
  simp only [ho, h1, pure_bind, h2, h3, invoke]
theorem biA_one {ts : Array TypeId} {b : Builtin} {as : List AV} {v : AV} {M' : Mem} (h : biA P F M b ts as = .ok (v, M')) : (∃ x, as = [x]) ∨ ∃ x y, as = [x, y] := by
  unfold biA at h
  split at h
  · exact .inl ⟨_, rfl⟩
  · exact .inr ⟨_, _, rfl⟩
  · cases h
/-- Operations that read, or only reckon. -/
theorem op_val (hF : F.Sat ρ) (h : MR X μ ρ B w M) (hr : ∀ x v, r x = .ok v → AR μ ρ w (a.eval x) v) {o : Oper} {v : AV} {M' : Mem} (hl : opA P F cl r o.op M = .ok (v, M'))
    (hk : match kindO o.op with | .heavy => False | .new => False | _ => True) : M' = M ∧ ValOK P μ ρ w a o v := by
  obtain ⟨dst, op, type, pos, after, guard⟩ := o
  cases op with
  | move x => obtain ⟨h1, h2⟩ := pureR_ok hl; exact ⟨h2, a.eval x, rfl, hr _ _ h1⟩
  | assign x => obtain ⟨h1, h2⟩ := pureR_ok hl; exact ⟨h2, a.eval x, rfl, hr _ _ h1⟩
  | pick c x y =>
    obtain ⟨h1, h2⟩ := pureR_ok hl
    refine ⟨h2, ?_⟩
    obtain ⟨vc, hvc, h1⟩ := bind_ok h1
    obtain ⟨b, hb, h1⟩ := bind_ok h1
    obtain ⟨yc, hyc, hb⟩ := bind_ok hb
    have hc := ((hr c vc hvc).cv hyc).1
    cases yc with
    | b q =>
      cases hb
      have e : a.eval c = .bool b := hc
      cases b with
      | true => exact ⟨a.eval x, by simp [execOp, e, asBool], hr _ _ h1⟩
      | false => exact ⟨a.eval y, by simp [execOp, e, asBool], hr _ _ h1⟩
    | _ => cases hb
  | build t ps => obtain ⟨h1, h2⟩ := pureR_ok hl; exact ⟨h2, val_of rfl (buildA_ok hr h1)⟩
  | load t x =>
    obtain ⟨y, hy, hl⟩ := opnd hr hl
    obtain ⟨h1, h2⟩ := pureR_ok hl
    exact ⟨h2, val_of rfl (loadT_ok h h1 hy)⟩
  | nilCheck x =>
    obtain ⟨vx, hvx, hl⟩ := bind_ok hl
    obtain ⟨h1, h2⟩ := pureR_ok hl
    obtain ⟨y, hy, h1⟩ := bind_ok h1
    have hc := ((hr x vx hvx).cv hy).1
    refine ⟨h2, ?_⟩
    cases y with
    | p b o => cases h1; exact ⟨a.eval x, by obtain ⟨k, s, _, e⟩ := hc; simp [execOp, e], hc⟩
    | f f l => cases h1; exact ⟨a.eval x, by obtain ⟨vs, e, _⟩ := hc; simp [execOp, e], hc⟩
    | _ => cases h1
  | binOp op t x y yt =>
    obtain ⟨cx, hx, hl⟩ := opnd hr hl
    obtain ⟨cy, hy, hl⟩ := opnd hr hl
    obtain ⟨zz, h1, rfl, h2⟩ := pureC_ok hl
    exact ⟨h2, val_of rfl (binC_ok hF h1 hx hy x y)⟩
  | unOp op t x =>
    obtain ⟨cx, hx, hl⟩ := opnd hr hl
    obtain ⟨zz, h1, rfl, h2⟩ := pureC_ok hl
    exact ⟨h2, val_of rfl (unS_ok hF h1 hx)⟩
  | convert s d x =>
    obtain ⟨cx, hx, hl⟩ := opnd hr hl
    obtain ⟨zz, h1, rfl, h2⟩ := pureC_ok hl
    exact ⟨h2, val_of rfl (convC_ok hF h h1 hx)⟩
  | makeFunc fn first captured =>
    obtain ⟨h1, h2⟩ := pureR_ok hl
    refine ⟨h2, ?_⟩
    cases fn with
    | func f =>
      obtain ⟨g1, h1⟩ := guardR_ok h1
      obtain ⟨l, hl2, h1⟩ := bind_ok h1
      cases h1
      clear h1
      have g1 : first = #[] := by
        have : first.toList = [] := by simpa using g1
        exact Array.ext' (by simpa using this)
      subst g1
      refine ⟨.func (.func f) #[] (captured.map a.eval), by simp [execOp, Instr.makeFunc], captured.map a.eval, rfl, ?_⟩
      rw [Array.toList_map]
      clear hl hk h1
      generalize captured.toList = cl at *
      induction cl generalizing l with
      | nil => cases hl2; trivial
      | cons x cl ih =>
        rw [mapR_cons] at hl2
        obtain ⟨p, hp, hl2⟩ := bind_ok hl2
        obtain ⟨q, hq, hl2⟩ := bind_ok hl2
        cases hl2
        obtain ⟨y, hy, hp⟩ := opnd hr hp
        refine ⟨?_, ih q hq⟩
        cases y with
        | p b o => cases hp; exact hy
        | _ => cases hp
    | _ => cases h1
  | slice t x lo hi mx =>
    obtain ⟨cx, hx, hl⟩ := opnd hr hl
    obtain ⟨l, hlo, hl⟩ := bind_ok hl
    obtain ⟨hh, hhi, hl⟩ := bind_ok hl
    obtain ⟨m, hmx, hl⟩ := bind_ok hl
    obtain ⟨zz, h1, rfl, h2⟩ := pureC_ok hl
    exact ⟨h2, val_of rfl (cutA_ok h h1 hx (optR_ok hr hlo) (optR_ok hr hhi) (optR_ok hr hmx))⟩
  | fieldAddr t x f =>
    obtain ⟨cx, hx, hl⟩ := opnd hr hl
    obtain ⟨zz, h1, rfl, h2⟩ := pureC_ok hl
    exact ⟨h2, val_of rfl (fieldA_ok h1 hx)⟩
  | field t x f =>
    obtain ⟨vx, hvx, hl⟩ := bind_ok hl
    obtain ⟨h1, h2⟩ := pureR_ok hl
    exact ⟨h2, val_of rfl (fieldV_ok h1 (hr _ _ hvx))⟩
  | indexAddr t x j =>
    obtain ⟨cx, hx, hl⟩ := opnd hr hl
    obtain ⟨n, k, hn, hl⟩ := nats hr hl
    obtain ⟨zz, h1, rfl, h2⟩ := pureC_ok hl
    exact ⟨h2, val_of rfl (by rw [hn]; exact indexA_ok h1 hx k)⟩
  | lookup t x k ok =>
    obtain ⟨cx, hx, hl⟩ := opnd hr hl
    obtain ⟨ck, hk', hl⟩ := opnd hr hl
    obtain ⟨h1, h2⟩ := pureR_ok hl
    exact ⟨h2, val_of rfl (lookA_ok h h1 hx hk')⟩
  | extract x j =>
    obtain ⟨vx, hvx, hl⟩ := bind_ok hl
    obtain ⟨h1, h2⟩ := pureR_ok hl
    exact ⟨h2, val_of rfl (extr_ok h1 (hr _ _ hvx))⟩
  | call c =>
    obtain ⟨callee, args, ts⟩ := c
    cases callee with
    | value f => exact hk.elim
    | invoke x m => exact hk.elim
    | builtin b =>
      obtain ⟨as, has, hl⟩ := bind_ok hl
      have hargs := mapR_vals hr has
      obtain ⟨cs, he⟩ := exec_builtin (a := a) ⟨dst, .call ⟨.builtin b, args, ts⟩, type, pos, after, guard⟩ b args ts rfl
      rcases biA_one hl with ⟨x, rfl⟩ | ⟨x, y, rfl⟩
      · obtain ⟨u, hu, hx⟩ := all1 hargs rfl
        cases b <;> first | exact hk.elim | (cases hl; done) | skip
        case len =>
          obtain ⟨cx, hcx, hl⟩ := bind_ok hl
          obtain ⟨t, ht, hl⟩ := bind_ok hl
          obtain ⟨zz, hz, hl⟩ := bind_ok hl
          cases hl
          have ht := ofOpt_ok ht
          obtain ⟨q, h1, h2⟩ := lenA_ok (P := P) hz (hx.cv hcx).1 type
          refine ⟨rfl, q, ?_, h2⟩
          rw [he, hu]
          have : (Builtin.len_ ts type #[u]).run P w = (Builtin.len_ #[t] type #[u]).run P w := by simp [Builtin.len_, ht]
          simp [builtin, this, h1]
        all_goals (obtain ⟨cx, hcx, hl⟩ := bind_ok hl; cases hl)
      · obtain ⟨u, t, hu, hx, hy⟩ := all2 hargs rfl
        obtain ⟨cx, hcx, hl⟩ := bind_ok hl
        obtain ⟨cy, hcy, hl⟩ := bind_ok hl
        cases b <;> first | exact hk.elim | (cases hl; done) | skip
        case max =>
          obtain ⟨zz, hz, hl⟩ := bind_ok hl
          cases hl
          obtain ⟨q, h1, h2⟩ := maxA_ok (P := P) hF hz (hx.cv hcx).1 (hy.cv hcy).1
          refine ⟨rfl, q, ?_, h2⟩
          rw [he, hu]
          simp only [if_true] at h1
          simp [builtin, Builtin.max_, h1]
        case min =>
          obtain ⟨zz, hz, hl⟩ := bind_ok hl
          cases hl
          obtain ⟨q, h1, h2⟩ := maxA_ok (P := P) hF hz (hx.cv hcx).1 (hy.cv hcy).1
          refine ⟨rfl, q, ?_, h2⟩
          rw [he, hu]
          simp only [Bool.false_eq_true, if_false] at h1
          simp [builtin, Builtin.min_, h1]
  | alloc t => exact hk.elim
  | box t x => exact hk.elim
  | buildSlice t n ps => exact hk.elim
  | makeMap t x => exact hk.elim
  | makeSlice t l c => exact hk.elim
  | store t x y => exact hk.elim
  | mapUpdate t x k y => exact hk.elim
  | _ => cases hl
end
end Go.Proofs.YtbmhamijoajnhaaGreat.E
