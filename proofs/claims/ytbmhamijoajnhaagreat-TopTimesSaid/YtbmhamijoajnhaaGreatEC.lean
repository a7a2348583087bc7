/- Operations that make blocks, that write, that call; one operation in general. Nothing of the program. -/
import Derived.Test.YtbmhamijoajnhaaGreatEB
namespace Go.Proofs.YtbmhamijoajnhaaGreat.E
open Go Go.RowKit
section
variable {X : Nat → Prop} {P : Program} {F : Facts} {cl : CallT} {μ : Mu} {ρ : Nat → Int} {B : Nat} {w : World} {M : Mem} {a : Act} {r : Operand → Res AV}

/-- What an operation that makes a block comes to, for whatever number. -/
def NewV2 (P : Program) (μ : Mu) (ρ : Nat → Int) (w : World) (a : Act) (o : Oper) (q : NewT) : Prop :=
  ∃ u ob, (execOp a.eval o).run P w = .ok (.value u) (w.alloc ob) ∧ (∀ μ' : Mu, μ.le μ' → BR μ' ρ (w.alloc ob) w.heap.size 0 q.1) ∧ ∀ (μ' : Mu) (b : Nat), μ' b = some (w.heap.size, 0) → CR μ' ρ (w.alloc ob) u (q.2.at b)
theorem new_of {s : Sem Value} {o : Oper} {q : NewT} (he : execOp a.eval o = (do pure (.value (← s)))) (h : NewOK P μ ρ w s q) : NewV2 P μ ρ w a o q := by
  obtain ⟨u, ob, h1, h2, h3⟩ := h
  exact ⟨u, ob, by rw [he]; simp [h1], h2, h3⟩
theorem op_new (hr : ∀ x v, r x = .ok v → AR μ ρ w (a.eval x) v) {o : Oper} {q : NewT} (hl : newA P r o.op = .ok q) : NewV2 P μ ρ w a o q := by
  obtain ⟨dst, op, type, pos, after, guard⟩ := o
  cases op with
  | alloc t => exact new_of rfl (allocA_ok hl)
  | box t x =>
    obtain ⟨v, hv, hl⟩ := bind_ok hl
    exact new_of rfl (boxA_ok hl (hr _ _ hv) t)
  | buildSlice t n ps => exact new_of rfl (buildSl_ok hr hl)
  | makeMap t x =>
    obtain ⟨y, hy, hl⟩ := bind_ok hl
    cases hl
    have hrun : ((Instr.makeMap t (x.map a.eval)).run P w) = .ok (.map (some w.heap.size)) (w.alloc (.map #[] 0)) := by
      cases x with
      | none => simp only [Instr.makeMap, Option.map_none, Sem.run_bind, run_newObj, Result.andThen_ok, Sem.run_pure]; rfl
      | some x =>
        obtain ⟨n, k, hn, hy⟩ := nats hr hy
        obtain ⟨e, he, _⟩ := bind_ok hy
        obtain ⟨kt, ht, _⟩ := mapTy_ok he
        have e1 : a.eval x = .int k ((n : Nat) : Int) := hn
        simp only [Instr.makeMap, Option.map_some, e1, run_underlying ht, asInt, asIntOf, Sem.run_bind, run_newObj, Result.andThen_ok, Sem.run_pure]
        rfl
    exact new_of rfl ⟨.map (some w.heap.size), .map #[] 0, hrun, fun μ' _ => ⟨rfl, #[], 0, alloc_new w _, trivial⟩, fun μ' b hb => ⟨w.heap.size, hb, rfl⟩⟩
  | makeSlice t l c =>
    obtain ⟨n, k, hn, hl⟩ := nats hr hl
    obtain ⟨m, k', hm, hl⟩ := nats hr hl
    refine new_of (s := Instr.makeSlice t (a.eval l) (a.eval c)) rfl ?_
    rw [hn, hm]
    exact mkSl_ok hl k k'
  | _ => cases hl
/-- What an operation that writes, or calls, comes to. -/
def Fin (X : Nat → Prop) (P : Program) (μ : Mu) (ρ : Nat → Int) (B : Nat) (w : World) (a : Act) (o : Oper) (v : AV) (M' : Mem) : Prop :=
  ∀ (next : Act → World → Prop) (Q : Exit → Act → World → Prop), (∀ (u : Value) (μ' : Mu) (w' : World), AR μ' ρ w' u v → MR X μ' ρ B w' M' → Ste B μ w μ' w' → next (a.put o.dst u) w') → o.wp P a w next Q
theorem fin_skip {o : Oper} {M' : Mem} {w' : World} {μ' : Mu} (hr : (execOp a.eval o).run P w = .ok .skip w') (h : MR X μ' ρ B w' M') (hs : Ste B μ w μ' w') : Fin X P μ ρ B w a o undA M' := by
  intro next Q hn
  unfold Oper.wp
  rw [hr]
  exact hn undef μ' w' (AR.und μ' ρ w') h hs
theorem fin_value {o : Oper} {v : AV} {M' : Mem} {u : Value} {w' : World} {μ' : Mu} (hr : (execOp a.eval o).run P w = .ok (.value u) w') (hu : AR μ' ρ w' u v) (h : MR X μ' ρ B w' M') (hs : Ste B μ w μ' w') : Fin X P μ ρ B w a o v M' := by
  intro next Q hn
  unfold Oper.wp
  rw [hr]
  exact hn u μ' w' hu h hs
theorem fin_out {s : Sem Value} {o : Oper} {v : AV} {M' : Mem} (he : execOp a.eval o = (do pure (.value (← s)))) (h : OutM X P μ ρ B w s v M') : Fin X P μ ρ B w a o v M' := by
  obtain ⟨u, w', μ', h1, h2, h3, h4⟩ := h
  exact fin_value (by rw [he]; simp [h1]) h2 h3 h4
theorem caps_ok : ∀ {l : List Value} {caps : List (Nat × Nat)}, All2 (PR μ) l caps → All2 (AR μ ρ w) l (ptrs caps)
  | [], [], _ => trivial
  | _ :: _, _ :: _, h => ⟨h.1, caps_ok h.2⟩
  | [], _ :: _, h => h.elim
  | _ :: _, [], h => h.elim
theorem op_heavy (hF : F.Sat ρ) (hcl : CallOK P F cl) (h : MR X μ ρ B w M) (hB : B ≤ w.heap.size) (hr : ∀ x v, r x = .ok v → AR μ ρ w (a.eval x) v) {o : Oper} {v : AV} {M' : Mem} (hl : opA P F cl r o.op M = .ok (v, M'))
    (hk : isHv o.op = true) : Fin X P μ ρ B w a o v M' := by
  obtain ⟨dst, op, type, pos, after, guard⟩ := o
  cases op with
  | store t x y =>
    obtain ⟨cx, hx, hl⟩ := opnd hr hl
    obtain ⟨vy, hvy, hl⟩ := bind_ok hl
    obtain ⟨h1, rfl⟩ := memR_ok hl
    obtain ⟨w', h2, h3, h4⟩ := storeT_ok (P := P) h h1 hx (hr _ _ hvy)
    exact fin_skip (by simp [execOp, h2]) h3 h4
  | mapUpdate t m k y =>
    obtain ⟨cm, hm, hl⟩ := opnd hr hl
    obtain ⟨ck, hk', hl⟩ := opnd hr hl
    obtain ⟨cy, hy, hl⟩ := opnd hr hl
    obtain ⟨h1, rfl⟩ := memR_ok hl
    obtain ⟨w', h2, h3, h4⟩ := updA_ok (P := P) h h1 hm hk' hy
    exact fin_skip (by simp [execOp, h2]) h3 h4
  | call c =>
    obtain ⟨callee, args, ts⟩ := c
    cases callee with
    | invoke x m => cases hl
    | value f =>
      obtain ⟨cf, hf, hl⟩ := opnd hr hl
      cases cf with
      | f fn caps =>
        obtain ⟨as, has, hl⟩ := bind_ok hl
        have hargs := mapR_vals hr has
        obtain ⟨vs, hfe, hvs⟩ := hf
        have hcaps : All2 (AR μ ρ w) vs.toList (ptrs caps) := caps_ok hvs
        have hall : All2 (AR μ ρ w) ((#[] ++ args.map a.eval) ++ vs).toList (as ++ ptrs caps) := by
          simp only [Array.toList_append, Array.empty_append]
          exact hargs.append hcaps
        intro next Q hn
        have hC := hcl fn (as ++ ptrs caps) M v M' hl X B μ ρ w _ hF hall h hB (fun u w' => next (a.put dst u) w') hn
        unfold Oper.wp
        have he : execOp a.eval ⟨dst, .call ⟨.value f, args, ts⟩, type, pos, after, guard⟩ = callFunc fn ((#[] ++ args.map a.eval) ++ vs) := by
          unfold execOp
          simp only [resolve, hfe, Deferred.ofValue, pure_bind, invoke]
        rw [he]
        unfold CallP at hC
        cases hrun : (callFunc fn ((#[] ++ args.map a.eval) ++ vs)).run P w with
        | halt x w' => rw [hrun] at hC; exact hC.elim
        | ok nx w' =>
          rw [hrun] at hC
          cases nx <;> first | exact hC.elim | skip
          · exact hC
          · refine Calls.mono hC fun e w'' he => ?_
            cases e with
            | returned u => exact he
            | panicked c => exact he.elim
            | outgrown => exact he.elim
      | _ => cases hl
    | builtin b =>
      obtain ⟨as, has, hl⟩ := bind_ok hl
      have hargs := mapR_vals hr has
      obtain ⟨cs, he⟩ := exec_builtin (a := a) ⟨dst, .call ⟨.builtin b, args, ts⟩, type, pos, after, guard⟩ b args ts rfl
      rcases biA_one hl with ⟨x, rfl⟩ | ⟨x, y, rfl⟩
      · obtain ⟨u, hu, hx⟩ := all1 hargs rfl
        cases b <;> first | (cases hk; done) | (cases hl; done) | skip
        case clear =>
          obtain ⟨cx, hcx, hl⟩ := bind_ok hl
          obtain ⟨t, ht, hl⟩ := bind_ok hl
          exact fin_out (by rw [he, hu]; rfl) (clearA_ok h hl (hx.cv hcx).1 ts (ofOpt_ok ht) type)
      · obtain ⟨u, t, hu, hx, hy⟩ := all2 hargs rfl
        obtain ⟨cx, hcx, hl⟩ := bind_ok hl
        obtain ⟨cy, hcy, hl⟩ := bind_ok hl
        cases b <;> first | (cases hk; done) | (cases hl; done) | skip
        case append =>
          obtain ⟨t1, ht1, hl⟩ := bind_ok hl
          obtain ⟨t2, ht2, hl⟩ := bind_ok hl
          obtain ⟨g, hl2⟩ := guardR_ok hl
          clear hl
          have ht1 := ofOpt_ok ht1
          have ht2 := ofOpt_ok ht2
          have g := beq_true g
          subst g
          obtain ⟨q, w', μ', h1, h2, h3, h4⟩ := appA_ok (P := P) h hB hl2 (hx.cv hcx).1 (hy.cv hcy).1 type
          refine fin_value (u := q) (w' := w') ?_ h2 h3 h4
          rw [he, hu]
          have : Builtin.append_ ts type #[u, t] = Builtin.append_ #[t1, t1] type #[u, t] := by
            unfold Builtin.append_
            simp only [ht1, ht2]
            rfl
          simp [builtin, this, h1]
        case copy =>
          obtain ⟨t1, ht1, hl⟩ := bind_ok hl
          exact fin_out (by rw [he, hu]; rfl) (copyA_ok h hl (hx.cv hcx).1 (hy.cv hcy).1 ts (ofOpt_ok ht1) type)
  | _ => first | (cases hk; done) | (cases hl; done)
/-- Making a block: under the next number. -/
theorem new_fin (h : MR X μ ρ B w M) (hB : B ≤ w.heap.size) {o : Oper} {q : NewT} (hn : NewV2 P μ ρ w a o q) : Fin X P μ ρ B w a o (.c (q.2.at M.nx)) (addB M q.1) := by
  obtain ⟨u, ob, h1, h2, h3⟩ := hn
  obtain ⟨h4, h5⟩ := h.alloc (M' := addB M q.1) (b := M.nx) (blk := q.1) (o := ob) hB (h.fresh _ (Nat.le_refl _)) h.not_next (fun j x hj => set_get _ _ _ _ _ hj) (Nat.le_succ _) (Nat.lt_succ_self _) h2
  exact fin_value h1 (h3 _ _ (put_same μ M.nx _)) h4 h5
theorem opA_new {op : Op} (hk : match kindO op with | .new => True | _ => False) : opA P F cl r op M = newO M (newA P r op) := by
  cases op <;> first | rfl | exact hk.elim | skip
  rename_i c
  obtain ⟨callee, args, ts⟩ := c
  cases callee with
  | value f => exact hk.elim
  | invoke x m => exact hk.elim
  | builtin b => cases b <;> exact hk.elim
/-- One operation. -/
theorem op_ok (hF : F.Sat ρ) (hcl : CallOK P F cl) (h : MR X μ ρ B w M) (hB : B ≤ w.heap.size) (hr : ∀ x v, r x = .ok v → AR μ ρ w (a.eval x) v) {o : Oper} {v : AV} {M' : Mem} (hl : opA P F cl r o.op M = .ok (v, M')) : Fin X P μ ρ B w a o v M' := by
  cases hk : kindO o.op with
  | heavy => exact op_heavy hF hcl h hB hr hl (by unfold isHv; rw [hk])
  | new =>
    rw [opA_new (by rw [hk]; trivial)] at hl
    obtain ⟨q, hq, hl⟩ := bind_ok hl
    cases hl
    exact new_fin h hB (op_new hr hq)
  | load =>
    obtain ⟨rfl, u, h1, h2⟩ := op_val hF h hr hl (by rw [hk]; trivial)
    exact fin_value h1 h2 h (Ste.refl B μ w)
  | pure =>
    obtain ⟨rfl, u, h1, h2⟩ := op_val hF h hr hl (by rw [hk]; trivial)
    exact fin_value h1 h2 h (Ste.refl B μ w)
end
end Go.Proofs.YtbmhamijoajnhaaGreat.E
