/- Regions whose order is drawn: what the reckoning in one order says of all orders. Nothing of the program. -/
import Derived.Test.YtbmhamijoajnhaaGreatEF
namespace Go.Proofs.YtbmhamijoajnhaaGreat.E
open Go Go.RowKit

/- The static part. -/
theorem bitT_eq (m i : Nat) : bitT m i = m.testBit i := by
  rw [Nat.testBit_eq_decide_div_mod_eq]
  unfold bitT
  by_cases h : m / 2 ^ i % 2 = 1
  · rw [decide_eq_true h]
    show Nat.beq (m / 2 ^ i % 2) 1 = true
    rw [h]; rfl
  · rw [decide_eq_false h]; exact beq_of_ne h
theorem mask_bit (bm : List Nat) (j : Nat) : ∀ l : List Edge, (l.foldr (fun e s => Bool.rec (motive := fun _ => Nat) s (Nat.lor (Nat.lor s (Nat.pow 2 e.on)) (bm.getD e.on 0)) (bindsA e)) 0).testBit j = l.any fun e => bindsA e && (decide (e.on = j) || (bm.getD e.on 0).testBit j)
  | [] => by simp
  | e :: l => by
    rw [List.foldr_cons, List.any_cons, ← mask_bit bm j l]
    cases hb : bindsA e with
    | false => simp
    | true =>
      show ((_ ||| 2 ^ e.on) ||| bm.getD e.on 0).testBit j = _
      rw [Nat.testBit_or, Nat.testBit_or, Nat.testBit_two_pow]
      simp only [Bool.true_and]
      cases h1 : (List.foldr (fun e s => Bool.rec (motive := fun _ => Nat) s (Nat.lor (Nat.lor s (Nat.pow 2 e.on)) (bm.getD e.on 0)) (bindsA e)) 0 l).testBit j <;> simp
/-- One stands ahead of another. -/
def Pre (bm : List Nat) (i j : Nat) : Prop := bitT (bm.getD i 0) j = true
def hvAt (ops : Array Oper) (i : Nat) : Bool := match ops[i]? with
  | some o => isHv o.op
  | none => false
structure Stat (ops : Array Oper) (bm es : List Nat) : Prop where
  edge : ∀ i o, ops[i]? = some o → ∀ e ∈ o.after, bindsA e = true → Pre bm i e.on ∧ e.on < i
  back : ∀ i j, i < ops.size → Pre bm i j → ∃ o e, ops[i]? = some o ∧ e ∈ o.after ∧ bindsA e = true ∧ (e.on = j ∨ Pre bm e.on j)
  tid : ∀ i j oi oj d, ops[i]? = some oi → ops[j]? = some oj → i ≠ j → oj.dst = some d → oi.dst ≠ some d ∧ (d ∈ looksO ops oi → Pre bm i j ∨ Pre bm j i)
  mem : ∀ i : Nat, i < ops.size → ∃ k : Nat, es[k]? = some i
  len : es.length = ops.size
  nodup : ∀ k k' i : Nat, es[k]? = some i → es[k']? = some i → k = k'
  valid : ∀ k i j : Nat, es[k]? = some i → Pre bm i j → ∃ k' : Nat, k' < k ∧ es[k']? = some j
  last : ∀ k i : Nat, es[k]? = some i → i < ops.size ∧ ∀ kg g : Nat, kg < k → es[kg]? = some g → hvAt ops g = true → (∀ k'' g' : Nat, kg < k'' → k'' < k → es[k'']? = some g' → hvAt ops g' = false) → Pre bm i g
theorem validE_ok {bm : List Nat} : ∀ {es done : List Nat}, validE bm es done = true → (∀ k i : Nat, es[k]? = some i → i ∉ done ∧ ∀ k' : Nat, es[k']? = some i → k = k') ∧
    ∀ k i j : Nat, es[k]? = some i → j < i → Pre bm i j → j ∈ done ∨ ∃ k' : Nat, k' < k ∧ es[k']? = some j
  | [], _, _ => ⟨fun k i h => by simp at h, fun k i j h => by simp at h⟩
  | x :: r, done, h => by
    have e : validE bm (x :: r) done = (!(done.contains x) && (List.range x).all (fun j => !(bitT (bm.getD x 0) j) || done.contains j) && validE bm r (x :: done)) := rfl
    rw [e, Bool.and_eq_true, Bool.and_eq_true] at h
    obtain ⟨⟨h1, h2⟩, h3⟩ := h
    have h1 : x ∉ done := by simpa using h1
    obtain ⟨h4, h5⟩ := validE_ok h3
    refine ⟨fun k i hk => ?_, fun k i j hk hj hp => ?_⟩
    · cases k with
      | zero =>
        simp at hk
        subst hk
        refine ⟨h1, fun k' hk' => ?_⟩
        cases k' with
        | zero => rfl
        | succ k' => exact absurd (List.mem_cons_self) (h4 k' x (by simpa using hk')).1
      | succ k =>
        have hk : r[k]? = some i := by simpa using hk
        obtain ⟨h6, h7⟩ := h4 k i hk
        refine ⟨fun hm => h6 (List.mem_cons_of_mem _ hm), fun k' hk' => ?_⟩
        cases k' with
        | zero => simp at hk'; subst hk'; exact absurd (List.mem_cons_self) h6
        | succ k' => rw [h7 k' (by simpa using hk')]
    · cases k with
      | zero =>
        simp at hk
        subst hk
        have := List.all_eq_true.1 h2 j (List.mem_range.2 hj)
        have hp' : bitT (bm.getD x 0) j = true := hp
        rw [hp'] at this
        exact .inl (by simpa using this)
      | succ k =>
        have hk : r[k]? = some i := by simpa using hk
        rcases h5 k i j hk hj hp with h6 | ⟨k', h6, h7⟩
        · rcases List.mem_cons.1 h6 with rfl | h6
          · exact .inr ⟨0, by omega, rfl⟩
          · exact .inl h6
        · exact .inr ⟨k' + 1, by omega, by simpa using h7⟩
def lastB (bm : List Nat) (x : Nat) (last : Option Nat) : Bool := match last with
  | some h => bitT (bm.getD x 0) h
  | none => true
def lastR (ops : Array Oper) (bm r : List Nat) (x : Nat) (last : Option Nat) : Bool := match ops[x]? with
  | some o => lastE ops bm r (if isHv o.op then some x else last)
  | none => false
theorem lastE_cons (ops : Array Oper) (bm : List Nat) (x : Nat) (r : List Nat) (last : Option Nat) : lastE ops bm (x :: r) last = (lastB bm x last && lastR ops bm r x last) := by
  cases last <;> rfl
theorem lastE_ok {ops : Array Oper} {bm : List Nat} : ∀ {es : List Nat} {last : Option Nat}, lastE ops bm es last = true → ∀ k i : Nat, es[k]? = some i → i < ops.size ∧
    ((∀ k'' g' : Nat, k'' < k → es[k'']? = some g' → hvAt ops g' = false) → ∀ h, last = some h → Pre bm i h) ∧
    ∀ kg g : Nat, kg < k → es[kg]? = some g → hvAt ops g = true → (∀ k'' g' : Nat, kg < k'' → k'' < k → es[k'']? = some g' → hvAt ops g' = false) → Pre bm i g
  | [], _, _, k, i, hk => by simp at hk
  | x :: r, last, h, k, i, hk => by
    rw [lastE_cons, Bool.and_eq_true] at h
    obtain ⟨h1, h2⟩ := h
    cases ho : ops[x]? with
    | none => unfold lastR at h2; rw [ho] at h2; cases h2
    | some o =>
      unfold lastR at h2
      rw [ho] at h2
      have hx : x < ops.size := (Array.getElem?_eq_some_iff.1 ho).1
      have hhv : hvAt ops x = isHv o.op := by unfold hvAt; rw [ho]
      cases k with
      | zero =>
        simp at hk
        subst hk
        refine ⟨hx, fun _ h' hl => ?_, fun kg g hkg => by omega⟩
        subst hl
        exact h1
      | succ k =>
        have hk : r[k]? = some i := by simpa using hk
        obtain ⟨h3, h4, h5⟩ := lastE_ok h2 k i hk
        refine ⟨h3, fun hno h' hl => ?_, fun kg g hkg hg hgh hno => ?_⟩
        · have hx0 := hno 0 x (by omega) rfl
          refine h4 (fun k'' g' hk'' hg' => hno (k'' + 1) g' (by omega) (by simpa using hg')) h' ?_
          rw [hhv] at hx0
          rw [hx0]
          exact hl
        · cases kg with
          | zero =>
            simp at hg
            subst hg
            rw [hhv] at hgh
            exact h4 (fun k'' g' hk'' hg' => hno (k'' + 1) g' (by omega) (by omega) (by simpa using hg')) x (by rw [if_pos hgh])
          | succ kg => exact h5 kg g (by omega) (by simpa using hg) hgh fun k'' g' h6 h7 h8 => hno (k'' + 1) g' (by omega) (by omega) (by simpa using h8)
theorem stat_of {ops : Array Oper} {bm es : List Nat} (h : staticOk ops bm es = true) : Stat ops bm es := by
  unfold staticOk at h
  simp only [Bool.and_eq_true] at h
  obtain ⟨⟨⟨⟨h1, h2⟩, h3⟩, h4⟩, h5⟩ := h
  have hedge : ∀ i o, ops[i]? = some o → Nat.beq (bm.getD i 0) (maskO bm o) = true ∧ ∀ e ∈ o.after, bindsA e = true → e.on < i := by
    intro i o ho
    have hlt : i < ops.size := (Array.getElem?_eq_some_iff.1 ho).1
    unfold edgesOk at h2
    have := List.all_eq_true.1 h2 i (List.mem_range.2 hlt)
    rw [ho] at this
    simp only [Bool.and_eq_true] at this
    refine ⟨this.1, fun e he hb => ?_⟩
    have h6 := List.all_eq_true.1 this.2 e (by simpa using he)
    rw [hb] at h6
    simp only [Bool.not_true, Bool.false_or] at h6
    exact ble_true h6
  have hmask : ∀ i o j, ops[i]? = some o → (Pre bm i j ↔ ∃ e ∈ o.after, bindsA e = true ∧ (e.on = j ∨ Pre bm e.on j)) := by
    intro i o j ho
    have h6 := beq_true (hedge i o ho).1
    unfold Pre
    rw [bitT_eq, h6]
    unfold maskO
    rw [mask_bit, List.any_eq_true]
    constructor
    · rintro ⟨e, he, hb⟩
      simp only [Bool.and_eq_true, Bool.or_eq_true, decide_eq_true_eq] at hb
      exact ⟨e, by simpa using he, hb.1, hb.2.imp id fun h => by rw [bitT_eq]; exact h⟩
    · rintro ⟨e, he, hb, hc⟩
      refine ⟨e, by simpa using he, ?_⟩
      simp only [Bool.and_eq_true, Bool.or_eq_true, decide_eq_true_eq]
      exact ⟨hb, hc.imp id fun h => by rw [← bitT_eq]; exact h⟩
  unfold orderOk at h3
  simp only [Bool.and_eq_true] at h3
  obtain ⟨h7, h8⟩ := h3
  have hv := validE_ok h4
  have hl := fun k i => lastE_ok h5 k i
  have hback : ∀ i j, i < ops.size → Pre bm i j → ∃ o e, ops[i]? = some o ∧ e ∈ o.after ∧ bindsA e = true ∧ (e.on = j ∨ Pre bm e.on j) := by
    intro i j hi hp
    have ho : ops[i]? = some ops[i] := Array.getElem?_eq_getElem hi
    obtain ⟨e, he, hb, hc⟩ := (hmask i _ j ho).1 hp
    exact ⟨_, e, ho, he, hb, hc⟩
  have hlt : ∀ i j, i < ops.size → Pre bm i j → j < i := by
    intro i
    induction i using Nat.strongRecOn with
    | _ i ih =>
      intro j hi hp
      obtain ⟨o, e, ho, he, hb, hc⟩ := hback i j hi hp
      have hei := (hedge i o ho).2 e he hb
      rcases hc with hc | hc
      · omega
      · have := ih e.on hei j (by omega) hc; omega
  refine ⟨fun i o ho e he hb => ⟨(hmask i o e.on ho).2 ⟨e, he, hb, .inl rfl⟩, (hedge i o ho).2 e he hb⟩, hback, fun i j oi oj d hoi hoj hij hd => ?_, fun i hi => ?_, beq_true h7, fun k k' i hk hk' => (hv.1 k i hk).2 k' hk', fun k i j hk hp => ?_, fun k i hk => ⟨(hl k i hk).1, (hl k i hk).2.2⟩⟩
  · have hi := (Array.getElem?_eq_some_iff.1 hoi).1
    have hj := (Array.getElem?_eq_some_iff.1 hoj).1
    unfold tidy at h1
    have := List.all_eq_true.1 (List.all_eq_true.1 h1 i (List.mem_range.2 hi)) j (List.mem_range.2 hj)
    rw [hoi, hoj] at this
    simp only [tidy2, beq_of_ne hij, Bool.false_or, hd, Bool.and_eq_true] at this
    obtain ⟨h9, h10⟩ := this
    refine ⟨fun e => by rw [e] at h9; simp at h9, fun hm => ?_⟩
    have : (looksO ops oi).contains d = true := by simpa using hm
    rw [this] at h10
    simp only [Bool.not_true, Bool.false_or, Bool.or_eq_true] at h10
    exact h10
  · have := List.all_eq_true.1 h8 i (List.mem_range.2 hi)
    have hm : i ∈ es := by simpa using this
    obtain ⟨k, hk, he⟩ := List.getElem_of_mem hm
    exact ⟨k, by rw [List.getElem?_eq_getElem hk, he]⟩
  · rcases hv.2 k i j hk (hlt i j (hl k i hk).1 hp) hp with h | h
    · cases h
    · exact h

/- The run in one order. -/
section
variable (P : Program) (F : Facts) (cl : CallT) (nt : Nat) (ops : Array Oper) (bm es : List Nat)
/-- One step of it. -/
def StepD (s : DS) (i : Nat) (v : AV) (s' : DS) : Prop := ∃ o b, ops[i]? = some o ∧ wantA s.t ops o = .ok b ∧ putT nt s.t o.dst v = .ok s'.t ∧ s.M.nx ≤ s'.M.nx ∧
  (isHv o.op = true → chkAll P F cl s.M s.ps = true ∧ s'.ps = drop1 (bm.getD i 0) s.ps) ∧
  (b = false → v = undA ∧ s'.M = s.M ∧ (isHv o.op = false → s'.ps = s.ps)) ∧
  (b = true → opA P F cl (evO s.t) o.op s.M = .ok (v, s'.M) ∧ (isHv o.op = false → pendOf i o v s.t s.M s'.M s.ps = .ok s'.ps))
structure RunD (SS : Nat → DS) (VV : Nat → AV) : Prop where
  step : ∀ k i : Nat, es[k]? = some i → StepD P F cl nt ops bm (SS k) i (VV k) (SS (k + 1))
  fin : chkAll P F cl (SS es.length).M (SS es.length).ps = true
end
variable {P : Program} {F : Facts} {cl : CallT} {nt : Nat} {ops : Array Oper} {bm : List Nat}
theorem putU_ok {o : Oper} {s : DS} {ps : List Pend} {k : DS → Res TM} {q : TM} (h : putU nt o s ps k = .ok q) : ∃ t, putT nt s.t o.dst undA = .ok t ∧ k ⟨t, s.M, ps⟩ = .ok q := bind_ok h
theorem runO_ok {o : Oper} {s : DS} {ps : AV → Mem → Res (List Pend)} {k : DS → Res TM} {q : TM} (h : runO P F cl nt o s ps k = .ok q) :
    ∃ v M ps' t, opA P F cl (evO s.t) o.op s.M = .ok (v, M) ∧ s.M.nx ≤ M.nx ∧ ps v M = .ok ps' ∧ putT nt s.t o.dst v = .ok t ∧ k ⟨t, M, ps'⟩ = .ok q := by
  obtain ⟨⟨v, M⟩, h1, h⟩ := bind_ok h
  simp only [frc_eq, frcM_eq] at h
  obtain ⟨g, h⟩ := guardR_ok h
  obtain ⟨ps', h2, h⟩ := bind_ok h
  obtain ⟨t, h3, h⟩ := bind_ok h
  simp only [frcT_eq] at h
  exact ⟨v, M, ps', t, h1, ble_true g, h2, h3, h⟩
theorem drawA_ok : ∀ (es : List Nat) (s : DS) {q : TM}, drawA P F cl nt ops bm es s = .ok q → ∃ SS VV, RunD P F cl nt ops bm es SS VV ∧ SS 0 = s ∧ (SS es.length).t = q.1 ∧ (SS es.length).M = q.2
  | [], s, q, h => by
    obtain ⟨g, h⟩ := guardR_ok h
    cases h
    exact ⟨fun _ => s, fun _ => undA, ⟨fun k i hk => by simp at hk, g⟩, rfl, rfl, rfl⟩
  | i :: r, s, q, h => by
    have e : drawA P F cl nt ops bm (i :: r) s = (opAt ops i).bind fun o => (wantA s.t ops o).bind fun w => Bool.rec (motive := fun _ => Res TM) (ltA P F cl nt i o s w (drawA P F cl nt ops bm r)) (hvA P F cl nt bm i o s w (drawA P F cl nt ops bm r)) (isHv o.op) := rfl
    rw [e] at h
    obtain ⟨o, ho, h⟩ := bind_ok h
    have ho := ofOpt_ok ho
    obtain ⟨b, hb, h⟩ := bind_ok h
    have key : ∃ v s', StepD P F cl nt ops bm s i v s' ∧ drawA P F cl nt ops bm r s' = .ok q := by
      cases hh : isHv o.op with
      | true =>
        rw [hh] at h
        obtain ⟨g, h⟩ := guardR_ok h
        cases b with
        | false =>
          obtain ⟨t, h1, h2⟩ := putU_ok h
          exact ⟨undA, ⟨t, s.M, drop1 (bm.getD i 0) s.ps⟩, ⟨o, false, ho, hb, h1, Nat.le_refl _, (fun _ => ⟨g, rfl⟩), (fun _ => ⟨rfl, rfl, fun h => absurd hh (by rw [h]; decide)⟩), (fun h => by cases h)⟩, h2⟩
        | true =>
          obtain ⟨v, M, ps', t, h1, h2, h3, h4, h5⟩ := runO_ok h
          cases h3
          exact ⟨v, ⟨t, M, drop1 (bm.getD i 0) s.ps⟩, ⟨o, true, ho, hb, h4, h2, (fun _ => ⟨g, rfl⟩), (fun h => by cases h), (fun _ => ⟨h1, fun h => absurd hh (by rw [h]; decide)⟩)⟩, h5⟩
      | false =>
        rw [hh] at h
        cases b with
        | false =>
          obtain ⟨t, h1, h2⟩ := putU_ok h
          exact ⟨undA, ⟨t, s.M, s.ps⟩, ⟨o, false, ho, hb, h1, Nat.le_refl _, (fun h => absurd hh (by rw [h]; decide)), (fun _ => ⟨rfl, rfl, fun _ => rfl⟩), (fun h => by cases h)⟩, h2⟩
        | true =>
          obtain ⟨v, M, ps', t, h1, h2, h3, h4, h5⟩ := runO_ok h
          exact ⟨v, ⟨t, M, ps'⟩, ⟨o, true, ho, hb, h4, h2, (fun h => absurd hh (by rw [h]; decide)), (fun h => by cases h), (fun _ => ⟨h1, fun _ => h3⟩)⟩, h5⟩
    obtain ⟨v, s', hs, hr⟩ := key
    obtain ⟨SS, VV, hrun, h0, h1, h2⟩ := drawA_ok r s' hr
    refine ⟨fun k => match k with | 0 => s | k + 1 => SS k, fun k => match k with | 0 => v | k + 1 => VV k, ⟨fun k j hk => ?_, hrun.fin⟩, rfl, h1, h2⟩
    cases k with
    | zero => simp at hk; subst hk; show StepD P F cl nt ops bm s i v (SS 0); rw [h0]; exact hs
    | succ k => exact hrun.step k j (by simpa using hk)
end Go.Proofs.YtbmhamijoajnhaaGreat.E
