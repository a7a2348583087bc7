/- Regions whose order is drawn: every order comes to the same. Nothing of the program. -/
import Derived.Test.YtbmhamijoajnhaaGreatEG
namespace Go.Proofs.YtbmhamijoajnhaaGreat.E
open Go Go.RowKit
section
variable {P : Program} {F : Facts} {cl : CallT} {nt : Nat} {ops : Array Oper} {bm es : List Nat} {SS : Nat → DS} {VV : Nat → AV} {ρ : Nat → Int} {B : Nat}

/-- It has come up. -/
def Ld (L : Array Bool) (i : Nat) : Prop := L.getD i false = true
theorem ld_lt {L : Array Bool} {i : Nat} (h : Ld L i) : i < L.size := by
  unfold Ld at h
  rcases Nat.lt_or_ge i L.size with h' | h'
  · exact h'
  · rw [Array.getD_eq_getD_getElem?, Array.getElem?_eq_none h'] at h; cases h
theorem ld_set {L : Array Bool} {i j : Nat} (hi : i < L.size) : Ld (L.setIfInBounds i true) j ↔ j = i ∨ Ld L j := by
  unfold Ld
  by_cases h : i = j
  · subst h
    simp [hi]
  · rw [getD_set_ne false h]
    constructor
    · exact .inr
    · rintro (h' | h')
      · exact absurd h'.symm h
      · exact h'
/-- An operation that has made a block, in the one order. -/
def NewAt (ops : Array Oper) (SS : Nat → DS) (es : List Nat) (k : Nat) : Prop := ∃ i o, es[k]? = some i ∧ ops[i]? = some o ∧ kindO o.op = .new ∧ wantA (SS k).t ops o = .ok true
def Wait (ops : Array Oper) (SS : Nat → DS) (es : List Nat) (L : Array Bool) (hk : Nat) (b : Nat) : Prop := ∃ k i, k < hk ∧ es[k]? = some i ∧ ¬ Ld L i ∧ NewAt ops SS es k ∧ b = (SS k).M.nx
/-- How a state stands, whatever has come up. -/
structure Inv (X : Nat → Prop) (ops : Array Oper) (es : List Nat) (SS : Nat → DS) (VV : Nat → AV) (nt : Nat) (ρ : Nat → Int) (B : Nat) (μ0 : Mu) (a0 : Act) (w0 : World) (L : Array Bool) (a : Act) (w : World) (μ : Mu) (hk : Nat) : Prop where
  size : L.size = ops.size
  down : ∀ i o, ops[i]? = some o → Ld L i → ∀ e ∈ o.after, bindsA e = true → Ld L e.on
  hkle : hk ≤ es.length
  hks : hk = es.length ∨ ∃ i, es[hk]? = some i ∧ hvAt ops i = true ∧ ¬ Ld L i
  before : ∀ k i : Nat, k < hk → es[k]? = some i → hvAt ops i = true → Ld L i
  mem : MR (fun b => X b ∨ Wait ops SS es L hk b) μ ρ B w (SS hk).M
  put : ∀ (k i : Nat) o d, Ld L i → es[k]? = some i → ops[i]? = some o → o.dst = some d → ∃ u, a.tmps[d]? = some u ∧ AR μ ρ w u (VV k)
  old : ∀ d x, (SS 0).t.get d = some x → (∀ i o, Ld L i → ops[i]? = some o → o.dst ≠ some d) → ∃ u, a.tmps[d]? = some u ∧ AR μ ρ w u x
  tmps : nt ≤ a.tmps.size
  defers : a.defers = a0.defers
  ste : Ste B μ0 w0 μ w
  B : B ≤ w.heap.size

variable (hs : Stat ops bm es) (hr : RunD P F cl nt ops bm es SS VV)
include hs in
theorem lt_of_es {k i : Nat} (h : es[k]? = some i) : i < ops.size := (hs.last k i h).1
theorem es_lt {es : List Nat} {k i : Nat} (h : es[k]? = some i) : k < es.length := by
  rcases Nat.lt_or_ge k es.length with h' | h'
  · exact h'
  · rw [List.getElem?_eq_none h'] at h; cases h
include hs in
/-- What stands ahead of what has come up has come up; of what may come up, too. -/
theorem closed {L : Array Bool} (hd : ∀ i o, ops[i]? = some o → Ld L i → ∀ e ∈ o.after, bindsA e = true → Ld L e.on) :
    ∀ i, i < ops.size → (∀ o, ops[i]? = some o → ∀ e ∈ o.after, bindsA e = true → Ld L e.on) → ∀ j, Pre bm i j → Ld L j := by
  intro i
  induction i using Nat.strongRecOn with
  | _ i ih =>
    intro hi hall j hp
    obtain ⟨o, e, ho, he, hb, hc⟩ := hs.back i j hi hp
    have h1 := hall o ho e he hb
    have h2 := (hs.edge i o ho e he hb).2
    rcases hc with rfl | hc
    · exact h1
    · exact ih e.on h2 (by omega) (fun o' ho' => hd e.on o' ho' h1) j hc
include hs in
theorem closed' {L : Array Bool} (hsz : L.size = ops.size) (hd : ∀ i o, ops[i]? = some o → Ld L i → ∀ e ∈ o.after, bindsA e = true → Ld L e.on) {i j : Nat} (hi : Ld L i) (hp : Pre bm i j) : Ld L j :=
  closed hs hd i (by rw [← hsz]; exact ld_lt hi) (fun o ho => hd i o ho hi) j hp
include hs in
/-- Whatever has come up, or may, is not behind the heavy one that comes next. -/
theorem not_behind {L : Array Bool} (hsz : L.size = ops.size) (hd : ∀ i o, ops[i]? = some o → Ld L i → ∀ e ∈ o.after, bindsA e = true → Ld L e.on)
    {hk : Nat} (hks : hk = es.length ∨ ∃ i, es[hk]? = some i ∧ hvAt ops i = true ∧ ¬ Ld L i) : ∀ k i : Nat, es[k]? = some i → (∀ j, Pre bm i j → Ld L j) → k ≤ hk := by
  intro k
  induction k using Nat.strongRecOn with
  | _ k ih =>
    intro i hi hp
    rcases hks with rfl | ⟨h, hh, hhv, hnl⟩
    · exact Nat.le_of_lt (es_lt hi)
    · rcases Nat.lt_or_ge hk k with hlt | hge
      · -- the last heavy one ahead of it
        have key : ∀ n, n < k - hk → ∃ kg g : Nat, hk ≤ kg ∧ kg < k ∧ es[kg]? = some g ∧ hvAt ops g = true ∧ ∀ k'' g' : Nat, kg < k'' → k'' < hk + n + 1 → es[k'']? = some g' → hvAt ops g' = false := by
          intro n
          induction n with
          | zero => intro _; exact ⟨hk, h, Nat.le_refl _, hlt, hh, hhv, fun k'' g' h1 h2 => by omega⟩
          | succ n ihn =>
            intro hn
            obtain ⟨kg, g, h1, h2, h3, h4, h5⟩ := ihn (by omega)
            have hlt2 : hk + n + 1 < es.length := Nat.lt_of_lt_of_le (by omega) (Nat.le_of_lt (es_lt hi))
            have hx : es[hk + n + 1]? = some es[hk + n + 1] := List.getElem?_eq_getElem hlt2
            cases hv : hvAt ops es[hk + n + 1] with
            | true => exact ⟨hk + n + 1, _, by omega, by omega, hx, hv, fun k'' g' h6 h7 => by omega⟩
            | false =>
              refine ⟨kg, g, h1, h2, h3, h4, fun k'' g' h6 h7 h8 => ?_⟩
              by_cases e : k'' = hk + n + 1
              · subst e; rw [hx] at h8; cases h8; exact hv
              · exact h5 k'' g' h6 (by omega) h8
        obtain ⟨kg, g, h1, h2, h3, h4, h5⟩ := key (k - hk - 1) (by omega)
        have hpg := (hs.last k i hi).2 kg g h2 h3 h4 fun k'' g' h6 h7 h8 => h5 k'' g' h6 (by omega) h8
        have hlg := hp g hpg
        rcases Nat.lt_or_ge hk kg with h6 | h6
        · have := ih kg h2 g h3 fun j hj => closed' hs hsz hd hlg hj
          omega
        · have : kg = hk := by omega
          subst this
          rw [hh] at h3
          cases h3
          exact absurd hlg hnl
      · exact hge
include hr in
theorem nx_mono : ∀ (n k : Nat), k + n ≤ es.length → (SS k).M.nx ≤ (SS (k + n)).M.nx
  | 0, k, _ => Nat.le_refl _
  | n + 1, k, h => by
    have h1 := nx_mono n k (by omega)
    have hx : es[k + n]? = some (es[k + n]'(by omega)) := List.getElem?_eq_getElem (by omega)
    obtain ⟨o, b, _, _, _, h2, _⟩ := hr.step _ _ hx
    exact Nat.le_trans h1 h2
include hr in
/-- A made block, in the one order. -/
theorem new_step {k : Nat} (hn : NewAt ops SS es k) : ∃ i o q, es[k]? = some i ∧ ops[i]? = some o ∧ isHv o.op = false ∧ newA P (evO (SS k).t) o.op = .ok q ∧ VV k = .c (q.2.at (SS k).M.nx) ∧ (SS (k + 1)).M = addB (SS k).M q.1 ∧
    (SS (k + 1)).ps = .nw i (SS k).M.nx q.1 :: (SS k).ps ∧ wantA (SS k).t ops o = .ok true := by
  obtain ⟨i, o, hi, ho, hkd, hw⟩ := hn
  obtain ⟨o', b, ho', hb, hp, hnx, _, _, h3⟩ := hr.step k i hi
  rw [ho] at ho'
  cases ho'
  rw [hw] at hb
  cases hb
  obtain ⟨h4, h5⟩ := h3 rfl
  have hhv : isHv o.op = false := by unfold isHv; rw [hkd]
  rw [opA_new (by rw [hkd]; trivial)] at h4
  obtain ⟨q, hq, h4⟩ := bind_ok h4
  have h6 := ok_inj h4
  have h7 : VV k = .c (q.2.at (SS k).M.nx) := (congrArg Prod.fst h6).symm
  have h8 : (SS (k + 1)).M = addB (SS k).M q.1 := (congrArg Prod.snd h6).symm
  have h9 := h5 hhv
  unfold pendOf at h9
  rw [hkd] at h9
  obtain ⟨blk, hblk, h9⟩ := bind_ok h9
  have h10 := ofOpt_ok hblk
  rw [h8] at h10
  have h11 : blk = q.1 := by
    rcases set_get _ _ _ _ _ h10 with ⟨_, h⟩ | ⟨h, _⟩
    · exact h
    · exact absurd rfl h
  subst h11
  exact ⟨i, o, q, hi, ho, hhv, hq, h7, h8, (ok_inj h9).symm, hw⟩
/-- A light operation that makes no block leaves memory. -/
theorem light_mem {r : Operand → Res AV} {o : Op} {v : AV} {M M' : Mem} (h : opA P F cl r o M = .ok (v, M')) (h1 : isHv o = false) (h2 : kindO o ≠ .new) : M' = M := by
  cases hk : kindO o with
  | heavy => unfold isHv at h1; rw [hk] at h1; cases h1
  | new => exact absurd hk h2
  | pure => have := opA_pure (by rw [hk]; trivial) h M; rw [this] at h; exact ((Prod.mk.inj (ok_inj h)).2).symm
  | load =>
    cases o with
    | load t x =>
      obtain ⟨a, _, h⟩ := bind_ok h
      obtain ⟨b, _, h⟩ := bind_ok h
      exact (pureR_ok h).2
    | lookup t x k ok =>
      obtain ⟨a, _, h⟩ := bind_ok h
      obtain ⟨b, _, h⟩ := bind_ok h
      obtain ⟨c, _, h⟩ := bind_ok h
      obtain ⟨d, _, h⟩ := bind_ok h
      exact (pureR_ok h).2
    | convert s d x =>
      obtain ⟨a, _, h⟩ := bind_ok h
      obtain ⟨b, _, h⟩ := bind_ok h
      obtain ⟨_, _, _, h⟩ := pureC_ok h
      exact h
    | slice t x lo hi mx =>
      obtain ⟨a, _, h⟩ := bind_ok h
      obtain ⟨b, _, h⟩ := bind_ok h
      obtain ⟨c, _, h⟩ := bind_ok h
      obtain ⟨d, _, h⟩ := bind_ok h
      obtain ⟨e, _, h⟩ := bind_ok h
      obtain ⟨_, _, _, h⟩ := pureC_ok h
      exact h
    | call c =>
      obtain ⟨callee, args, ts⟩ := c
      cases callee with
      | builtin b => cases b <;> cases hk
      | _ => cases hk
    | _ => cases hk
include hr in
/-- From one heavy operation to the next one: memory has the blocks that are to come. -/
theorem stage {X : Nat → Prop} {L : Array Bool} {w : World} {μ : Mu} {k0 : Nat} (hk0 : k0 ≤ es.length) (h : MR (fun b => X b ∨ Wait ops SS es L k0 b) μ ρ B w (SS k0).M) :
    ∀ n, k0 + n ≤ es.length → (∀ k i : Nat, k0 ≤ k → k < k0 + n → es[k]? = some i → hvAt ops i = false ∧ ¬ Ld L i) → MR (fun b => X b ∨ Wait ops SS es L (k0 + n) b) μ ρ B w (SS (k0 + n)).M
  | 0, _, _ => h
  | n + 1, hle, hlt => by
    have ih := stage hk0 h n (by omega) fun k i h1 h2 => hlt k i h1 (by omega)
    have hx : es[k0 + n]? = some (es[k0 + n]'(by omega)) := List.getElem?_eq_getElem (by omega)
    obtain ⟨hv, hnl⟩ := hlt _ _ (by omega) (by omega) hx
    obtain ⟨o, b, ho, hb, hp, hnx, h1, h2, h3⟩ := hr.step _ _ hx
    have hv' : isHv o.op = false := by unfold hvAt at hv; rw [ho] at hv; exact hv
    have wk : ∀ b, (X b ∨ Wait ops SS es L (k0 + (n + 1)) b) → (X b ∨ Wait ops SS es L (k0 + n) b) ∨ (NewAt ops SS es (k0 + n) ∧ b = (SS (k0 + n)).M.nx) := by
      intro b hb
      rcases hb with hb | ⟨k, i, h4, h5, h6, h7, h8⟩
      · exact .inl (.inl hb)
      · by_cases e : k = k0 + n
        · subst e; exact .inr ⟨h7, h8⟩
        · exact .inl (.inr ⟨k, i, by omega, h5, h6, h7, h8⟩)
    by_cases hnew : NewAt ops SS es (k0 + n)
    · obtain ⟨i', o', q, _, _, _, _, _, h8, _⟩ := new_step hr hnew
      show MR _ μ ρ B w (SS (k0 + n + 1)).M
      rw [h8]
      refine (ih.await q.1).weak fun b hb => ?_
      rcases wk b hb with h9 | ⟨_, h9⟩
      · exact .inl h9
      · exact .inr h9
    · have hM : (SS (k0 + n + 1)).M = (SS (k0 + n)).M := by
        cases b with
        | false => exact (h2 rfl).2.1
        | true => exact light_mem (h3 rfl).1 hv' fun e => hnew ⟨_, o, hx, ho, e, hb⟩
      show MR _ μ ρ B w (SS (k0 + n + 1)).M
      rw [hM]
      refine ih.weak fun b hb => ?_
      rcases wk b hb with h9 | ⟨h9, _⟩
      · exact h9
      · exact absurd h9 hnew
include hr in
/-- What is pending stays so. -/
theorem pend_stays {k0 : Nat} {p : Pend} (h : p ∈ (SS k0).ps) : ∀ n, k0 + n ≤ es.length → (∀ k i : Nat, k0 ≤ k → k < k0 + n → es[k]? = some i → hvAt ops i = true → ¬ Pre bm i p.i) → p ∈ (SS (k0 + n)).ps
  | 0, _, _ => h
  | n + 1, hle, hno => by
    have ih := pend_stays h n (by omega) fun k i h1 h2 => hno k i h1 (by omega)
    have hx : es[k0 + n]? = some (es[k0 + n]'(by omega)) := List.getElem?_eq_getElem (by omega)
    obtain ⟨o, b, ho, hb, hp, hnx, h1, h2, h3⟩ := hr.step _ _ hx
    show p ∈ (SS (k0 + n + 1)).ps
    cases hv : isHv o.op with
    | true =>
      rw [(h1 hv).2]
      unfold drop1
      refine List.mem_filter.2 ⟨ih, ?_⟩
      have := hno _ _ (by omega) (by omega) hx (by unfold hvAt; rw [ho]; exact hv)
      unfold Pre at this
      simpa using this
    | false =>
      cases b with
      | false => rw [(h2 rfl).2.2 hv]; exact ih
      | true =>
        have h4 := (h3 rfl).2 hv
        unfold pendOf at h4
        split at h4
        · rw [← ok_inj h4]; exact List.mem_cons_of_mem _ ih
        · obtain ⟨blk, _, h4⟩ := bind_ok h4
          rw [← ok_inj h4]; exact List.mem_cons_of_mem _ ih
        · rw [← ok_inj h4]; exact ih
theorem chk_mem {M : Mem} {p : Pend} : ∀ {ps : List Pend}, chkAll P F cl M ps = true → p ∈ ps → chk1 P F cl M p = true
  | [], _, h => by cases h
  | q :: ps, h, hp => by
    have e : chkAll P F cl M (q :: ps) = Bool.rec (motive := fun _ => Bool) false (chkAll P F cl M ps) (chk1 P F cl M q) := rfl
    rw [e] at h
    cases hq : chk1 P F cl M q with
    | false => rw [hq] at h; cases h
    | true =>
      rw [hq] at h
      rcases List.mem_cons.1 hp with rfl | hp
      · exact hq
      · exact chk_mem h hp
include hr in
theorem chk_at {L : Array Bool} {hk : Nat} (hks : hk = es.length ∨ ∃ i, es[hk]? = some i ∧ hvAt ops i = true ∧ ¬ Ld L i) : chkAll P F cl (SS hk).M (SS hk).ps = true := by
  rcases hks with rfl | ⟨i, hi, hv, _⟩
  · exact hr.fin
  · obtain ⟨o, b, ho, _, _, _, h1, _⟩ := hr.step _ _ hi
    exact (h1 (by unfold hvAt at hv; rw [ho] at hv; exact hv)).1
def TmpAt (ops : Array Oper) (es : List Nat) (SS : Nat → DS) (VV : Nat → AV) (n d : Nat) (v : AV) : Prop := (∃ k i o, k < n ∧ es[k]? = some i ∧ ops[i]? = some o ∧ o.dst = some d ∧ v = VV k) ∨
    ((SS 0).t.get d = some v ∧ ∀ (k i : Nat) (o : Oper), k < n → es[k]? = some i → ops[i]? = some o → o.dst ≠ some d)
include hr in
/-- What is had of the temporaries in the one order. -/
theorem tmp_at : ∀ (n d : Nat) (v : AV), n ≤ es.length → (SS n).t.get d = some v → TmpAt ops es SS VV n d v
  | 0, d, v, _, h => .inr ⟨h, fun k i o hk => by omega⟩
  | n + 1, d, v, hle, h => by
    have hx : es[n]? = some (es[n]'(by omega)) := List.getElem?_eq_getElem (by omega)
    obtain ⟨o, b, ho, hb, hp, hnx, h1, h2, h3⟩ := hr.step _ _ hx
    have rest : o.dst ≠ some d → (SS n).t.get d = some v → TmpAt ops es SS VV (n + 1) d v := fun hne h' => by
      rcases tmp_at n d v (by omega) h' with ⟨k, i, o', h4, h5, h6, h7, h8⟩ | ⟨h4, h5⟩
      · exact .inl ⟨k, i, o', by omega, h5, h6, h7, h8⟩
      · refine .inr ⟨h4, fun k i o' h6 h7 h8 => ?_⟩
        by_cases e : k = n
        · subst e; rw [hx] at h7; cases h7; rw [ho] at h8; cases h8; exact hne
        · exact h5 k i o' (by omega) h7 h8
    cases hd : o.dst with
    | none =>
      rw [hd] at hp
      have : (SS (n + 1)).t = (SS n).t := (ok_inj hp).symm
      rw [this] at h
      exact rest (by rw [hd]; exact fun e => by cases e) h
    | some d' =>
      rw [hd] at hp
      obtain ⟨_, hp⟩ := guardR_ok hp
      have : (SS (n + 1)).t = (SS n).t.set (VV n) d' := (ok_inj hp).symm
      rw [this] at h
      rcases set_get _ _ _ _ _ h with ⟨rfl, h9⟩ | ⟨hne, h9⟩
      · exact .inl ⟨n, _, o, by omega, hx, ho, hd, h9⟩
      · exact rest (by rw [hd]; exact fun e => hne (by cases e; rfl)) h9
end
end Go.Proofs.YtbmhamijoajnhaaGreat.E
