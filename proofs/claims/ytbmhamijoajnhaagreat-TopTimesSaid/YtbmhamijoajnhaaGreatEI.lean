/- Regions whose order is drawn: the proof. Nothing of the program. -/
import Derived.Test.YtbmhamijoajnhaaGreatEH
namespace Go.Proofs.YtbmhamijoajnhaaGreat.E
open Go Go.RowKit
section
variable {X : Nat → Prop} {P : Program} {F : Facts} {cl : CallT} {nt : Nat} {ops : Array Oper} {bm es : List Nat} {SS : Nat → DS} {VV : Nat → AV} {ρ : Nat → Int} {B : Nat} {μ0 : Mu} {a0 : Act} {w0 : World}
  {L : Array Bool} {a : Act} {w : World} {μ : Mu} {hk : Nat}

/-- All ahead of it has come up. -/
def Rdy (ops : Array Oper) (L : Array Bool) (i : Nat) (o : Oper) : Prop := ops[i]? = some o ∧ ¬ Ld L i ∧ ∀ e ∈ o.after, bindsA e = true → Ld L e.on
theorem Rdy.pre {i : Nat} {o : Oper} (hs : Stat ops bm es) (h : Rdy ops L i o) (hd : ∀ i o, ops[i]? = some o → Ld L i → ∀ e ∈ o.after, bindsA e = true → Ld L e.on) {j : Nat} (hp : Pre bm i j) : Ld L j :=
  closed hs hd i (Array.getElem?_eq_some_iff.1 h.1).1 (fun o' ho' => by rw [h.1] at ho'; cases ho'; exact h.2.2) j hp
theorem agree_at (hs : Stat ops bm es) (hr : RunD P F cl nt ops bm es SS VV) (h : Inv X ops es SS VV nt ρ B μ0 a0 w0 L a w μ hk) {k i : Nat} {o : Oper} (hi : es[k]? = some i) (hrd : Rdy ops L i o) : Agree μ ρ w ops o a (SS k).t := by
  intro d v hd hget
  obtain ⟨ho, hnl, hall⟩ := hrd
  rcases tmp_at hr k d v (Nat.le_of_lt (es_lt hi)) hget with ⟨k', j, oj, hk', hj, hoj, hdst, hv⟩ | ⟨h0, hno⟩
  · have hne : i ≠ j := fun e => by subst e; have := hs.nodup _ _ _ hi hj; omega
    rcases (hs.tid i j o oj d ho hoj hne hdst).2 hd with hp | hp
    · obtain ⟨u, h1, h2⟩ := h.put k' j oj d (Rdy.pre hs ⟨ho, hnl, hall⟩ h.down hp) hj hoj hdst
      exact ⟨u, h1, by rw [hv]; exact h2⟩
    · obtain ⟨k'', h1, h2⟩ := hs.valid _ _ _ hj hp
      have := hs.nodup _ _ _ hi h2
      omega
  · refine h.old d v h0 fun j oj hl hoj hdst => ?_
    have hne : i ≠ j := fun e => by subst e; exact hnl hl
    obtain ⟨kj, hkj⟩ := hs.mem j (by rw [← h.size]; exact ld_lt hl)
    rcases (hs.tid i j o oj d ho hoj hne hdst).2 hd with hp | hp
    · obtain ⟨k', h1, h2⟩ := hs.valid _ _ _ hi hp
      exact hno k' j oj h1 h2 hoj hdst
    · exact hnl (closed' hs h.size h.down hl hp)
/-- One more has come up. -/
theorem Inv.next (hs : Stat ops bm es) (hr : RunD P F cl nt ops bm es SS VV) (h : Inv X ops es SS VV nt ρ B μ0 a0 w0 L a w μ hk) {k i : Nat} {o : Oper} (hi : es[k]? = some i) (hrd : Rdy ops L i o)
    {u : Value} {μ' : Mu} {w' : World} {hk' : Nat} (hu : AR μ' ρ w' u (VV k)) (hst : Ste B μ w μ' w') (hM : MR (fun b => X b ∨ Wait ops SS es (L.setIfInBounds i true) hk' b) μ' ρ B w' (SS hk').M)
    (hkle : hk' ≤ es.length) (hks : hk' = es.length ∨ ∃ i', es[hk']? = some i' ∧ hvAt ops i' = true ∧ ¬ Ld (L.setIfInBounds i true) i')
    (hbf : ∀ k i' : Nat, k < hk' → es[k]? = some i' → hvAt ops i' = true → Ld (L.setIfInBounds i true) i') :
    Inv X ops es SS VV nt ρ B μ0 a0 w0 (L.setIfInBounds i true) (a.put o.dst u) w' μ' hk' := by
  obtain ⟨ho, hnl, hall⟩ := hrd
  have hin : i < L.size := by rw [h.size]; exact (Array.getElem?_eq_some_iff.1 ho).1
  have hset : ∀ j, Ld (L.setIfInBounds i true) j ↔ j = i ∨ Ld L j := fun j => ld_set hin
  obtain ⟨o', b, ho', hb, hp, hnx, h1, h2, h3⟩ := hr.step _ _ hi
  rw [ho] at ho'
  cases ho'
  have hoth : ∀ d, o.dst ≠ some d → (a.put o.dst u).tmps[d]? = a.tmps[d]? := by
    intro d hd
    cases he : o.dst with
    | none => rfl
    | some d' =>
      show (a.tmps.setIfInBounds d' u)[d]? = _
      rw [Array.getElem?_setIfInBounds_ne (fun e => hd (by rw [he, e]))]
  refine ⟨by rw [Array.size_setIfInBounds]; exact h.size, fun j oj hoj hl e he hb => ?_, hkle, hks, hbf, hM, fun k1 j oj d hl hkj hoj hd => ?_, fun d x hx hno => ?_, ?_, by rw [put_defers]; exact h.defers, h.ste.trans hst, Nat.le_trans h.B hst.below.size⟩
  · rw [hset]
    rcases (hset j).1 hl with rfl | hl
    · rw [ho] at hoj; cases hoj; exact .inr (hall e he hb)
    · exact .inr (h.down j oj hoj hl e he hb)
  · rcases (hset j).1 hl with rfl | hl
    · have := hs.nodup _ _ _ hkj hi
      subst this
      rw [ho] at hoj
      cases hoj
      rw [hd] at hp ⊢
      obtain ⟨g, _⟩ := guardR_ok hp
      have hlt : d < a.tmps.size := Nat.lt_of_lt_of_le (ble_true g) h.tmps
      exact ⟨u, by show (a.tmps.setIfInBounds d u)[d]? = _; rw [Array.getElem?_setIfInBounds_self_of_lt hlt], hu⟩
    · have hne : i ≠ j := fun e => by subst e; exact hnl hl
      have := (hs.tid i j o oj d ho hoj hne hd).1
      obtain ⟨q, h4, h5⟩ := h.put k1 j oj d hl hkj hoj hd
      exact ⟨q, by rw [hoth d this]; exact h4, h5.mono hst.le hst.ext⟩
  · have hd := hno i o ((hset i).2 (.inl rfl)) ho
    obtain ⟨q, h4, h5⟩ := h.old d x hx fun j oj hl => hno j oj ((hset j).2 (.inr hl))
    exact ⟨q, by rw [hoth d hd]; exact h4, h5.mono hst.le hst.ext⟩
  · cases he : o.dst with
    | none => exact h.tmps
    | some d => show nt ≤ (a.tmps.setIfInBounds d u).size; rw [Array.size_setIfInBounds]; exact h.tmps
/-- What an operation does, handed on. -/
def Does (P : Program) (ops : Array Oper) (Q : Exit → Act → World → Prop) (i : Nat) (o : Oper) (a : Act) (w : World) (R : Value → World → Prop) : Prop :=
  ∀ K : Act → World → Prop, (∀ u w', R u w' → K (a.put o.dst u) w') → wpOp P ops Q i K a w
theorem does_value {Q : Exit → Act → World → Prop} {i : Nat} {o : Oper} {R : Value → World → Prop} {u : Value} {w' : World} (ho : ops[i]? = some o) (hw : Region.wanted o (yielded ops a.tmps) = true) (hr : (execOp a.eval o).run P w = .ok (.value u) w') (h : R u w') : Does P ops Q i o a w R := by
  intro K hK
  unfold wpOp
  simp only [ho, hw, if_true]
  refine .inl ?_
  unfold Oper.wp
  rw [hr]
  exact hK u w' h
theorem does_undef {Q : Exit → Act → World → Prop} {i : Nat} {o : Oper} {R : Value → World → Prop} (ho : ops[i]? = some o) (hw : Region.wanted o (yielded ops a.tmps) = false) (h : R undef w) : Does P ops Q i o a w R := by
  intro K hK
  unfold wpOp
  simp only [ho, hw, Bool.false_eq_true, if_false]
  exact hK undef w h
theorem wait_sub {i hk' : Nat} (hin : i < L.size) {b : Nat} (h : Wait ops SS es (L.setIfInBounds i true) hk' b) : Wait ops SS es L hk' b := by
  obtain ⟨k, j, h1, h2, h3, h4, h5⟩ := h
  exact ⟨k, j, h1, h2, fun hl => h3 ((ld_set hin).2 (.inr hl)), h4, h5⟩
theorem light (hF : F.Sat ρ) (hs : Stat ops bm es) (hr : RunD P F cl nt ops bm es SS VV) (hX0 : ∀ b, X b → b < (SS 0).M.nx) (h : Inv X ops es SS VV nt ρ B μ0 a0 w0 L a w μ hk) {k i : Nat} {o : Oper} (hi : es[k]? = some i) (hrd : Rdy ops L i o)
    (hv : isHv o.op = false) (Q : Exit → Act → World → Prop) : Does P ops Q i o a w fun u w' => ∃ μ', Inv X ops es SS VV nt ρ B μ0 a0 w0 (L.setIfInBounds i true) (a.put o.dst u) w' μ' hk := by
  have hag := agree_at hs hr h hi hrd
  have hnb := not_behind hs h.size h.down h.hks k i hi fun j hj => hrd.pre hs h.down hj
  obtain ⟨ho, hnl, hall⟩ := hrd
  have hin : i < L.size := by rw [h.size]; exact (Array.getElem?_eq_some_iff.1 ho).1
  have hvA : hvAt ops i = false := by unfold hvAt; rw [ho]; exact hv
  have hlt : k < hk := by
    rcases Nat.lt_or_ge k hk with h' | h'
    · exact h'
    · have e : k = hk := by omega
      subst e
      rcases h.hks with e | ⟨i', h1, h2, _⟩
      · have := es_lt hi; omega
      · rw [hi] at h1; cases h1; rw [hvA] at h2; cases h2
  have hks : hk = es.length ∨ ∃ i', es[hk]? = some i' ∧ hvAt ops i' = true ∧ ¬ Ld (L.setIfInBounds i true) i' := by
    refine h.hks.imp id fun ⟨i', h1, h2, h3⟩ => ⟨i', h1, h2, fun hl => ?_⟩
    rcases (ld_set hin).1 hl with rfl | hl
    · rw [hvA] at h2; cases h2
    · exact h3 hl
  have hbf : ∀ k i' : Nat, k < hk → es[k]? = some i' → hvAt ops i' = true → Ld (L.setIfInBounds i true) i' := fun k1 i' h1 h2 h3 => (ld_set hin).2 (.inr (h.before k1 i' h1 h2 h3))
  have hMw := h.mem.weak (Y := fun b => X b ∨ Wait ops SS es (L.setIfInBounds i true) hk b) fun b hb => hb.imp id (wait_sub hin)
  obtain ⟨o', b, ho', hb, hp, hnx, h1, h2, h3⟩ := hr.step _ _ hi
  rw [ho] at ho'
  cases ho'
  have hw := wantA_ok hag hb
  cases b with
  | false =>
    refine does_undef ho hw ⟨μ, h.next hs hr hi ⟨ho, hnl, hall⟩ ?_ (Ste.refl B μ w) hMw h.hkle hks hbf⟩
    rw [(h2 rfl).1]; exact AR.und μ ρ w
  | true =>
    obtain ⟨h4, h5⟩ := h3 rfl
    have h5 := h5 hv
    have hsee := seeO_ok hag
    -- values that memory bears
    have val : (match kindO o.op with | .heavy => False | .new => False | _ => True) → ∀ M'', opA P F cl (evO (SS k).t) o.op (SS hk).M = .ok (VV k, M'') → Does P ops Q i o a w fun u w' => ∃ μ', Inv X ops es SS VV nt ρ B μ0 a0 w0 (L.setIfInBounds i true) (a.put o.dst u) w' μ' hk := by
      intro hkd M'' h6
      rw [opA_see (ops := ops) (o := o) rfl] at h6
      obtain ⟨_, u, h7, h8⟩ := op_val hF h.mem hsee h6 hkd
      exact does_value ho hw h7 ⟨μ, h.next hs hr hi ⟨ho, hnl, hall⟩ h8 (Ste.refl B μ w) hMw h.hkle hks hbf⟩
    have stays : ∀ p : Pend, p.i = i → p ∈ (SS (k + 1)).ps → p ∈ (SS hk).ps := by
      intro p hpi hpm
      have := pend_stays hr hpm (hk - (k + 1)) (by have := h.hkle; omega) fun k1 i1 h6 h7 h8 h9 hpre => by
        rw [hpi] at hpre
        exact hnl (closed' hs h.size h.down (h.before k1 i1 (by omega) h8 h9) hpre)
      rwa [show k + 1 + (hk - (k + 1)) = hk by omega] at this
    cases hkd : kindO o.op with
    | heavy => unfold isHv at hv; rw [hkd] at hv; cases hv
    | pure => exact val (by rw [hkd]; trivial) _ (opA_pure (by rw [hkd]; trivial) h4 (SS hk).M)
    | load =>
      have h6 : (SS (k + 1)).ps = .ld i o (VV k) (SS k).t :: (SS k).ps := by
        unfold pendOf at h5
        rw [hkd] at h5
        exact (ok_inj h5).symm
      have h7 := stays (.ld i o (VV k) (SS k).t) rfl (by rw [h6]; exact List.mem_cons_self)
      have h8 := chk_mem (chk_at hr h.hks) h7
      have h9 : resV (opA P F cl (evO (SS k).t) o.op (SS hk).M) (VV k) = true := h8
      cases hop : opA P F cl (evO (SS k).t) o.op (SS hk).M with
      | no wy => rw [hop] at h9; cases h9
      | ok q =>
        rw [hop] at h9
        have h10 := beqA_true (show beqA q.1 (VV k) = true from h9)
        refine val (by rw [hkd]; trivial) q.2 ?_
        rw [hop, ← h10]
    | new =>
      have hnew : NewAt ops SS es k := ⟨i, o, hi, ho, hkd, hb⟩
      obtain ⟨i', o', q, hi', ho', _, hq, hV, hMn, hps, _⟩ := new_step hr hnew
      rw [hi] at hi'
      cases hi'
      rw [ho] at ho'
      cases ho'
      have h7 := stays (.nw i (SS k).M.nx q.1) rfl (by rw [hps]; exact List.mem_cons_self)
      have h8 : Option.rec (motive := fun _ => Bool) false (fun x => beqBlk x q.1) ((SS hk).M.bl.get (SS k).M.nx) = true := chk_mem (chk_at hr h.hks) h7
      have hget : (SS hk).M.bl.get (SS k).M.nx = some q.1 := by
        cases hg : (SS hk).M.bl.get (SS k).M.nx with
        | none => rw [hg] at h8; cases h8
        | some x => rw [hg] at h8; rw [beqBlk_true h8]
      rw [newA_see (ops := ops) (o := o) rfl] at hq
      obtain ⟨u, ob, h9, h10, h11⟩ := op_new hsee hq
      have hwait : Wait ops SS es L hk (SS k).M.nx := ⟨k, i, hlt, hi, hnl, hnew, rfl⟩
      obtain ⟨hnone, hbn⟩ := h.mem.pend _ (.inr hwait)
      have hnot : ¬ (X (SS k).M.nx ∨ Wait ops SS es (L.setIfInBounds i true) hk (SS k).M.nx) := by
        rintro (hx | ⟨k2, i2, h12, h13, h14, h15, h16⟩)
        · have := hX0 _ hx
          have h17 := nx_mono hr k 0 (by have := es_lt hi; omega)
          rw [Nat.zero_add] at h17
          omega
        · have hk2 : k2 ≠ k := fun e => by
            subst e
            rw [hi] at h13
            cases h13
            exact h14 ((ld_set hin).2 (.inl rfl))
          have grow : ∀ {x y : Nat}, x < y → y ≤ es.length → NewAt ops SS es x → (SS x).M.nx < (SS y).M.nx := by
            intro x y hxy hy hnx'
            obtain ⟨_, _, q', _, _, _, _, _, hM', _⟩ := new_step hr hnx'
            have h18 := nx_mono hr (y - (x + 1)) (x + 1) (by omega)
            rw [show x + 1 + (y - (x + 1)) = y by omega, hM'] at h18
            exact h18
          rcases Nat.lt_or_ge k2 k with h17 | h17
          · have := grow h17 (Nat.le_of_lt (es_lt hi)) h15; omega
          · have := grow (show k < k2 by omega) (Nat.le_of_lt (es_lt h13)) hnew; omega
      obtain ⟨h12, h13⟩ := hMw.alloc (M' := (SS hk).M) (b := (SS k).M.nx) (blk := q.1) (o := ob) h.B hnone hnot (fun j x hj => by
        by_cases e : j = (SS k).M.nx
        · subst e; rw [hget] at hj; cases hj; exact .inl ⟨rfl, rfl⟩
        · exact .inr ⟨e, hj⟩) (Nat.le_refl _) hbn h10
      refine does_value ho hw h9 ⟨_, h.next hs hr hi ⟨ho, hnl, hall⟩ ?_ h13 h12 h.hkle hks hbf⟩
      rw [hV]
      exact h11 _ _ (put_same μ _ _)
theorem next_heavy (ops : Array Oper) (es : List Nat) : ∀ (n k0 : Nat), k0 + n = es.length → ∃ hk', k0 ≤ hk' ∧ hk' ≤ es.length ∧ (hk' = es.length ∨ ∃ i, es[hk']? = some i ∧ hvAt ops i = true) ∧ ∀ k i : Nat, k0 ≤ k → k < hk' → es[k]? = some i → hvAt ops i = false
  | 0, k0, h => ⟨k0, Nat.le_refl _, by omega, .inl (by omega), fun k i h1 h2 => by omega⟩
  | n + 1, k0, h => by
    have hx : es[k0]? = some (es[k0]'(by omega)) := List.getElem?_eq_getElem (by omega)
    cases hv : hvAt ops (es[k0]'(by omega)) with
    | true => exact ⟨k0, Nat.le_refl _, by omega, .inr ⟨_, hx, hv⟩, fun k i h1 h2 => by omega⟩
    | false =>
      obtain ⟨hk', h1, h2, h3, h4⟩ := next_heavy ops es n (k0 + 1) (by omega)
      refine ⟨hk', by omega, h2, h3, fun k i h5 h6 h7 => ?_⟩
      by_cases e : k = k0
      · subst e; rw [hx] at h7; cases h7; exact hv
      · exact h4 k i (by omega) h6 h7
theorem heavy (hF : F.Sat ρ) (hcl : CallOK P F cl) (hs : Stat ops bm es) (hr : RunD P F cl nt ops bm es SS VV) (h : Inv X ops es SS VV nt ρ B μ0 a0 w0 L a w μ hk) {k i : Nat} {o : Oper} (hi : es[k]? = some i) (hrd : Rdy ops L i o)
    (hv : isHv o.op = true) (Q : Exit → Act → World → Prop) : Does P ops Q i o a w fun u w' => ∃ μ' hk', Inv X ops es SS VV nt ρ B μ0 a0 w0 (L.setIfInBounds i true) (a.put o.dst u) w' μ' hk' := by
  have hag := agree_at hs hr h hi hrd
  have hnb := not_behind hs h.size h.down h.hks k i hi fun j hj => hrd.pre hs h.down hj
  obtain ⟨ho, hnl, hall⟩ := hrd
  have hin : i < L.size := by rw [h.size]; exact (Array.getElem?_eq_some_iff.1 ho).1
  have hvA : hvAt ops i = true := by unfold hvAt; rw [ho]; exact hv
  have hkk : k = hk := by
    rcases Nat.lt_or_ge k hk with h' | h'
    · exact absurd (h.before k i h' hi hvA) hnl
    · omega
  subst hkk
  have hlen := es_lt hi
  obtain ⟨hk', h6, h7, h8, h9⟩ := next_heavy ops es (es.length - (k + 1)) (k + 1) (by omega)
  have unl : ∀ k1 i1 : Nat, k < k1 → es[k1]? = some i1 → ¬ Ld (L.setIfInBounds i true) i1 := by
    intro k1 i1 h10 h11 hl
    rcases (ld_set hin).1 hl with rfl | hl
    · have := hs.nodup _ _ _ h11 hi; omega
    · have := not_behind hs h.size h.down h.hks k1 i1 h11 fun j hj => closed' hs h.size h.down hl hj
      omega
  have fin : ∀ (u : Value) (μ' : Mu) (w' : World), AR μ' ρ w' u (VV k) → MR (fun b => X b ∨ Wait ops SS es L k b) μ' ρ B w' (SS (k + 1)).M → Ste B μ w μ' w' → ∃ μ' hk', Inv X ops es SS VV nt ρ B μ0 a0 w0 (L.setIfInBounds i true) (a.put o.dst u) w' μ' hk' := by
    intro u μ' w' hu hM hS
    refine ⟨μ', hk', h.next hs hr hi ⟨ho, hnl, hall⟩ hu hS ?_ h7 ?_ ?_⟩
    · have hM1 : MR (fun b => X b ∨ Wait ops SS es (L.setIfInBounds i true) (k + 1) b) μ' ρ B w' (SS (k + 1)).M := by
        refine hM.weak fun b hb => hb.imp id fun ⟨k1, i1, h10, h11, h12, h13, h14⟩ => ?_
        have hne : k1 ≠ k := fun e => by subst e; rw [hi] at h11; cases h11; exact h12 ((ld_set hin).2 (.inl rfl))
        exact ⟨k1, i1, by omega, h11, fun hl => h12 ((ld_set hin).2 (.inr hl)), h13, h14⟩
      have := stage hr (by omega) hM1 (hk' - (k + 1)) (by omega) fun k1 i1 h10 h11 h12 => ⟨h9 k1 i1 h10 (by omega) h12, unl k1 i1 (by omega) h12⟩
      rwa [show k + 1 + (hk' - (k + 1)) = hk' by omega] at this
    · refine h8.imp id fun ⟨i', h10, h11⟩ => ⟨i', h10, h11, unl hk' i' (by omega) h10⟩
    · intro k1 i1 h10 h11 h12
      refine (ld_set hin).2 ?_
      rcases Nat.lt_or_ge k1 k with h13 | h13
      · exact .inr (h.before k1 i1 h13 h11 h12)
      · by_cases e : k1 = k
        · subst e; rw [hi] at h11; cases h11; exact .inl rfl
        · have := h9 k1 i1 (by omega) h10 h11
          rw [this] at h12; cases h12
  obtain ⟨o', b, ho', hb, hp, hnx, h1, h2, h3⟩ := hr.step _ _ hi
  rw [ho] at ho'
  cases ho'
  have hw := wantA_ok hag hb
  cases b with
  | false =>
    obtain ⟨h4, h5, _⟩ := h2 rfl
    refine does_undef ho hw (fin undef μ w ?_ ?_ (Ste.refl B μ w))
    · rw [h4]; exact AR.und μ ρ w
    · rw [h5]; exact h.mem
  | true =>
    obtain ⟨h4, _⟩ := h3 rfl
    rw [opA_see (ops := ops) (o := o) rfl] at h4
    intro K hK
    unfold wpOp
    simp only [ho, hw, if_true]
    refine .inl (op_heavy hF hcl h.mem h.B (seeO_ok hag) h4 hv K Q fun u μ' w' hu hM' hS => ?_)
    exact hK u w' (fin u μ' w' hu hM' hS)
/- All orders. -/
def un (l : List Bool) : Nat := (l.filter (!·)).length
theorem un_set : ∀ (l : List Bool) (i : Nat), l[i]? = some false → un (l.set i true) + 1 = un l
  | [], i, h => by simp at h
  | b :: l, 0, h => by simp at h; subst h; simp [un]
  | b :: l, i + 1, h => by
    have := un_set l i (by simpa using h)
    cases b <;> simp [un] at * <;> omega
theorem all_of_un : ∀ (l : List Bool), un l = 0 → ∀ i, i < l.length → l[i]? = some true
  | b :: l, h, i, hi => by
    cases b with
    | false => simp [un] at h
    | true =>
      cases i with
      | zero => rfl
      | succ i => exact all_of_un l (by simpa [un] using h) i (by simpa using hi)
theorem bindsA_eq (e : Edge) : bindsA e = Region.binds .any e := rfl
theorem done_of (hs : Stat ops bm es) (h : Inv X ops es SS VV nt ρ B μ0 a0 w0 L a w μ hk) (hrd : Region.ready .any ops L = []) : ∀ i, i < ops.size → Ld L i := by
  have key : ∀ k i : Nat, es[k]? = some i → Ld L i := by
    intro k
    induction k using Nat.strongRecOn with
    | _ k ih =>
      intro i hi
      have hlt := lt_of_es hs hi
      cases hl : L.getD i false with
      | true => exact hl
      | false =>
        exfalso
        have hm : i ∈ Region.ready .any ops L := by
          rw [mem_ready]
          refine ⟨?_, ops[i], Array.getElem?_eq_getElem hlt, fun e he hb => ?_⟩
          · have hsz : i < L.size := by rw [h.size]; exact hlt
            rw [Array.getD_eq_getD_getElem?, Array.getElem?_eq_getElem hsz] at hl ⊢
            exact hl
          · obtain ⟨hp, _⟩ := hs.edge i _ (Array.getElem?_eq_getElem hlt) e he hb
            obtain ⟨k', h1, h2⟩ := hs.valid k i e.on hi hp
            exact ih k' h1 e.on h2
        rw [hrd] at hm
        cases hm
  intro i hi
  obtain ⟨k, hk⟩ := hs.mem i hi
  exact key k i hk
theorem fin_of (hs : Stat ops bm es) (hr : RunD P F cl nt ops bm es SS VV) (h : Inv X ops es SS VV nt ρ B μ0 a0 w0 L a w μ hk) (hall : ∀ i, i < ops.size → Ld L i) : Left X nt μ0 ρ B w0 a0 (SS es.length).t (SS es.length).M a w := by
  have hkl : hk = es.length := by
    rcases h.hks with e | ⟨i, h1, _, h2⟩
    · exact e
    · exact absurd (hall i (lt_of_es hs h1)) h2
  subst hkl
  refine ⟨μ, ⟨h.tmps, fun d v hd => ?_⟩, h.defers, h.mem.weak fun b hb => .inl hb, h.ste⟩
  rcases tmp_at hr es.length d v (Nat.le_refl _) hd with ⟨k, i, o, h1, h2, h3, h4, h5⟩ | ⟨h1, h2⟩
  · obtain ⟨u, h6, h7⟩ := h.put k i o d (hall i (lt_of_es hs h2)) h2 h3 h4
    exact ⟨u, h6, by rw [h5]; exact h7⟩
  · refine h.old d v h1 fun i o hl ho => ?_
    obtain ⟨k, hk⟩ := hs.mem i (by rw [← h.size]; exact ld_lt hl)
    exact h2 k i o (es_lt hk) hk ho
theorem any_ok (hF : F.Sat ρ) (hcl : CallOK P F cl) (hs : Stat ops bm es) (hr : RunD P F cl nt ops bm es SS VV) (hX0 : ∀ b, X b → b < (SS 0).M.nx) {Q : Exit → Act → World → Prop}
    (hQ : ∀ a' w', Left X nt μ0 ρ B w0 a0 (SS es.length).t (SS es.length).M a' w' → Q .normal a' w') : ∀ (fuel : Nat) (L : Array Bool) (a : Act) (w : World) (μ : Mu) (hk : Nat),
    Inv X ops es SS VV nt ρ B μ0 a0 w0 L a w μ hk → un L.toList ≤ fuel → wpAny P .any ops Q fuel L a w
  | 0, L, a, w, μ, hk, h, hu => by
    have hall : ∀ i, i < ops.size → Ld L i := by
      intro i hi
      have := all_of_un L.toList (by omega) i (by rw [Array.length_toList, h.size]; exact hi)
      rw [Array.getElem?_toList] at this
      unfold Ld
      rw [Array.getD_eq_getD_getElem?, this]; rfl
    refine ⟨?_, hQ a w (fin_of hs hr h hall)⟩
    apply List.eq_nil_iff_forall_not_mem.2
    intro i hi
    obtain ⟨h1, o, ho, _⟩ := mem_ready.1 hi
    have h2 := hall i (Array.getElem?_eq_some_iff.1 ho).1
    unfold Ld at h2
    have hsz : i < L.size := by rw [h.size]; exact (Array.getElem?_eq_some_iff.1 ho).1
    rw [Array.getD_eq_getD_getElem?, Array.getElem?_eq_getElem hsz] at h1 h2
    simp at h1 h2
    rw [h1] at h2; cases h2
  | fuel + 1, L, a, w, μ, hk, h, hu => by
    refine ⟨fun hrd => hQ a w (fin_of hs hr h (done_of hs h hrd)), fun i hi => ?_⟩
    obtain ⟨h1, o, ho, h2⟩ := mem_ready.1 hi
    have hlt := (Array.getElem?_eq_some_iff.1 ho).1
    have hsz : i < L.size := by rw [h.size]; exact hlt
    have hf : L[i]? = some false := by
      rw [Array.getD_eq_getD_getElem?, Array.getElem?_eq_getElem hsz] at h1
      rw [Array.getElem?_eq_getElem hsz]
      simp at h1
      rw [h1]
    have hrd : Rdy ops L i o := ⟨ho, by unfold Ld; rw [Array.getD_eq_getD_getElem?, hf]; exact (fun e => by cases e), fun e he hb => h2 e he hb⟩
    obtain ⟨k, hk'⟩ := hs.mem i hlt
    have hu' : un (L.setIfInBounds i true).toList ≤ fuel := by
      have := un_set L.toList i (by rw [Array.getElem?_toList]; exact hf)
      rw [Array.toList_setIfInBounds]
      omega
    cases hv : isHv o.op with
    | true => exact heavy hF hcl hs hr h hk' hrd hv Q _ fun u w' ⟨μ', hk2, hI⟩ => any_ok hF hcl hs hr hX0 hQ fuel _ _ _ μ' hk2 hI hu'
    | false => exact light hF hs hr hX0 h hk' hrd hv Q _ fun u w' ⟨μ', hI⟩ => any_ok hF hcl hs hr hX0 hQ fuel _ _ _ μ' hk hI hu'
/-- A region whose order is drawn. -/
theorem draw_ok (hF : F.Sat ρ) (hcl : CallOK P F cl) {rid : Nat} {t t' : PT AV} {M M' : Mem} (hm : P.follows .mixedOrders = true) (hl : drawR P F cl nt ops t M = .ok (t', M')) (hT : TR nt μ ρ w a t) (hM : MR X μ ρ B w M) (hB : B ≤ w.heap.size)
    {Q : Exit → Act → World → Prop} (hQ : ∀ a' w', Left X nt μ ρ B w a t' M' a' w' → Q .normal a' w') : (Code.region rid ops true).wp P Q a w := by
  obtain ⟨g, hl⟩ := guardR_ok hl
  have hs := stat_of g
  obtain ⟨SS, VV, hr, h0, h1, h2⟩ := drawA_ok _ _ hl
  have hw : ({ w with drawn := w.drawn + 1 } : World).heap = w.heap := rfl
  obtain ⟨hk', h6, h7, h8, h9⟩ := next_heavy ops (eager ops (masks ops)) (eager ops (masks ops)).length 0 (by omega)
  have hnol : ∀ i, ¬ Ld (Array.replicate ops.size false) i := by
    intro i hl
    have hlt := ld_lt hl
    unfold Ld at hl
    rw [Array.getD_eq_getD_getElem?, Array.getElem?_eq_getElem hlt] at hl
    simp at hl
  have hM0 : MR (fun b => X b ∨ Wait ops SS (eager ops (masks ops)) (Array.replicate ops.size false) 0 b) μ ρ B { w with drawn := w.drawn + 1 } (SS 0).M := by
    rw [h0]
    refine (MR.same (w := w) hw hM).weak fun b hb => ?_
    rcases hb with hb | ⟨k, i, h10, _⟩
    · exact hb
    · omega
  have hM1 := stage hr (Nat.zero_le _) hM0 hk' (by omega) fun k i h10 h11 h12 => ⟨h9 k i h10 (by omega) h12, hnol i⟩
  rw [Nat.zero_add] at hM1
  refine wp_region_any hm (any_ok (μ0 := μ) (a0 := a) (w0 := w) hF hcl hs hr (fun b hb => by rw [h0]; exact (hM.pend b hb).2) (fun a' w' hL => hQ a' w' (by rw [h1, h2] at hL; exact hL)) ops.size _ a _ μ hk' ?_ ?_)
  · refine ⟨by simp, fun i o _ hl => absurd hl (hnol i), h7, h8.imp id fun ⟨i, h10, h11⟩ => ⟨i, h10, h11, hnol i⟩, fun k i h10 h11 h12 => ?_, hM1, fun k i o d hl => absurd hl (hnol i), fun d x hx _ => ?_, hT.size, rfl, Ste.drew μ w (w.drawn + 1), hB⟩
    · have := h9 k i (Nat.zero_le _) h10 h11
      rw [this] at h12; cases h12
    · rw [h0] at hx
      obtain ⟨u, h10, h11⟩ := hT.tmp d x hx
      exact ⟨u, h10, h11.mono (Mu.refl μ) fun k c e fr hk => ⟨c, fr, hk, rfl⟩⟩
  · unfold un
    exact Nat.le_trans (List.length_filter_le _ _) (by simp)
end
end Go.Proofs.YtbmhamijoajnhaaGreat.E
