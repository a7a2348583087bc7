/- States may be thinned, and their blocks be numbered anew; a frame's run, cut into pieces. Nothing of the program. -/
import Derived.Test.YtbmhamijoajnhaaGreatEP
namespace Go.Proofs.YtbmhamijoajnhaaGreat.E
open Go Go.RowKit
set_option linter.constructorNameAsVariable false
noncomputable section
/- A new number stands for an old one. -/
def renCV (g : Nat → Nat) (x : CV) : CV := match x with
  | .p b o => .p (g b) o
  | .s b o len cap ex sz => .s (g b) o len cap ex sz
  | .f f caps => .f f (caps.map fun p => (g p.1, p.2))
  | .m b => .m (g b)
  | y => y
def ren2 (g : Nat → Nat) (x : V2) : V2 := match x with
  | .c y => .c (renCV g y)
  | .g l => .g (l.map (renCV g))
def renAV (g : Nat → Nat) (x : AV) : AV := match x with
  | .c y => .c (renCV g y)
  | .g l => .g (l.map (renCV g))
  | .t l => .t (l.map (ren2 g))
def Mu.via (μ : Mu) (g : Nat → Nat) : Mu := fun b => μ (g b)
theorem all2_map {α β γ : Type} {R : α → β → Prop} {S : α → γ → Prop} (f : γ → β) (h : ∀ a c, R a (f c) → S a c) : ∀ {l : List α} {m : List γ}, All2 R l (m.map f) → All2 S l m
  | [], [], _ => trivial
  | _ :: _, _ :: _, k => ⟨h _ _ k.1, all2_map f h k.2⟩
  | [], _ :: _, k => k.elim
  | _ :: _, [], k => k.elim
theorem CR.via {μ : Mu} {ρ : Nat → Int} {w : World} {g : Nat → Nat} {u : Value} {x : CV} (h : CR μ ρ w u (renCV g x)) : CR (μ.via g) ρ w u x := by
  cases x with
  | f f caps =>
    obtain ⟨vs, h1, h2⟩ := h
    exact ⟨vs, h1, all2_map (R := PR μ) (S := PR (μ.via g)) (fun p : Nat × Nat => (g p.1, p.2)) (fun _ _ h => h) h2⟩
  | _ => exact h
theorem V2R.via {μ : Mu} {ρ : Nat → Int} {w : World} {g : Nat → Nat} {u : Value} {x : V2} (h : V2R μ ρ w u (ren2 g x)) : V2R (μ.via g) ρ w u x := by
  cases x with
  | c y => exact CR.via h
  | g l => obtain ⟨vs, h1, h2⟩ := h; exact ⟨vs, h1, all2_map (R := CR μ ρ w) (S := CR (μ.via g) ρ w) (renCV g) (fun _ _ h => CR.via h) h2⟩
theorem AR.via {μ : Mu} {ρ : Nat → Int} {w : World} {g : Nat → Nat} {u : Value} {x : AV} (h : AR μ ρ w u (renAV g x)) : AR (μ.via g) ρ w u x := by
  cases x with
  | c y => exact CR.via h
  | g l => obtain ⟨vs, h1, h2⟩ := h; exact ⟨vs, h1, all2_map (R := CR μ ρ w) (S := CR (μ.via g) ρ w) (renCV g) (fun _ _ h => CR.via h) h2⟩
  | t l => obtain ⟨vs, h1, h2⟩ := h; exact ⟨vs, h1, all2_map (R := V2R μ ρ w) (S := V2R (μ.via g) ρ w) (ren2 g) (fun _ _ h => V2R.via h) h2⟩
/- A state, written out. -/
def natAt (d : Nat) (l : List Nat) : Nat → Nat := List.rec (motive := fun _ => Nat → Nat) (fun _ => d) (fun x _ ih n => Nat.rec (motive := fun _ => Nat) x (fun m _ => ih m) n) l
def putTs (ts : List (Nat × AV)) : PT AV := List.rec (motive := fun _ => PT AV) .lf (fun p _ ih => ih.set p.2 p.1) ts
def putBs (bs : List (List CV)) (n : Nat) (t : PT Blk) : PT Blk := List.rec (motive := fun _ => Nat → PT Blk → PT Blk) (fun _ t => t) (fun l _ ih n t => ih (Nat.succ n) (t.set (.cl (putC l 0 .lf)) n)) bs n t
def memOf (bs : List (List CV)) : Mem := ⟨putBs bs 0 .lf, bs.length⟩
/-- An old value stands for a new one: the same, or the number that a form is bound to be. -/
def asCV (F : Facts) (x y : CV) : Bool := match x, y with
  | .x k e, .i k' n => (beqK k k' && sure F (e.off (ineg n))) && sure F (e.neg.off n)
  | x, y => beqC x y
def asAV (F : Facts) (x y : AV) : Bool := match x, y with
  | .c a, .c b => asCV F a b
  | x, y => beqA x y
/-- Is each of these temps so in the tree? -/
def sameTs (F : Facts) (g : Nat → Nat) (t : PT AV) (ts : List (Nat × AV)) : Bool := match ts with
  | [] => true
  | p :: r => (match t.get p.1 with
    | some v => asAV F v (renAV g p.2)
    | none => false) && sameTs F g t r
def sameCs (F : Facts) (g : Nat → Nat) (c : PT CV) (n : Nat) (l : List CV) : Bool := match l with
  | [] => true
  | x :: r => (match c.get n with
    | some v => asCV F v (renCV g x)
    | none => false) && sameCs F g c (n + 1) r
def sameBs (F : Facts) (g : Nat → Nat) (b : PT Blk) (n : Nat) (bs : List (List CV)) : Bool := match bs with
  | [] => true
  | l :: r => (match b.get (g n) with
    | some (.cl c) => sameCs F g c 0 l
    | _ => false) && sameBs F g b (n + 1) r
def notIn (n : Nat) (l : List Nat) : Bool := match l with
  | [] => true
  | x :: r => !(Nat.beq n x) && notIn n r
def apart (l : List Nat) : Bool := match l with
  | [] => true
  | x :: r => notIn x r && apart r
/-- Is the state, thinned and numbered anew (gs: the old numbers), the one that is written out? -/
def sameS (F : Facts) (gs : List Nat) (t : PT AV) (M : Mem) (ts : List (Nat × AV)) (bs : List (List CV)) : Bool :=
  apart gs && Nat.beq gs.length bs.length && sameTs F (natAt M.nx gs) t ts && sameBs F (natAt M.nx gs) M.bl 0 bs
theorem putTs_get : ∀ (ts : List (Nat × AV)) (j : Nat) (v : AV), (putTs ts).get j = some v → (j, v) ∈ ts
  | [], j, v, h => by cases h
  | p :: r, j, v, h => by
    have e : putTs (p :: r) = (putTs r).set p.2 p.1 := rfl
    rw [e] at h
    rcases set_get _ _ _ _ _ h with ⟨h1, h2⟩ | ⟨_, h2⟩
    · subst h1
      subst h2
      exact List.mem_cons_self
    · exact List.mem_cons_of_mem _ (putTs_get r j v h2)
theorem asCV_ok {F : Facts} {ρ : Nat → Int} (hF : F.Sat ρ) {x y : CV} (h : asCV F x y = true) {μ : Mu} {w : World} {u : Value} (k : CR μ ρ w u x) : CR μ ρ w u y := by
  unfold asCV at h
  split at h
  · rename_i k1 e k2 n
    rw [Bool.and_eq_true, Bool.and_eq_true] at h
    obtain ⟨⟨h1, h2⟩, h3⟩ := h
    have h1 := beqK_true h1
    have h2 := sure_ok hF h2
    have h3 := sure_ok hF h3
    rw [off_val] at h2
    rw [off_val, neg_val] at h3
    rw [ineg_eq] at h2
    subst h1
    have k : u = .int k1 (e.val ρ) := k
    rw [k]
    show Value.int k1 (e.val ρ) = .int k1 n
    rw [show e.val ρ = n by omega]
  · rw [← beqC_true h]; exact k
theorem asAV_ok {F : Facts} {ρ : Nat → Int} (hF : F.Sat ρ) {x y : AV} (h : asAV F x y = true) {μ : Mu} {w : World} {u : Value} (k : AR μ ρ w u x) : AR μ ρ w u y := by
  unfold asAV at h
  split at h
  · exact asCV_ok hF h k
  · rw [← beqA_true h]; exact k
theorem sameTs_ok {F : Facts} {g : Nat → Nat} {t : PT AV} : ∀ {ts : List (Nat × AV)}, sameTs F g t ts = true → ∀ p ∈ ts, ∃ v, t.get p.1 = some v ∧ asAV F v (renAV g p.2) = true
  | [], _, _, hp => by cases hp
  | q :: r, h, p, hp => by
    unfold sameTs at h
    rw [Bool.and_eq_true] at h
    rcases List.mem_cons.1 hp with rfl | hp
    · revert h
      cases hq : t.get p.1 with
      | none => intro h; cases h.1
      | some v => intro h; exact ⟨v, rfl, h.1⟩
    · exact sameTs_ok h.2 p hp
theorem sameCs_ok {F : Facts} {g : Nat → Nat} {c : PT CV} : ∀ {l : List CV} {n : Nat}, sameCs F g c n l = true → ∀ j x, l[j]? = some x → ∃ v, c.get (n + j) = some v ∧ asCV F v (renCV g x) = true
  | [], _, _, _, _, hj => by simp at hj
  | y :: r, n, h, j, x, hj => by
    unfold sameCs at h
    rw [Bool.and_eq_true] at h
    cases j with
    | zero =>
      simp only [List.getElem?_cons_zero, Option.some.injEq] at hj
      subst hj
      revert h
      rw [Nat.add_zero]
      cases hq : c.get n with
      | none => intro h; cases h.1
      | some v => intro h; exact ⟨v, rfl, h.1⟩
    | succ j =>
      have := sameCs_ok h.2 j x (by simpa using hj)
      rwa [show n + 1 + j = n + (j + 1) by omega] at this
theorem sameBs_ok {F : Facts} {g : Nat → Nat} {b : PT Blk} : ∀ {bs : List (List CV)} {n : Nat}, sameBs F g b n bs = true → ∀ j l, bs[j]? = some l → ∃ c, b.get (g (n + j)) = some (.cl c) ∧ sameCs F g c 0 l = true
  | [], _, _, _, _, hj => by simp at hj
  | y :: r, n, h, j, l, hj => by
    unfold sameBs at h
    rw [Bool.and_eq_true] at h
    cases j with
    | zero =>
      simp only [List.getElem?_cons_zero, Option.some.injEq] at hj
      subst hj
      revert h
      cases hq : b.get (g (n + 0)) with
      | none => intro h; cases h.1
      | some v =>
        intro h
        cases v with
        | cl c => exact ⟨c, rfl, h.1⟩
        | mp l => cases h.1
    | succ j =>
      have := sameBs_ok h.2 j l (by simpa using hj)
      rwa [show n + 1 + j = n + (j + 1) by omega] at this
theorem putBs_get : ∀ (bs : List (List CV)) (n : Nat) (t : PT Blk) (b : Nat) (x : Blk), (putBs bs n t).get b = some x → (∃ l, n ≤ b ∧ bs[b - n]? = some l ∧ x = .cl (putC l 0 .lf)) ∨ t.get b = some x
  | [], _, _, _, _, h => .inr h
  | l :: r, n, t, b, x, h => by
    have e : putBs (l :: r) n t = putBs r (n + 1) (t.set (.cl (putC l 0 .lf)) n) := rfl
    rw [e] at h
    rcases putBs_get r (n + 1) _ b x h with ⟨m, h1, h2, h3⟩ | h1
    · refine .inl ⟨m, by omega, ?_, h3⟩
      rw [show b - n = (b - (n + 1)) + 1 by omega]
      simpa using h2
    · rcases set_get _ _ _ _ _ h1 with ⟨h1, h2⟩ | ⟨_, h2⟩
      · exact .inl ⟨l, by omega, by rw [h1, Nat.sub_self]; rfl, h2⟩
      · exact .inr h2
theorem notIn_ok {n : Nat} : ∀ {l : List Nat}, notIn n l = true → ∀ (j x : Nat), l[j]? = some x → x ≠ n
  | [], _, _, _, hj => by simp at hj
  | y :: r, h, j, x, hj => by
    unfold notIn at h
    rw [Bool.and_eq_true, Bool.not_eq_true'] at h
    cases j with
    | zero =>
      simp only [List.getElem?_cons_zero, Option.some.injEq] at hj
      subst hj
      exact fun e => beq_false h.1 e.symm
    | succ j => exact notIn_ok h.2 j x (by simpa using hj)
theorem apart_ok : ∀ {l : List Nat}, apart l = true → ∀ (i j x : Nat), l[i]? = some x → l[j]? = some x → i = j
  | [], _, _, _, _, hi, _ => by simp at hi
  | y :: r, h, i, j, x, hi, hj => by
    unfold apart at h
    rw [Bool.and_eq_true] at h
    cases i with
    | zero =>
      simp only [List.getElem?_cons_zero, Option.some.injEq] at hi
      cases j with
      | zero => rfl
      | succ j => exact absurd hi.symm (notIn_ok h.1 j x (by simpa using hj))
    | succ i =>
      cases j with
      | zero =>
        simp only [List.getElem?_cons_zero, Option.some.injEq] at hj
        exact absurd hj.symm (notIn_ok h.1 i x (by simpa using hi))
      | succ j => rw [apart_ok h.2 i j x (by simpa using hi) (by simpa using hj)]
theorem natAt_get (d : Nat) : ∀ (l : List Nat) (n : Nat), natAt d l n = (l[n]?).getD d
  | [], n => by simp [natAt]
  | x :: r, 0 => rfl
  | x :: r, n + 1 => by
    have e : natAt d (x :: r) (n + 1) = natAt d r n := rfl
    rw [e, natAt_get d r n]
    simp
/-- What is thinned and numbered anew is still borne by the machine. -/
theorem sameS_ok {F : Facts} {nt : Nat} {μ : Mu} {ρ : Nat → Int} {B : Nat} {w : World} {a : Act} {t : PT AV} {M : Mem} {gs : List Nat} {ts : List (Nat × AV)} {bs : List (List CV)} (hF : F.Sat ρ) (h : sameS F gs t M ts bs = true) (hT : TR nt μ ρ w a t) (hM : MR (fun _ => False) μ ρ B w M) :
    ∃ μ', TR nt μ' ρ w a (putTs ts) ∧ MR (fun _ => False) μ' ρ B w (memOf bs) := by
  unfold sameS at h
  simp only [Bool.and_eq_true] at h
  obtain ⟨⟨⟨h1, h2⟩, h3⟩, h4⟩ := h
  have h2 := beq_true h2
  have hout : ∀ b, gs.length ≤ b → μ (natAt M.nx gs b) = none := fun b hb => by
    rw [natAt_get, List.getElem?_eq_none hb]
    exact hM.fresh _ (Nat.le_refl _)
  refine ⟨μ.via (natAt M.nx gs), ⟨hT.size, fun j v hj => ?_⟩, ⟨fun b hb => hb.elim, fun b hb => hout b (by rw [h2]; exact hb), fun b x hb => ?_, fun b k s hb => hM.size _ k s hb, fun b x k s hb hk => ?_, fun b b' x y k s s' hb hb' hk hk' => ?_⟩⟩
  · obtain ⟨v', h7, h8⟩ := sameTs_ok h3 _ (putTs_get _ _ _ hj)
    obtain ⟨u, h5, h6⟩ := hT.tmp j _ h7
    exact ⟨u, h5, (asAV_ok hF h8 h6).via⟩
  · rcases putBs_get _ _ _ _ _ hb with ⟨l, _, h5, _⟩ | h5
    · exact (List.getElem?_eq_some_iff.1 h5).1
    · cases h5
  · rcases putBs_get _ _ _ _ _ hb with ⟨l, _, h5, rfl⟩ | h5
    · obtain ⟨c, h6, h7⟩ := sameBs_ok h4 b l (by simpa using h5)
      rw [Nat.zero_add] at h6
      obtain ⟨h8, cs, e, h9, h10⟩ := hM.blk _ _ k s h6 hk
      refine ⟨h8, cs, e, h9, fun j x hj => ?_⟩
      rcases putC_get _ _ _ _ _ hj with ⟨_, h11⟩ | ⟨_, h11⟩
      · obtain ⟨v', h12, h15⟩ := sameCs_ok h7 j x (by simpa using h11)
        rw [Nat.zero_add] at h12
        obtain ⟨u, h13, h14⟩ := h10 j _ h12
        exact ⟨u, h13, (asCV_ok hF h15 h14).via⟩
      · cases h11
    · cases h5
  · have get : ∀ b x, (memOf bs).bl.get b = some x → ∃ n, gs[b]? = some n ∧ natAt M.nx gs b = n ∧ ∃ y, M.bl.get n = some y := by
      intro b x hb
      rcases putBs_get _ _ _ _ _ hb with ⟨l, _, h5, _⟩ | h5
      · have h5 : bs[b]? = some l := by simpa using h5
        obtain ⟨c, h6, _⟩ := sameBs_ok h4 b l h5
        rw [Nat.zero_add] at h6
        have hlt : b < gs.length := by rw [h2]; exact (List.getElem?_eq_some_iff.1 h5).1
        refine ⟨gs[b], List.getElem?_eq_getElem hlt, ?_, .cl c, ?_⟩
        · rw [natAt_get, List.getElem?_eq_getElem hlt]; rfl
        · rw [natAt_get, List.getElem?_eq_getElem hlt] at h6
          exact h6
      · cases h5
    obtain ⟨n, g1, g2, y1, g3⟩ := get b x hb
    obtain ⟨n', g1', g2', y1', g3'⟩ := get b' y hb'
    have hk : μ n = some (k, s) := by rw [← g2]; exact hk
    have hk' : μ n' = some (k, s') := by rw [← g2']; exact hk'
    have := hM.inj n n' _ _ k s s' g3 g3' hk hk'
    subst this
    exact apart_ok h1 b b' n g1 g1'
end
end Go.Proofs.YtbmhamijoajnhaaGreat.E
