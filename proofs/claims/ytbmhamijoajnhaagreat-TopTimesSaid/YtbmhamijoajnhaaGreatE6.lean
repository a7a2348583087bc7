/- The operations on numbers, constants and types are as the model has them. Nothing of the program. -/
import Derived.Test.YtbmhamijoajnhaaGreatE5
import Derived.Laws.Strings
namespace Go.Proofs.YtbmhamijoajnhaaGreat.E
open Go Go.RowKit
section
variable {X : Nat → Prop} {P : Program} {F : Facts} {μ : Mu} {ρ : Nat → Int} {w : World}

theorem mapR_all {α β : Type} {f : α → Res β} {R : α → β → Prop} {l : List α} {m : List β} (h : mapR f l = .ok m) (hf : ∀ a b, f a = .ok b → R a b) : All2 R l m := (mapR_ok h).mono hf
theorem ofC_ok {v : Value} {x : CV} (h : ofC v = .ok x) : CR μ ρ w v x := by
  unfold ofC at h
  split at h <;> first | (cases h; done) | (cases h; rfl) | skip
  cases h; exact ⟨_, rfl, rfl⟩
theorem ofCs_ok {l : List Value} {m : List CV} (h : ofCs l = .ok m) : All2 (CR μ ρ w) l m := mapR_all h fun _ _ => ofC_ok
theorem ofV_ok {v : Value} {x : AV} (h : ofV v = .ok x) : AR μ ρ w v x := by
  unfold ofV at h
  split at h
  · obtain ⟨l, hl, h⟩ := bind_ok h
    cases h
    exact ⟨_, rfl, ofCs_ok hl⟩
  · obtain ⟨hl, h⟩ := guardR_ok h
    cases h
    rename_i vs
    have : vs.toList = [] := by simpa using hl
    exact ⟨vs, rfl, by rw [this]; trivial⟩
  · obtain ⟨l, hl, h⟩ := bind_ok h
    cases h
    exact ofC_ok hl
/-- The temporaries of a frame. -/
structure TR (nt : Nat) (μ : Mu) (ρ : Nat → Int) (w : World) (a : Act) (t : PT AV) : Prop where
  size : nt ≤ a.tmps.size
  tmp : ∀ j v, t.get j = some v → ∃ u, a.tmps[j]? = some u ∧ AR μ ρ w u v
theorem TR.mono {nt : Nat} {μ' : Mu} {w' : World} {a : Act} {t : PT AV} (h : TR nt μ ρ w a t) (hμ : μ.le μ') (hw : Ext w w') : TR nt μ' ρ w' a t :=
  ⟨h.size, fun j v hj => let ⟨u, h1, h2⟩ := h.tmp j v hj; ⟨u, h1, h2.mono hμ hw⟩⟩
theorem getD_some {a : Array Value} {j : Nat} {u d : Value} (h : a[j]? = some u) : a.getD j d = u := by
  rw [Array.getD_eq_getD_getElem?, h]; rfl
theorem evO_ok {nt : Nat} {a : Act} {t : PT AV} (h : TR nt μ ρ w a t) {x : Operand} {v : AV} (hx : evO t x = .ok v) : AR μ ρ w (a.eval x) v := by
  cases x with
  | tmp n =>
    obtain ⟨u, h1, h2⟩ := h.tmp n v (ofOpt_ok hx)
    show AR μ ρ w (a.tmps.getD n undef) v
    rw [getD_some h1]; exact h2
  | const c => exact ofV_ok hx
  | func f => cases hx; exact ⟨#[], rfl, trivial⟩
  | global g => cases hx
theorem TR.put {nt : Nat} {a : Act} {t t' : PT AV} (h : TR nt μ ρ w a t) {dst : Option Nat} {u : Value} {v : AV} (hv : AR μ ρ w u v) (hp : putT nt t dst v = .ok t') : TR nt μ ρ w (a.put dst u) t' := by
  cases dst with
  | none => cases hp; exact h
  | some d =>
    obtain ⟨hd, hp⟩ := guardR_ok hp
    cases hp
    have hlt : d < a.tmps.size := Nat.lt_of_lt_of_le (ble_true hd) h.size
    refine ⟨by show nt ≤ (a.tmps.setIfInBounds d u).size; rw [Array.size_setIfInBounds]; exact h.size, fun j y hj => ?_⟩
    show ∃ u', (a.tmps.setIfInBounds d u)[j]? = some u' ∧ _
    rcases set_get _ _ _ _ _ hj with ⟨rfl, rfl⟩ | ⟨hne, h2⟩
    · exact ⟨u, by rw [Array.getElem?_setIfInBounds_self_of_lt hlt], hv⟩
    · obtain ⟨u', h3, h4⟩ := h.tmp j y h2
      exact ⟨u', by rw [Array.getElem?_setIfInBounds_ne (Ne.symm hne)]; exact h3, h4⟩
theorem tyU_ok {t : Nat} {d : TypeDesc} (h : tyU P t = .ok d) : P.underlying t = some d := ofOpt_ok h
theorem tyI_ok {t : Nat} {i : TypeInfo} (h : tyI P t = .ok i) : P.info? t = some i := ofOpt_ok h
theorem zeros_ok {t : Nat} {z : List CV} (h : zeros P t = .ok z) (μ : Mu) (ρ : Nat → Int) (w : World) : ∃ i zv, P.info? t = some i ∧ i.zero = some zv ∧ All2 (CR μ ρ w) zv.cells.toList z := by
  unfold zeros at h
  obtain ⟨i, hi, h⟩ := bind_ok h
  obtain ⟨zv, hz, h⟩ := bind_ok h
  exact ⟨i, zv, tyI_ok hi, ofOpt_ok hz, ofCs_ok h⟩
theorem run_isAgg {t : Nat} {d : TypeDesc} (h : P.underlying t = some d) (w : World) : (isAgg t).run P w = .ok (aggD d) w := by
  unfold isAgg
  simp only [Sem.run_bind, run_underlying h, Result.andThen_ok]
  cases d <;> rfl
theorem run_typeInfo {t : Nat} {i : TypeInfo} (h : P.info? t = some i) (w : World) : (typeInfo t).run P w = .ok i w := by
  unfold typeInfo
  simp [h]
theorem run_sizeOf {t : Nat} {i : TypeInfo} (h : P.info? t = some i) (w : World) : (sizeOf t).run P w = .ok i.size w := by
  unfold sizeOf
  simp [run_typeInfo h]
theorem run_zeroValue {t : Nat} {i : TypeInfo} {z : Value} (h : P.info? t = some i) (hz : i.zero = some z) (w : World) : (zeroValue t).run P w = .ok z w := by
  unfold zeroValue
  simp [run_typeInfo h, hz]

/- Numbers. -/
theorem decK_ok {a b : IntKind} (h : decK a b = true) : a = b := of_decide_eq_true h
theorem lin_ok {x : CV} {e : Lin} {k : IntKind} {u : Value} (h : CR μ ρ w u x) (hl : linOf x = .ok e) (hk : kindOf x = .ok k) : u = .int k (e.val ρ) := by
  cases x <;> first | (cases hl; done) | skip
  · cases hl; cases hk; exact h
  · cases hl; cases hk; exact h
theorem kind_of {x : CV} {e : Lin} (hl : linOf x = .ok e) : ∃ k, kindOf x = .ok k := by
  cases x <;> first | (cases hl; done) | exact ⟨_, rfl⟩
theorem inKL_ok (hF : F.Sat ρ) {k : IntKind} {e : Lin} (h : inKL F k e = true) : k.wrap (e.val ρ) = e.val ρ := by
  unfold inKL at h
  cases h1 : sure F (e.off (ineg (kmin k))) with
  | false => rw [h1] at h; cases h
  | true =>
    rw [h1] at h
    have h2 := sure_ok hF h1
    have h3 := sure_ok hF (show sure F (e.neg.off (kmax k)) = true from h)
    rw [off_val, ineg_eq] at h2
    rw [off_val, neg_val] at h3
    exact wrap_of_in ⟨by omega, by omega⟩
theorem symR_ok (hF : F.Sat ρ) {k : IntKind} {e : Lin} {v : CV} (h : symR F k e = .ok v) : CR μ ρ w (.int k (k.wrap (e.val ρ))) v := by
  obtain ⟨h1, h2⟩ := guardR_ok h
  cases h2
  show _ = _
  rw [inKL_ok hF h1]
theorem notB_eq (b : Bool) : notB b = !b := by cases b <;> rfl
theorem beqB_eq (a b : Bool) : beqB a b = (a == b) := by cases a <;> cases b <;> rfl
theorem bR_ok {b : Bool} {v : CV} (h : bR b = .ok v) : v = .b b := by cases h; rfl
theorem geS_ok (hF : F.Sat ρ) {x y : CV} {n : Int} {b : Bool} (h : geS F x y n = .ok b) {a c : Lin} (ha : linOf x = .ok a) (hc : linOf y = .ok c) : b = decide (0 ≤ a.val ρ - c.val ρ + n) := by
  unfold geS at h
  rw [bind_of ha, bind_of hc] at h
  have := ge0_ok hF h
  rw [off_val, sub_val] at this
  exact this
theorem geS_lin {x y : CV} {n : Int} {b : Bool} (h : geS F x y n = .ok b) : ∃ a c, linOf x = .ok a ∧ linOf y = .ok c := by
  unfold geS at h
  obtain ⟨a, ha, h⟩ := bind_ok h
  obtain ⟨c, hc, h⟩ := bind_ok h
  exact ⟨a, c, ha, hc⟩
theorem eqS_ok (hF : F.Sat ρ) {x y : CV} {b : Bool} (h : eqS F x y = .ok b) {a c : Lin} (ha : linOf x = .ok a) (hc : linOf y = .ok c) : b = (a.val ρ == c.val ρ) := by
  unfold eqS at h
  obtain ⟨b1, h1, h⟩ := bind_ok h
  have e1 := geS_ok hF h1 ha hc
  cases b1 with
  | false =>
    cases h
    have := of_decide_eq_false e1.symm
    symm
    rw [beq_eq_false_iff_ne]
    intro e; rw [e] at this; simp at this
  | true =>
    have e2 := geS_ok hF (show geS F y x (.ofNat 0) = .ok b from h) hc ha
    have := of_decide_eq_true e1.symm
    rw [e2]
    simp only [Int.ofNat_eq_natCast] at *
    cases hd : (a.val ρ == c.val ρ) with
    | true => have := eq_of_beq hd; exact decide_eq_true (by omega)
    | false => have := ne_of_beq_false hd; exact decide_eq_false (by omega)
theorem symOp_ok (hF : F.Sat ρ) {op : BinOp} {x y v : CV} (h : symOp F op x y = .ok v) {ux uy : Value} {k : IntKind} (hx : CR μ ρ w ux x) (hy : CR μ ρ w uy y) (hkx : kindOf x = .ok k) (hky : kindOf y = .ok k) (t : Nat) :
    ∃ u, (binOp op t ux uy).run P w = .ok u w ∧ CR μ ρ w u v := by
  have key : ∃ a c, linOf x = .ok a ∧ linOf y = .ok c := by
    cases op <;> first | (cases h; done) | skip
    · obtain ⟨_, _, h⟩ := bind_ok h; obtain ⟨a, ha, h⟩ := bind_ok h; obtain ⟨c, hc, h⟩ := bind_ok h; exact ⟨a, c, ha, hc⟩
    · obtain ⟨_, _, h⟩ := bind_ok h; obtain ⟨a, ha, h⟩ := bind_ok h; obtain ⟨c, hc, h⟩ := bind_ok h; exact ⟨a, c, ha, hc⟩
    · obtain ⟨_, h, _⟩ := bind_ok h; obtain ⟨_, h, _⟩ := bind_ok h; exact geS_lin h
    · obtain ⟨_, h, _⟩ := bind_ok h; obtain ⟨_, h, _⟩ := bind_ok h; exact geS_lin h
    · obtain ⟨_, h, _⟩ := bind_ok h; obtain ⟨a, c, h1, h2⟩ := geS_lin h; exact ⟨c, a, h2, h1⟩
    · obtain ⟨_, h, _⟩ := bind_ok h; obtain ⟨a, c, h1, h2⟩ := geS_lin h; exact ⟨c, a, h2, h1⟩
    · obtain ⟨_, h, _⟩ := bind_ok h; exact geS_lin h
    · obtain ⟨_, h, _⟩ := bind_ok h; exact geS_lin h
  obtain ⟨a, c, ha, hc⟩ := key
  have ex := lin_ok hx ha hkx
  have ey := lin_ok hy hc hky
  subst ex
  subst ey
  cases op <;> first | (cases h; done) | skip
  · obtain ⟨k', hk', h⟩ := bind_ok h; rw [hkx] at hk'; cases hk'
    rw [bind_of ha, bind_of hc] at h
    exact ⟨_, by simp [binOp, Op.intArith]; rfl, by have := symR_ok (μ := μ) (w := w) hF h; rwa [add_val] at this⟩
  · obtain ⟨k', hk', h⟩ := bind_ok h; rw [hkx] at hk'; cases hk'
    rw [bind_of ha, bind_of hc] at h
    exact ⟨_, by simp [binOp, Op.intArith]; rfl, by have := symR_ok (μ := μ) (w := w) hF h; rwa [sub_val] at this⟩
  · obtain ⟨b, hb, h⟩ := bind_ok h
    have e := eqS_ok hF hb ha hc
    cases bR_ok h
    exact ⟨_, by simp [binOp, Op.intCmp]; rfl, by subst e; rfl⟩
  · obtain ⟨b, hb, h⟩ := bind_ok h
    have e := eqS_ok hF hb ha hc
    cases bR_ok h
    exact ⟨_, by simp [binOp, Op.intCmp]; rfl, by subst e; rw [notB_eq]; rfl⟩
  · obtain ⟨b, hb, h⟩ := bind_ok h
    have e := geS_ok hF hb hc ha
    cases bR_ok h
    refine ⟨.bool b, ?_, rfl⟩
    simp [binOp, Op.intCmp]
    rw [e]; congr 1; simp; omega
  · obtain ⟨b, hb, h⟩ := bind_ok h
    have e := geS_ok hF hb hc ha
    cases bR_ok h
    refine ⟨.bool b, ?_, rfl⟩
    simp [binOp, Op.intCmp]
    rw [e]; congr 1; simp
  · obtain ⟨b, hb, h⟩ := bind_ok h
    have e := geS_ok hF hb ha hc
    cases bR_ok h
    refine ⟨.bool b, ?_, rfl⟩
    simp [binOp, Op.intCmp]
    rw [e]; congr 1; simp; omega
  · obtain ⟨b, hb, h⟩ := bind_ok h
    have e := geS_ok hF hb ha hc
    cases bR_ok h
    refine ⟨.bool b, ?_, rfl⟩
    simp [binOp, Op.intCmp]
    rw [e]; congr 1; simp
theorem natOf_ok {n : Int} {m : Nat} (h : natOf n = .ok m) : n = (m : Int) := by
  cases n with
  | ofNat x => cases h; rfl
  | negSucc x => cases h
theorem kmax_lt (k : IntKind) : kmax k < (2 : Int) ^ k.bits := by cases k <;> decide
theorem kmin_le (k : IntKind) : kmin k ≤ 0 := by cases k <;> decide
theorem fitN_ok {k : IntKind} {n : Nat} {v : CV} (h : fitN k n = .ok v) : v = .i k (n : Int) ∧ k.wrap (n : Int) = (n : Int) := by
  obtain ⟨h1, h2⟩ := guardR_ok h
  cases h2
  rw [ile_eq] at h1
  have h3 := of_decide_eq_true h1
  have := kmin_le k
  simp only [Int.ofNat_eq_natCast] at h3
  exact ⟨rfl, wrap_of_in ⟨by omega, h3⟩⟩
theorem bits_nat {k : IntKind} {x : Nat} (h : ile (x : Int) (kmax k) = true) : x % 2 ^ k.bits = x := by
  rw [ile_eq] at h
  have h1 := of_decide_eq_true h
  have h2 := kmax_lt k
  have h3 : x < 2 ^ k.bits := by
    have e : ((2 ^ k.bits : Nat) : Int) = (2 : Int) ^ k.bits := by simp
    omega
  exact Nat.mod_eq_of_lt h3
theorem lss_not (a b : Int) : decide (a < b) = !decide (b ≤ a) := by
  by_cases h : a < b
  · rw [decide_eq_true h, decide_eq_false (by omega)]; rfl
  · rw [decide_eq_false h, decide_eq_true (by omega)]; rfl
theorem concOp_ok {op : BinOp} {k : IntKind} {a b : Int} {v : CV} (h : concOp op k a b = .ok v) (t : Nat) :
    ∃ u, (binOp op t (.int k a) (.int k b)).run P w = .ok u w ∧ CR μ ρ w u v := by
  cases op <;> first | (cases h; done) | skip
  case add => cases h; exact ⟨_, by simp [binOp, Op.intArith]; rfl, by show _ = _; rw [wrapK_eq, iadd_eq]⟩
  case sub => cases h; exact ⟨_, by simp [binOp, Op.intArith]; rfl, by show _ = _; rw [wrapK_eq, iadd_eq, ineg_eq]; rfl⟩
  case mul => cases h; exact ⟨_, by simp [binOp, Op.intArith]; rfl, by show _ = _; rw [wrapK_eq, imul_eq]⟩
  case quo =>
    obtain ⟨x, hx, h⟩ := bind_ok h
    obtain ⟨y, hy, h⟩ := bind_ok h
    obtain ⟨h1, h⟩ := guardR_ok h
    have h1 := ble_true h1
    rw [natOf_ok hx, natOf_ok hy]
    obtain ⟨rfl, h3⟩ := fitN_ok h
    refine ⟨_, by simp [binOp, Op.intDiv, show ¬ (y = 0) by omega]; rfl, ?_⟩
    show _ = _
    rw [← h3]
    rfl
  case rem =>
    obtain ⟨x, hx, h⟩ := bind_ok h
    obtain ⟨y, hy, h⟩ := bind_ok h
    obtain ⟨h1, h⟩ := guardR_ok h
    have h1 := ble_true h1
    rw [natOf_ok hx, natOf_ok hy]
    cases h
    exact ⟨_, by simp [binOp, Op.intDiv, show ¬ (y = 0) by omega]; rfl, rfl⟩
  case and =>
    obtain ⟨x, hx, g1⟩ := bind_ok h
    obtain ⟨y, hy, g2⟩ := bind_ok g1
    obtain ⟨h1, g3⟩ := guardR_ok g2
    obtain ⟨h2, g4⟩ := guardR_ok g3
    clear g1 g2 g3 h
    have ex := natOf_ok hx
    have ey := natOf_ok hy
    subst ex
    subst ey
    obtain ⟨rfl, h3⟩ := fitN_ok g4
    refine ⟨_, by simp [binOp, Op.intBits]; rfl, ?_⟩
    show _ = _
    rw [← h3, bits_nat h1, bits_nat h2]
    rfl
  case or =>
    obtain ⟨x, hx, g1⟩ := bind_ok h
    obtain ⟨y, hy, g2⟩ := bind_ok g1
    obtain ⟨h1, g3⟩ := guardR_ok g2
    obtain ⟨h2, g4⟩ := guardR_ok g3
    clear g1 g2 g3 h
    have ex := natOf_ok hx
    have ey := natOf_ok hy
    subst ex
    subst ey
    obtain ⟨rfl, h3⟩ := fitN_ok g4
    refine ⟨_, by simp [binOp, Op.intBits]; rfl, ?_⟩
    show _ = _
    rw [← h3, bits_nat h1, bits_nat h2]
    rfl
  case eql => cases bR_ok h; exact ⟨_, by simp [binOp, Op.intCmp]; rfl, by show _ = _; rw [ieq_eq]⟩
  case neq => cases bR_ok h; exact ⟨_, by simp [binOp, Op.intCmp]; rfl, by show _ = _; rw [notB_eq, ieq_eq]; rfl⟩
  case lss => cases bR_ok h; exact ⟨_, by simp only [binOp, Op.intCmp, ne_eq, not_true_eq_false, if_false]; rfl, by show _ = _; rw [notB_eq, ile_eq, ← lss_not]⟩
  case leq => cases bR_ok h; exact ⟨_, by simp [binOp, Op.intCmp]; rfl, by show _ = _; rw [ile_eq]⟩
  case gtr => cases bR_ok h; exact ⟨_, by simp only [binOp, Op.intCmp, ne_eq, not_true_eq_false, if_false]; rfl, by show _ = _; rw [notB_eq, ile_eq, ← lss_not]⟩
  case geq => cases bR_ok h; exact ⟨_, by simp [binOp, Op.intCmp]; rfl, by show _ = _; rw [ile_eq]⟩
theorem shrI_eq (a : Int) (n : Nat) : shrI a n = a.fdiv (2 ^ n) := by
  have hp : (0 : Int) < 2 ^ n := Int.pow_pos (by decide)
  have e : ((2 ^ n : Nat) : Int) = (2 : Int) ^ n := by simp
  rw [Int.fdiv_eq_ediv_of_nonneg _ (Int.le_of_lt hp)]
  cases a with
  | ofNat x => show Int.ofNat (x / 2 ^ n) = _; rw [← e]; rfl
  | negSucc x => show Int.negSucc (x / 2 ^ n) = _; rw [← e, Int.negSucc_ediv _ (by rw [e]; exact hp)]; simp only [Int.negSucc_eq]; rfl
theorem bitsK_eq (k : IntKind) : bitsK k = k.bits := by cases k <;> rfl
theorem shOp_ok {op : BinOp} {k k' : IntKind} {a b : Int} {v : CV} (h : shOp op k a b = .ok v) (t : Nat) :
    ∃ u, (binOp op t (.int k a) (.int k' b)).run P w = .ok u w ∧ CR μ ρ w u v := by
  obtain ⟨n, hn, g1⟩ := bind_ok h
  obtain ⟨h0, g2⟩ := guardR_ok g1
  have h1 := ble_true h0
  clear g1 h h0
  rw [bitsK_eq] at h1
  have hb := natOf_ok hn
  subst hb
  have hmin : min n k.bits = n := Nat.min_eq_left h1
  cases op <;> first | (cases g2; done) | skip
  case shl =>
    cases g2
    refine ⟨_, by simp [binOp, Op.shift, hmin]; rfl, ?_⟩
    show _ = _
    rw [wrapK_eq, imul_eq]
    simp
  case shr =>
    cases g2
    refine ⟨_, by simp [binOp, Op.shift, hmin]; rfl, ?_⟩
    show _ = _
    rw [shrI_eq]
theorem run_eqGuard_int (op : BinOp) (t : Nat) (x y : Operand) (k : IntKind) (a : Int) (u : Value) : (eqGuard op t x y (.int k a) u).run P w = .ok () w := by
  unfold eqGuard
  cases op <;> simp <;> rfl
theorem intOp_ok (hF : F.Sat ρ) {op : BinOp} {k : IntKind} {a : Int} {y v : CV} (h : intOp F op k a y = .ok v) {uy : Value} (hy : CR μ ρ w uy y) (t : Nat) :
    ∃ u, (binOp op t (.int k a) uy).run P w = .ok u w ∧ CR μ ρ w u v := by
  cases y <;> first | (cases h; done) | skip
  case i k' b =>
    have e : uy = .int k' b := hy
    subst e
    cases hs : isSh op with
    | true =>
      have h' : shOp op k a b = .ok v := by have := h; unfold intOp at this; rw [hs] at this; exact this
      exact shOp_ok h' t
    | false =>
      have h' : guardR 43 (decK k k') (concOp op k a b) = .ok v := by have := h; unfold intOp at this; rw [hs] at this; exact this
      obtain ⟨h1, h2⟩ := guardR_ok h'
      have := decK_ok h1
      subst this
      exact concOp_ok h2 t
  case x k' e =>
    obtain ⟨h1, h2⟩ := guardR_ok h
    have := decK_ok h1
    subst this
    exact symOp_ok hF h2 rfl hy rfl rfl t
theorem symOpK_ok (hF : F.Sat ρ) {op : BinOp} {k : IntKind} {e : Lin} {y v : CV} (h : symOpK F op k (.x k e) y = .ok v) {uy : Value} (hy : CR μ ρ w uy y) (t : Nat) :
    ∃ u, (binOp op t (.int k (e.val ρ)) uy).run P w = .ok u w ∧ CR μ ρ w u v := by
  cases y <;> first | (cases h; done) | skip
  case i k' b =>
    obtain ⟨h1, h2⟩ := guardR_ok h
    have := decK_ok h1
    subst this
    exact symOp_ok hF h2 (rfl : CR μ ρ w _ (.x k e)) hy rfl rfl t
  case x k' e' =>
    obtain ⟨h1, h2⟩ := guardR_ok h
    have := decK_ok h1
    subst this
    exact symOp_ok hF h2 (rfl : CR μ ρ w _ (.x k e)) hy rfl rfl t
/-- A test for being equal, of what the test of the model answers. -/
theorem eqb_ok {op : BinOp} {b : Bool} {v : CV} (h : eqb op b = .ok v) {t : Nat} {ux uy : Value}
    (h1 : (binOp .eql t ux uy) = (do pure (.bool (← Op.equal t ux uy)))) (h2 : (binOp .neq t ux uy) = (do pure (.bool (!(← Op.equal t ux uy)))))
    (hr : (Op.equal t ux uy).run P w = .ok b w) : ∃ u, (binOp op t ux uy).run P w = .ok u w ∧ CR μ ρ w u v := by
  cases op <;> first | (cases h; done) | skip
  case eql => cases bR_ok h; exact ⟨.bool b, by rw [h1]; simp [hr], rfl⟩
  case neq => cases bR_ok h; exact ⟨.bool (!b), by rw [h2]; simp [hr], by rw [notB_eq]; rfl⟩
theorem eqb_op {op : BinOp} {b : Bool} {v : CV} (h : eqb op b = .ok v) : op = .eql ∨ op = .neq := by
  cases op <;> first | (cases h; done) | exact .inl rfl | exact .inr rfl
theorem beqL_eq : ∀ (l m : List Nat), beqL l m = true ↔ l = m
  | [], [] => by simp [beqL]
  | [], _ :: _ => by simp [beqL]
  | _ :: _, [] => by simp [beqL]
  | a :: l, b :: m => by
    have e : beqL (a :: l) (b :: m) = Bool.rec (motive := fun _ => Bool) false (beqL l m) (Nat.beq a b) := rfl
    rw [e]
    cases h : Nat.beq a b with
    | true =>
      have := beq_true h
      subst this
      show beqL l m = true ↔ _
      rw [beqL_eq l m]; simp
    | false =>
      have := beq_false h
      show false = true ↔ _
      simp [this]
theorem natL_inj : ∀ {a b : List UInt8}, natL a = natL b → a = b
  | [], [], _ => rfl
  | [], _ :: _, h => by simp [natL] at h
  | _ :: _, [], h => by simp [natL] at h
  | x :: a, y :: b, h => by
    simp only [natL, List.map_cons, List.cons.injEq] at h
    rw [natL_inj (a := a) (b := b) h.2, UInt8.toNat_inj.1 h.1]
theorem maxDepth_succ : ∃ d, Op.maxDepth = d + 1 := ⟨Op.maxDepth - 1, by decide⟩
theorem equal_bool {t : Nat} {a b : Bool} (h : P.underlying t = some .bool) : (Op.equal t (.bool a) (.bool b)).run P w = .ok (a == b) w := by
  unfold Op.equal
  obtain ⟨d, hd⟩ := maxDepth_succ
  rw [hd]
  simp [Op.equalIn, run_underlying h]
theorem equal_ptr_l {t e : Nat} {b : Option Addr} (h : P.underlying t = some (.pointer e)) : (Op.equal t (.pointer none) (.pointer b)).run P w = .ok b.isNone w := by
  unfold Op.equal
  obtain ⟨d, hd⟩ := maxDepth_succ
  rw [hd]
  simp [Op.equalIn, run_underlying h]
theorem equal_ptr_r {t e : Nat} {a : Addr} (h : P.underlying t = some (.pointer e)) : (Op.equal t (.pointer (some a)) (.pointer none)).run P w = .ok false w := by
  unfold Op.equal
  obtain ⟨d, hd⟩ := maxDepth_succ
  rw [hd]
  simp [Op.equalIn, run_underlying h]
theorem equal_sl_l {t e n c : Nat} {b : Option Addr} {m c' : Nat} (h : P.underlying t = some (.slice e)) : (Op.equal t (.slice none n c) (.slice b m c')).run P w = .ok b.isNone w := by
  unfold Op.equal
  obtain ⟨d, hd⟩ := maxDepth_succ
  rw [hd]
  simp [Op.equalIn, run_underlying h]
theorem equal_sl_r {t e n c : Nat} {a : Addr} {m c' : Nat} (h : P.underlying t = some (.slice e)) : (Op.equal t (.slice (some a) n c) (.slice none m c')).run P w = .ok false w := by
  unfold Op.equal
  obtain ⟨d, hd⟩ := maxDepth_succ
  rw [hd]
  simp [Op.equalIn, run_underlying h]
theorem ptrTy_ok {d : TypeDesc} (h : ptrTy d = true) : ∃ e, d = .pointer e := by cases d <;> first | (cases h; done) | exact ⟨_, rfl⟩
theorem slTy_ok {d : TypeDesc} (h : slTy d = true) : ∃ e, d = .slice e := by cases d <;> first | (cases h; done) | exact ⟨_, rfl⟩
theorem boolTy_ok {d : TypeDesc} (h : boolTy d = true) : d = .bool := by cases d <;> first | (cases h; done) | rfl
theorem nilP_ok {x : CV} {b : Bool} {u : Value} (h : CR μ ρ w u x) (hn : nilP x = .ok b) : ∃ a : Option Addr, u = .pointer a ∧ b = a.isNone := by
  cases x <;> first | (cases hn; done) | skip
  · cases hn; exact ⟨none, h, rfl⟩
  · cases hn; obtain ⟨k, s, _, rfl⟩ := h; exact ⟨some _, rfl, rfl⟩
theorem nilS_ok {x : CV} {b : Bool} {u : Value} (h : CR μ ρ w u x) (hn : nilS x = .ok b) : ∃ (a : Option Addr) (n c : Nat), u = .slice a n c ∧ b = a.isNone := by
  cases x <;> first | (cases hn; done) | skip
  · cases hn; exact ⟨none, 0, 0, h, rfl⟩
  · cases hn; obtain ⟨k, s, c, _, rfl, _⟩ := h; exact ⟨some _, _, _, rfl, rfl⟩
  · cases hn; obtain ⟨a, c, rfl⟩ := h; exact ⟨some _, _, _, rfl, rfl⟩
/-- An operation of two. -/
theorem binC_ok (hF : F.Sat ρ) {op : BinOp} {t : Nat} {x y v : CV} (h : binC P F op t x y = .ok v) {ux uy : Value} (hx : CR μ ρ w ux x) (hy : CR μ ρ w uy y) (ox oy : Operand) :
    ∃ u, (do eqGuard op t ox oy ux uy; binOp op t ux uy : Sem Value).run P w = .ok u w ∧ CR μ ρ w u v := by
  have guard : ∀ u, (eqGuard op t ox oy ux uy).run P w = .ok () w → (binOp op t ux uy).run P w = .ok u w → (do eqGuard op t ox oy ux uy; binOp op t ux uy : Sem Value).run P w = .ok u w := by
    intro u h1 h2
    simp [h1, h2]
  have fin : (eqGuard op t ox oy ux uy).run P w = .ok () w → (∃ u, (binOp op t ux uy).run P w = .ok u w ∧ CR μ ρ w u v) → ∃ u, (do eqGuard op t ox oy ux uy; binOp op t ux uy : Sem Value).run P w = .ok u w ∧ CR μ ρ w u v :=
    fun h1 ⟨u, h2, h3⟩ => ⟨u, guard u h1 h2, h3⟩
  cases x <;> first | (cases h; done) | skip
  case i k a =>
    have e : ux = .int k a := hx
    subst e
    exact fin (run_eqGuard_int ..) (intOp_ok hF h hy t)
  case x k e =>
    have e' : ux = .int k (e.val ρ) := hx
    subst e'
    exact fin (run_eqGuard_int ..) (symOpK_ok hF h hy t)
  case b a =>
    have e : ux = .bool a := hx
    subst e
    obtain ⟨b, hb, g1⟩ := bind_ok h
    obtain ⟨d, hd, g2⟩ := bind_ok g1
    obtain ⟨h1, g⟩ := guardR_ok g2
    clear g1 g2 h
    cases y <;> first | (cases hb; done) | skip
    cases hb
    have e : uy = .bool b := hy
    subst e
    have hd := tyU_ok hd
    rw [boolTy_ok h1] at hd
    rw [beqB_eq] at g
    refine fin (by rcases eqb_op g with rfl | rfl <;> (unfold eqGuard; simp)) (eqb_ok g rfl rfl (equal_bool hd))
  case str a =>
    obtain ⟨s, rfl, hs⟩ := hx
    cases y <;> first | (cases h; done) | skip
    rename_i b
    obtain ⟨s', rfl, hs'⟩ := hy
    have e : (s.toList == s'.toList) = beqL a b := by
      have e1 : s.toList = s.data.toList := ByteArray.toList_eq s
      have e2 : s'.toList = s'.data.toList := ByteArray.toList_eq s'
      rw [e1, e2, Bool.eq_iff_iff, beqL_eq, ← hs, ← hs', beq_iff_eq]
      exact ⟨fun h => by rw [h], natL_inj⟩
    refine fin ?_ ?_
    · rcases eqb_op h with rfl | rfl <;> (unfold eqGuard; simp)
    · rcases eqb_op h with rfl | rfl
      · cases bR_ok h; exact ⟨.bool (beqL a b), by simp only [binOp, Op.stringOp, e]; rfl, rfl⟩
      · cases bR_ok h; exact ⟨.bool (!(beqL a b)), by simp only [binOp, Op.stringOp, e]; rfl, by rw [notB_eq]; rfl⟩
  case z =>
    have e : ux = .pointer none := hx
    subst e
    obtain ⟨b, hb, h⟩ := bind_ok h
    obtain ⟨d, hd, h⟩ := bind_ok h
    obtain ⟨h1, h⟩ := guardR_ok h
    obtain ⟨a', rfl, rfl⟩ := nilP_ok hy hb
    have hd := tyU_ok hd
    obtain ⟨e', he'⟩ := ptrTy_ok h1
    rw [he'] at hd
    refine fin (by rcases eqb_op h with rfl | rfl <;> (unfold eqGuard; simp)) (eqb_ok h (by cases a' <;> rfl) (by cases a' <;> rfl) (equal_ptr_l hd))
  case p b0 o0 =>
    obtain ⟨k, s, _, rfl⟩ := hx
    obtain ⟨b, hb, h⟩ := bind_ok h
    obtain ⟨h0, h⟩ := guardR_ok h
    obtain ⟨d, hd, h⟩ := bind_ok h
    obtain ⟨h1, h⟩ := guardR_ok h
    obtain ⟨a', rfl, h2⟩ := nilP_ok hy hb
    have : a' = none := by cases a' with | none => rfl | some _ => rw [h0] at h2; cases h2
    subst this
    have hd := tyU_ok hd
    obtain ⟨e', he'⟩ := ptrTy_ok h1
    rw [he'] at hd
    refine fin (by rcases eqb_op h with rfl | rfl <;> (unfold eqGuard; simp)) (eqb_ok h rfl rfl (equal_ptr_r hd))
  case sz =>
    have e : ux = .slice none 0 0 := hx
    subst e
    obtain ⟨b, hb, h⟩ := bind_ok h
    obtain ⟨d, hd, h⟩ := bind_ok h
    obtain ⟨h1, h⟩ := guardR_ok h
    obtain ⟨a', n, c, rfl, rfl⟩ := nilS_ok hy hb
    have hd := tyU_ok hd
    obtain ⟨e', he'⟩ := slTy_ok h1
    rw [he'] at hd
    refine fin (by rcases eqb_op h with rfl | rfl <;> (unfold eqGuard; simp)) (eqb_ok h rfl rfl (equal_sl_l hd))
  case s b0 o0 len cap ex sz =>
    obtain ⟨k, s, c, _, rfl, _⟩ := hx
    obtain ⟨b, hb, h⟩ := bind_ok h
    obtain ⟨h0, h⟩ := guardR_ok h
    obtain ⟨d, hd, h⟩ := bind_ok h
    obtain ⟨h1, h⟩ := guardR_ok h
    obtain ⟨a', n, c', rfl, h2⟩ := nilS_ok hy hb
    have : a' = none := by cases a' with | none => rfl | some _ => rw [h0] at h2; cases h2
    subst this
    have hd := tyU_ok hd
    obtain ⟨e', he'⟩ := slTy_ok h1
    rw [he'] at hd
    refine fin (by rcases eqb_op h with rfl | rfl <;> (unfold eqGuard; simp)) (eqb_ok h rfl rfl (equal_sl_r hd))
  case se =>
    obtain ⟨a0, c, rfl⟩ := hx
    obtain ⟨b, hb, h⟩ := bind_ok h
    obtain ⟨h0, h⟩ := guardR_ok h
    obtain ⟨d, hd, h⟩ := bind_ok h
    obtain ⟨h1, h⟩ := guardR_ok h
    obtain ⟨a', n, c', rfl, h2⟩ := nilS_ok hy hb
    have : a' = none := by cases a' with | none => rfl | some _ => rw [h0] at h2; cases h2
    subst this
    have hd := tyU_ok hd
    obtain ⟨e', he'⟩ := slTy_ok h1
    rw [he'] at hd
    refine fin (by rcases eqb_op h with rfl | rfl <;> (unfold eqGuard; simp)) (eqb_ok h rfl rfl (equal_sl_r hd))
theorem unS_ok (hF : F.Sat ρ) {op : UnOp} {x v : CV} (h : unS F op x = .ok v) {ux : Value} (hx : CR μ ρ w ux x) : ∃ u, (Op.unary op ux).run P w = .ok u w ∧ CR μ ρ w u v := by
  cases op <;> cases x <;> first | (cases h; done) | skip
  · cases h
    have e : ux = .int _ _ := hx
    subst e
    exact ⟨_, by simp [Op.unary, Op.intArith]; rfl, by show _ = _; rw [wrapK_eq, ineg_eq]⟩
  · have e : ux = .int _ _ := hx
    subst e
    refine ⟨_, by simp [Op.unary, Op.intArith]; rfl, ?_⟩
    have := symR_ok (μ := μ) (w := w) hF h
    rwa [neg_val] at this
  · cases h
    have e : ux = .bool _ := hx
    subst e
    exact ⟨_, by simp [Op.unary]; rfl, by show _ = _; rw [notB_eq]⟩
theorem convI_ok (hF : F.Sat ρ) {k : IntKind} {x v : CV} (h : convI F k x = .ok v) {ux : Value} (hx : CR μ ρ w ux x) : ∃ k' n, ux = .int k' n ∧ CR μ ρ w (.int k (k.wrap n)) v := by
  cases x <;> first | (cases h; done) | skip
  · cases h
    exact ⟨_, _, hx, by show _ = _; rw [wrapK_eq]⟩
  · exact ⟨_, _, hx, symR_ok hF h⟩
end
end Go.Proofs.YtbmhamijoajnhaaGreat.E
