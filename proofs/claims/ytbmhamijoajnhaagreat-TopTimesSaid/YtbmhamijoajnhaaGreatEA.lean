/- copy, clear, maps, len, max and min are as the model has them; each operation but calls of functions. Nothing of the program. -/
import Derived.Test.YtbmhamijoajnhaaGreatE9
namespace Go.Proofs.YtbmhamijoajnhaaGreat.E
open Go Go.RowKit
section
variable {X : Nat → Prop} {P : Program} {F : Facts} {μ : Mu} {ρ : Nat → Int} {B : Nat} {w : World} {M : Mem}

theorem lenC_ok {x : CV} {n : Nat} (h : lenC x = .ok n) {u : Value} (hx : CR μ ρ w u x) : ∃ a c, u = .slice a n c := by
  cases x with
  | sz => cases h; exact ⟨none, 0, hx⟩
  | se => cases h; obtain ⟨a, c, rfl⟩ := hx; exact ⟨some a, c, rfl⟩
  | s b o len cap ex sz => cases h; obtain ⟨k, s, c, _, rfl, _⟩ := hx; exact ⟨_, c, rfl⟩
  | _ => cases h
theorem lenA_ok {t : Nat} {x v : CV} (h : lenA P t x = .ok v) {u : Value} (hx : CR μ ρ w u x) (ty : TypeId) : ∃ r, (Builtin.len_ #[t] ty #[u]).run P w = .ok r w ∧ CR μ ρ w r v := by
  obtain ⟨d, hd, h⟩ := bind_ok h
  have hd := tyU_ok hd
  obtain ⟨g, h⟩ := guardR_ok h
  obtain ⟨e, rfl⟩ := slTy_ok g
  obtain ⟨n, hn, h⟩ := bind_ok h
  cases h
  obtain ⟨a, c, rfl⟩ := lenC_ok hn hx
  exact ⟨_, by simp [Builtin.len_, run_underlying hd]; rfl, rfl⟩
theorem maxA_ok (hF : F.Sat ρ) {mx : Bool} {x y v : CV} (h : maxA F mx x y = .ok v) {ux uy : Value} (hx : CR μ ρ w ux x) (hy : CR μ ρ w uy y) :
    ∃ r, (if mx then Builtin.max2 ux uy else Builtin.min2 ux uy).run P w = .ok r w ∧ CR μ ρ w r v := by
  have sym : ∀ {k k' : IntKind}, kindOf x = .ok k → kindOf y = .ok k' → decK k k' = true → ∀ {g : Bool}, geS F x y (.ofNat 0) = .ok g →
      v = (Bool.rec (motive := fun _ => CV) (Bool.rec (motive := fun _ => CV) x y mx) (Bool.rec (motive := fun _ => CV) y x mx) g : CV) →
      ∃ r, (if mx then Builtin.max2 ux uy else Builtin.min2 ux uy).run P w = .ok r w ∧ CR μ ρ w r v := by
    intro k k' hk hk' hkk g hg hv
    have := decK_ok hkk
    subst this
    obtain ⟨a, c, ha, hc⟩ := geS_lin hg
    have ex := lin_ok hx ha hk
    have ey := lin_ok hy hc hk'
    have e := geS_ok hF hg ha hc
    subst ex
    subst ey
    cases g with
    | true =>
      have hge := of_decide_eq_true e.symm
      simp only [Int.ofNat_eq_natCast] at hge
      cases mx with
      | true => exact ⟨.int k (a.val ρ), by simp only [if_true, Builtin.max2, Sem.run_pure]; rw [if_neg (by omega)], by rw [hv]; exact hx⟩
      | false =>
        refine ⟨.int k (c.val ρ), ?_, by rw [hv]; exact hy⟩
        simp only [Bool.false_eq_true, if_false, Builtin.min2, Sem.run_pure]
        by_cases hlt : c.val ρ < a.val ρ
        · rw [if_pos hlt]
        · rw [if_neg hlt]; congr 2; omega
    | false =>
      have hge := of_decide_eq_false e.symm
      simp only [Int.ofNat_eq_natCast] at hge
      cases mx with
      | true => exact ⟨.int k (c.val ρ), by simp only [if_true, Builtin.max2, Sem.run_pure]; rw [if_pos (by omega)], by rw [hv]; exact hy⟩
      | false => exact ⟨.int k (a.val ρ), by simp only [Bool.false_eq_true, if_false, Builtin.min2, Sem.run_pure]; rw [if_neg (by omega)], by rw [hv]; exact hx⟩
  have gen : ((kindOf x).bind fun k => (kindOf y).bind fun k' => guardR 154 (decK k k') ((geS F x y (.ofNat 0)).bind fun g => .ok (Bool.rec (motive := fun _ => CV) (Bool.rec (motive := fun _ => CV) x y mx) (Bool.rec (motive := fun _ => CV) y x mx) g))) = .ok v →
      ∃ r, (if mx then Builtin.max2 ux uy else Builtin.min2 ux uy).run P w = .ok r w ∧ CR μ ρ w r v := by
    intro h
    obtain ⟨k, hk, h⟩ := bind_ok h
    obtain ⟨k', hk', h⟩ := bind_ok h
    obtain ⟨g1, h⟩ := guardR_ok h
    obtain ⟨g, hg, h⟩ := bind_ok h
    exact sym hk hk' g1 hg (ok_inj h).symm
  unfold maxA at h
  split at h
  · rename_i k a k' b
    obtain ⟨g1, g2⟩ := guardR_ok h
    clear h
    have := decK_ok g1
    subst this
    have ex : ux = .int k a := hx
    have ey : uy = .int k b := hy
    subst ex
    subst ey
    cases g2
    rw [ile_eq]
    by_cases hab : a ≤ b
    · rw [decide_eq_true hab]
      cases mx with
      | true =>
        refine ⟨.int k b, ?_, rfl⟩
        simp only [if_true, Builtin.max2, Sem.run_pure]
        by_cases hlt : b > a
        · rw [if_pos hlt]
        · rw [if_neg hlt]; congr 2; omega
      | false => exact ⟨.int k a, by simp only [Bool.false_eq_true, if_false, Builtin.min2, Sem.run_pure]; rw [if_neg (by omega)], rfl⟩
    · rw [decide_eq_false hab]
      cases mx with
      | true => exact ⟨.int k a, by simp only [if_true, Builtin.max2, Sem.run_pure]; rw [if_neg (by omega)], rfl⟩
      | false => exact ⟨.int k b, by simp only [Bool.false_eq_true, if_false, Builtin.min2, Sem.run_pure]; rw [if_pos (by omega)], rfl⟩
  · exact gen h
theorem minN_eq (a b : Nat) : minN a b = Nat.min a b := by
  unfold minN
  show _ = min a b
  cases h : Nat.ble a b with
  | true => have := ble_true h; show a = min a b; omega
  | false => have := ble_false h; show b = min a b; omega
theorem copyA_ok (h : MR X μ ρ B w M) {t : Nat} {d s : CV} {v : AV} {M' : Mem} (hl : copyA P M t d s = .ok (v, M')) {ud us : Value} (hd : CR μ ρ w ud d) (hs : CR μ ρ w us s) (ts : Array TypeId) (ht : ts[0]? = some t) (ty : TypeId) :
    OutM X P μ ρ B w (Builtin.copy_ ts ty #[ud, us]) v M' := by
  obtain ⟨tt, htt, hl⟩ := bind_ok hl
  have htt := tyU_ok htt
  cases tt with
  | slice e =>
    obtain ⟨i, hi, hl⟩ := bind_ok hl
    have hi := tyI_ok hi
    obtain ⟨n, hn, hl⟩ := bind_ok hl
    obtain ⟨m, hm, hl⟩ := bind_ok hl
    obtain ⟨a, c, hud⟩ := lenC_ok hn hd
    obtain ⟨a', c', hus⟩ := lenC_ok hm hs
    have zero : ∀ (a : Option Addr) (a' : Option Addr), (Builtin.copy_ ts ty #[.slice a n c, .slice a' 0 c']).run P w = .ok (goInt 0) w := by
      intro a a'
      cases a' with
      | none =>
        cases a with
        | none => simp [Builtin.copy_, ht, run_underlying htt, run_sizeOf hi, Builtin.lenOf, Builtin.firstCells]
        | some a => simp [Builtin.copy_, ht, run_underlying htt, run_sizeOf hi, Builtin.lenOf, Builtin.firstCells, storeCells]
      | some a' =>
        cases a with
        | none => simp [Builtin.copy_, ht, run_underlying htt, run_sizeOf hi, Builtin.lenOf, Builtin.firstCells, loadCells, loadCellsFrom]
        | some a => simp [Builtin.copy_, ht, run_underlying htt, run_sizeOf hi, Builtin.lenOf, Builtin.firstCells, loadCells, loadCellsFrom, storeCells]
    cases s with
    | sz =>
      cases hl
      cases hm
      subst hud
      subst hus
      exact ⟨_, w, μ, zero _ _, rfl, h, Ste.refl B μ w⟩
    | se =>
      cases hl
      cases hm
      subst hud
      subst hus
      exact ⟨_, w, μ, zero _ _, rfl, h, Ste.refl B μ w⟩
    | s b o len cap ex sz =>
      cases hm
      obtain ⟨k, q, c2, hk, rfl, _⟩ := hs
      obtain ⟨l, hl0, hl⟩ := bind_ok hl
      rw [minN_eq] at hl0 hl
      obtain ⟨h1, vs, h2, h3⟩ := h.ldN hl0 hk
      have hlen : vs.length = Nat.min m n * i.size := by rw [h2.length, h1]; rfl
      have hf : (Builtin.firstCells i.size (Nat.min m n) (.slice (some ⟨k, q + o, none⟩) m c2)).run P w = .ok vs.toArray w := by
        show (loadCells ⟨k, q + o, none⟩ (Nat.min m n * i.size)).run P w = _
        rw [← hlen]
        exact run_loadCells_list w _ vs h3
      cases d with
      | sz =>
        cases hl
        have e' : ud = .slice none 0 0 := hd
        subst e'
        cases hn
        refine ⟨goInt 0, w, μ, ?_, rfl, h, Ste.refl B μ w⟩
        have h0 : Nat.min m 0 = 0 := Nat.min_eq_right (Nat.zero_le _)
        rw [h0] at hf
        simp [Builtin.copy_, ht, run_underlying htt, run_sizeOf hi, Builtin.lenOf, hf]
      | s b' o' len' cap' ex' sz' =>
        cases hn
        obtain ⟨k', q', c3, hk', rfl, _⟩ := hd
        obtain ⟨M1, hM1, hl⟩ := bind_ok hl
        cases hl
        obtain ⟨w', hw', h5, h6⟩ := h.stN hM1 hk' h2 P
        refine ⟨goInt (Nat.min m n), w', μ, ?_, rfl, h5, h6⟩
        simp [Builtin.copy_, ht, run_underlying htt, run_sizeOf hi, Builtin.lenOf, hf, hw']
      | _ => cases hl
    | _ => cases hm
  | _ => cases hl
theorem clearA_ok (h : MR X μ ρ B w M) {t : Nat} {x : CV} {v : AV} {M' : Mem} (hl : clearA P M t x = .ok (v, M')) {ux : Value} (hx : CR μ ρ w ux x) (ts : Array TypeId) (ht : ts[0]? = some t) (ty : TypeId) :
    OutM X P μ ρ B w (Builtin.clear_ ts ty #[ux]) v M' := by
  obtain ⟨tt, htt, hl⟩ := bind_ok hl
  have htt := tyU_ok htt
  cases tt with
  | slice e =>
    cases x with
    | sz =>
      cases hl
      have e' : ux = .slice none 0 0 := hx
      subst e'
      exact ⟨undef, w, μ, by simp [Builtin.clear_, ht, run_underlying htt]; rfl, AR.und μ ρ w, h, Ste.refl B μ w⟩
    | se =>
      cases hl
      obtain ⟨a, c, rfl⟩ := hx
      exact ⟨undef, w, μ, by simp [Builtin.clear_, ht, run_underlying htt]; rfl, AR.und μ ρ w, h, Ste.refl B μ w⟩
    | s b o n cap ex sz =>
      obtain ⟨k, q, c, hk, rfl, _⟩ := hx
      obtain ⟨z, hz, hl⟩ := bind_ok hl
      obtain ⟨i, zv, hi, hz2, hz3⟩ := zeros_ok hz μ ρ w
      cases n with
      | zero =>
        cases hl
        exact ⟨undef, w, μ, by simp [Builtin.clear_, ht, run_underlying htt]; rfl, AR.und μ ρ w, h, Ste.refl B μ w⟩
      | succ n =>
        have hl : ((Go.Proofs.YtbmhamijoajnhaaGreat.E.stN M b o (repL z (n + 1))).bind fun M => .ok (undA, M)) = .ok (v, M') := hl
        obtain ⟨M1, hM1, hl⟩ := bind_ok hl
        cases hl
        obtain ⟨w', hw', h5, h6⟩ := h.stN hM1 hk (hz3.rep (n + 1)) P
        refine ⟨undef, w', μ, ?_, AR.und μ ρ w', h5, h6⟩
        rw [← zeroCells_rep] at hw'
        simp [Builtin.clear_, ht, run_underlying htt, run_zeroValue hi hz2, hw']
        rfl
    | _ => cases hl
  | _ => cases hl
/- Maps. -/
theorem mapTy_ok {t e : Nat} (h : mapTy P t = .ok e) : ∃ k, P.underlying t = some (.map k e) ∧ P.underlying k = some (.int .i64) := by
  obtain ⟨d, hd, h⟩ := bind_ok h
  have hd := tyU_ok hd
  cases d with
  | map k e' =>
    obtain ⟨kd, hkd, h⟩ := bind_ok h
    have hkd := tyU_ok hkd
    have key : kd = .int .i64 ∧ e' = e := by
      cases kd with
      | int j => cases j <;> first | (cases h; exact ⟨rfl, rfl⟩) | (cases h; done)
      | _ => cases h
    obtain ⟨rfl, rfl⟩ := key
    exact ⟨k, hd, hkd⟩
  | _ => cases h
theorem key64_ok {x : CV} {n : Nat} (h : key64 x = .ok n) {u : Value} (hx : CR μ ρ w u x) : u = .int .i64 (n : Int) := by
  cases x with
  | i k a =>
    cases k <;> first | (cases h; done) | skip
    have e : u = .int .i64 a := hx
    rw [e, natOf_ok h]
  | _ => cases h
def EntR (μ : Mu) (ρ : Nat → Int) (w : World) (e : MapEntry) (p : Nat × CV) : Prop := e.key = .int .i64 p.1 ∧ CR μ ρ w e.val p.2
theorem findM_cons (p : Nat × CV) (l : List (Nat × CV)) (n : Nat) : findM (p :: l) n = if n = p.1 then some p.2 else findM l n := by
  show Bool.rec (motive := fun _ => Option CV) (findM l n) (some p.2) (Nat.beq n p.1) = _
  by_cases h : n = p.1
  · rw [if_pos h, h, Nat.beq_refl]
  · rw [if_neg h, beq_of_ne h]
theorem setM_cons (p : Nat × CV) (l : List (Nat × CV)) (n : Nat) (x : CV) : setM (p :: l) n x = if n = p.1 then (n, x) :: l else p :: setM l n x := by
  show Bool.rec (motive := fun _ => List (Nat × CV)) (p :: setM l n x) ((n, x) :: l) (Nat.beq n p.1) = _
  by_cases h : n = p.1
  · rw [if_pos h, h, Nat.beq_refl]
  · rw [if_neg h, beq_of_ne h]
theorem findNow_ok (n : Nat) : ∀ {es : List MapEntry} {l : List (Nat × CV)} (i : Nat), All2 (EntR μ ρ w) es l →
    (∀ v, findM l n = some v → ∃ j u, Instr.findNow (.int .i64) (.int .i64 (n : Int)) es i = some (some (i + j, u)) ∧ CR μ ρ w u v ∧ (∃ e, es[j]? = some e ∧ e.key = .int .i64 (n : Int)) ∧
      ∀ x ux, CR μ ρ w ux x → All2 (EntR μ ρ w) (es.modify j fun e => { e with key := .int .i64 (n : Int), val := ux }) (setM l n x)) ∧
    (findM l n = none → Instr.findNow (.int .i64) (.int .i64 (n : Int)) es i = some none ∧ ∀ x e, EntR μ ρ w e (n, x) → All2 (EntR μ ρ w) (es ++ [e]) (setM l n x))
  | [], [], i, _ => ⟨(fun v h => by cases h), fun _ => ⟨rfl, fun x e he => ⟨he, trivial⟩⟩⟩
  | e :: es, p :: l, i, h => by
    obtain ⟨⟨h1, h2⟩, h3⟩ := h
    have hs : Instr.sameNow (.int .i64) (.int .i64 (n : Int)) e.key = some ((n : Int) == (p.1 : Int)) := by rw [h1]; simp [Instr.sameNow]
    obtain ⟨ih1, ih2⟩ := findNow_ok n (i + 1) h3
    rw [findM_cons]
    by_cases hn : n = p.1
    · have hb : ((n : Int) == (p.1 : Int)) = true := by rw [hn]; simp
      refine ⟨fun v hv => ?_, fun hv => by rw [if_pos hn] at hv; cases hv⟩
      rw [if_pos hn] at hv
      cases hv
      refine ⟨0, e.val, by simp [Instr.findNow, hs, hb], h2, ⟨e, rfl, by rw [h1, hn]⟩, fun x ux hx => ?_⟩
      rw [setM_cons, if_pos hn]
      exact ⟨⟨rfl, hx⟩, h3⟩
    · have hb : ((n : Int) == (p.1 : Int)) = false := by rw [beq_eq_false_iff_ne]; omega
      refine ⟨fun v hv => ?_, fun hv => ?_⟩
      · rw [if_neg hn] at hv
        obtain ⟨j, u, h4, h5, ⟨e', h6, h6'⟩, h7⟩ := ih1 v hv
        refine ⟨j + 1, u, by simp [Instr.findNow, hs, hb, h4]; omega, h5, ⟨e', h6, h6'⟩, fun x ux hx => ?_⟩
        rw [setM_cons, if_neg hn, List.modify_succ_cons]
        exact ⟨⟨h1, h2⟩, h7 x ux hx⟩
      · rw [if_neg hn] at hv
        obtain ⟨h4, h5⟩ := ih2 hv
        refine ⟨by simp [Instr.findNow, hs, hb, h4], fun x e' he => ?_⟩
        rw [setM_cons, if_neg hn]
        exact ⟨⟨h1, h2⟩, h5 x e' he⟩
  | [], _ :: _, _, h => h.elim
  | _ :: _, [], _, h => h.elim
theorem run_checkKey (empty : Bool) {k : Nat} (h : P.underlying k = some (.int .i64)) (n : Int) (w : World) : (Instr.checkKey empty 10000 k (.int .i64 n)).run P w = .ok () w := by
  show (Instr.checkKey empty (9999 + 1) k (.int .i64 n)).run P w = _
  rw [Instr.checkKey]
  simp [run_underlying h]
theorem run_getMap {r : Nat} {es : Array MapEntry} {ck : Nat} (h : w.heap[r]? = some (.map es ck)) : (getObj r).run P w = .ok (.map es ck) w := by
  simp only [getObj, Sem.run, h]
theorem run_findKey {k : Nat} (hk : P.underlying k = some (.int .i64)) {x : Value} {es : List MapEntry} {r : Option (Nat × Value)} (h : Instr.findNow (.int .i64) x es 0 = some r) (w : World) :
    (Instr.findKey k x es).run P w = .ok r w := by
  unfold Instr.findKey
  simp [run_underlying hk, h]
theorem lookA_ok (h : MR X μ ρ B w M) {t : Nat} {x k : CV} {ok : Bool} {v : AV} (hl : lookA P M t x k ok = .ok v) {ux uk : Value} (hx : CR μ ρ w ux x) (hk : CR μ ρ w uk k) :
    ∃ u, (Instr.lookup t ux uk ok).run P w = .ok u w ∧ AR μ ρ w u v := by
  cases x with
  | m b =>
    obtain ⟨e, he, hl⟩ := bind_ok hl
    obtain ⟨n, hn, hl⟩ := bind_ok hl
    obtain ⟨l, hm, hl⟩ := bind_ok hl
    obtain ⟨kt, ht, hkt⟩ := mapTy_ok he
    have hn := key64_ok hn hk
    subst hn
    obtain ⟨r, hr, rfl⟩ := hx
    obtain ⟨_, _, es, ck, hrow, hes⟩ := h.blk _ _ _ _ (mapOf_ok hm) hr
    obtain ⟨f1, f2⟩ := findNow_ok (μ := μ) (ρ := ρ) (w := w) n 0 hes
    cases hf : findM l n with
    | some y =>
      rw [hf] at hl
      obtain ⟨j, u, h4, h5, _⟩ := f1 y hf
      have hfk := run_findKey (P := P) hkt h4 w
      cases ok with
      | true =>
        cases hl
        exact ⟨.tuple #[u, .bool true], by simp [Instr.lookup, run_underlying ht, run_getMap hrow, run_checkKey _ hkt, hfk], _, rfl, h5, rfl, trivial⟩
      | false =>
        cases hl
        exact ⟨u, by simp [Instr.lookup, run_underlying ht, run_getMap hrow, run_checkKey _ hkt, hfk], h5⟩
    | none =>
      rw [hf] at hl
      obtain ⟨h4, _⟩ := f2 hf
      have hfk := run_findKey (P := P) hkt h4 w
      obtain ⟨y, hy, hl⟩ := bind_ok hl
      obtain ⟨i, hi, hy⟩ := bind_ok hy
      obtain ⟨zv, hz2, hy⟩ := bind_ok hy
      have hi := tyI_ok hi
      have hz2 := ofOpt_ok hz2
      have hzv : CR μ ρ w zv y := ofC_ok hy
      cases ok with
      | true =>
        cases hl
        exact ⟨.tuple #[zv, .bool false], by simp [Instr.lookup, run_underlying ht, run_getMap hrow, run_checkKey _ hkt, hfk, run_zeroValue hi hz2], _, rfl, hzv, rfl, trivial⟩
      | false =>
        cases hl
        exact ⟨zv, by simp [Instr.lookup, run_underlying ht, run_getMap hrow, run_checkKey _ hkt, hfk, run_zeroValue hi hz2], hzv⟩
  | _ => cases hl
theorem setObj_ext (w : World) (r : Nat) (es : Array MapEntry) (ck : Nat) (o : Obj) (h : w.heap[r]? = some (.map es ck)) : Ext w { w with heap := w.heap.setIfInBounds r o } := by
  intro k c e fr hk
  by_cases hkr : k = r
  · subst hkr; rw [h] at hk; cases hk
  · exact ⟨c, fr, by show (w.heap.setIfInBounds r o)[k]? = _; rw [Array.getElem?_setIfInBounds_ne (Ne.symm hkr)]; exact hk, rfl⟩
theorem setObj_below {B r : Nat} (w : World) (hr : B ≤ r) (o : Obj) : Below B w { w with heap := w.heap.setIfInBounds r o } :=
  ⟨rfl, rfl, rfl, by show w.heap.size ≤ (w.heap.setIfInBounds r o).size; rw [Array.size_setIfInBounds]; exact Nat.le_refl _, fun k hk => by show (w.heap.setIfInBounds r o)[k]? = _; rw [Array.getElem?_setIfInBounds_ne (by omega)]⟩
theorem run_setMap {r : Nat} {es : Array MapEntry} {ck : Nat} (h : w.heap[r]? = some (.map es ck)) (o : Obj) : (setObj r o).run P w = .ok () { w with heap := w.heap.setIfInBounds r o } := by
  simp only [setObj, Sem.run, h]
theorem updA_ok (h : MR X μ ρ B w M) {t : Nat} {x k v : CV} {M' : Mem} (hl : updA P M t x k v = .ok M') {ux uk uv : Value} (hx : CR μ ρ w ux x) (hk : CR μ ρ w uk k) (hv : CR μ ρ w uv v) :
    ∃ w', (Instr.mapUpdate t ux uk uv).run P w = .ok () w' ∧ MR X μ ρ B w' M' ∧ Ste B μ w μ w' := by
  cases x with
  | m b =>
    obtain ⟨e, he, hl⟩ := bind_ok hl
    obtain ⟨n, hn, hl⟩ := bind_ok hl
    obtain ⟨l, hm, hl⟩ := bind_ok hl
    cases hl
    obtain ⟨kt, ht, hkt⟩ := mapTy_ok he
    have hn := key64_ok hn hk
    subst hn
    obtain ⟨r, hr, rfl⟩ := hx
    have hb := mapOf_ok hm
    obtain ⟨hB, _, es, ck, hrow, hes⟩ := h.blk _ _ _ _ hb hr
    obtain ⟨f1, f2⟩ := findNow_ok (μ := μ) (ρ := ρ) (w := w) n 0 hes
    have fin : ∀ (es' : Array MapEntry) (ck' : Nat), All2 (EntR μ ρ w) es'.toList (setM l n v) → MR X μ ρ B { w with heap := w.heap.setIfInBounds r (.map es' ck') } ⟨M.bl.set (.mp (setM l n v)) b, M.nx⟩ ∧ Ste B μ w μ { w with heap := w.heap.setIfInBounds r (.map es' ck') } := by
      intro es' ck' hes'
      have hext := setObj_ext w r es ck (.map es' ck') hrow
      refine ⟨h.upd hb hr (by show (w.heap.setIfInBounds r _).size = _; rw [Array.size_setIfInBounds]) hext (fun i hi => by show (w.heap.setIfInBounds r _)[i]? = _; rw [Array.getElem?_setIfInBounds_ne (Ne.symm hi)]) ?_, Mu.refl μ, hext, setObj_below w hB _⟩
      refine ⟨rfl, es', ck', ?_, hes'.mono fun _ _ hh => ⟨hh.1, hh.2.mono (Mu.refl μ) hext⟩⟩
      show (w.heap.setIfInBounds r _)[r]? = _
      rw [Array.getElem?_setIfInBounds_self_of_lt (Array.getElem?_eq_some_iff.1 hrow).1]
    cases hf : findM l n with
    | some y =>
      obtain ⟨j, u, h4, h5, ⟨e0, h6, h6'⟩, h7⟩ := f1 y hf
      have hfk := run_findKey (P := P) hkt h4 w
      rw [Nat.zero_add] at hfk
      have h8 := h7 v uv hv
      obtain ⟨g1, g2⟩ := fin (es.modify j fun e => { e with key := .int .i64 (n : Int), val := uv }) ck (by rw [Array.toList_modify]; exact h8)
      refine ⟨_, ?_, g1, g2⟩
      have hkeys : (Instr.keyThatStays (((es[j]?).map (·.key)).getD (.int .i64 (n : Int))) (.int .i64 (n : Int))).run P w = .ok (.int .i64 (n : Int)) w := by
        rw [← Array.getElem?_toList, h6]
        simp [Instr.keyThatStays, h6', Instr.sameBits]
      simp [Instr.mapUpdate, run_underlying ht, run_getMap hrow, run_checkKey _ hkt, hfk, hkeys, run_setMap hrow]
    | none =>
      obtain ⟨h4, h5⟩ := f2 hf
      have hfk := run_findKey (P := P) hkt h4 w
      obtain ⟨g1, g2⟩ := fin (es.push { key := .int .i64 (n : Int), val := uv, born := ck }) (ck + 1) (by rw [Array.toList_push]; exact h5 v _ ⟨rfl, hv⟩)
      refine ⟨_, ?_, g1, g2⟩
      simp [Instr.mapUpdate, run_underlying ht, run_getMap hrow, run_checkKey _ hkt, hfk, run_setMap hrow]
  | _ => cases hl
end
end Go.Proofs.YtbmhamijoajnhaaGreat.E
