/- Frames and calls: the reckoning is sound. Nothing of the program. -/
import Derived.Test.YtbmhamijoajnhaaGreatEI
namespace Go.Proofs.YtbmhamijoajnhaaGreat.E
open Go Go.RowKit
section
variable {X : Nat → Prop} {P : Program} {F : Facts} {cl : CallT} {nt : Nat} {ρ : Nat → Int} {B : Nat} {μ : Mu} {w : World} {M : Mem} {a : Act} {t : PT AV}

theorem region_steps {c : Code} {b : Frame} {k : List Item} {cs : List Frame} {t' : PT AV} {M' : Mem} (h : c.wp P (fun e a' w' => e = .normal ∧ Left X nt μ ρ B w a t' M' a' w') a w) :
    ∃ a' w', Steps P (lone (b.at a (.code c :: k)) cs w) (lone (b.at a' k) cs w') ∧ Left X nt μ ρ B w a t' M' a' w' := by
  obtain ⟨e, a', w', ⟨rfl, hL⟩, harr⟩ := h b k cs
  exact ⟨a', w', harr, hL⟩
/-- What a state of plain values says of the machine's. -/
def Goes (X : Nat → Prop) (P : Program) (nt : Nat) (μ : Mu) (ρ : Nat → Int) (B : Nat) (b : Frame) (cs : List Frame) (k : List Item) (a : Act) (w : World) (s : St) : Prop := match s with
  | .go k' t' M' => ∃ a' w', Steps P (lone (b.at a k) cs w) (lone (b.at a' k') cs w') ∧ Left X nt μ ρ B w a t' M' a' w'
  | .ret t' M' => ∃ a' w' todo, Steps P (lone (b.at a k) cs w) (lone { b.at a' todo with mode := .returning } cs w') ∧ Left X nt μ ρ B w a t' M' a' w'
  | .bad _ => True
theorem left_refl (hT : TR nt μ ρ w a t) (hM : MR X μ ρ B w M) : Left X nt μ ρ B w a t M a w := ⟨μ, hT, rfl, hM, Ste.refl B μ w⟩
theorem st_ok {α : Type} {r : Res α} {f : α → St} {b : Frame} {cs : List Frame} {k : List Item} (h : ∀ x, r = .ok x → Goes X P nt μ ρ B b cs k a w (f x)) : Goes X P nt μ ρ B b cs k a w (r.st f) := by
  cases r with
  | ok x => exact h x rfl
  | no y => trivial
theorem code_ok (hF : F.Sat ρ) (hcl : CallOK P F cl) (hm : P.follows .mixedOrders = true) (hT : TR nt μ ρ w a t) (hM : MR X μ ρ B w M) (hB : B ≤ w.heap.size) (b : Frame) (cs : List Frame) (k : List Item) (c : Code) :
    Goes X P nt μ ρ B b cs (.code c :: k) a w (codeA P F cl nt k t M c) := by
  have hL := left_refl hT hM
  cases c with
  | skip => exact ⟨a, w, .one step_skip, hL⟩
  | label l => exact ⟨a, w, .one step_label, hL⟩
  | seq x y => exact ⟨a, w, .one step_seq, hL⟩
  | block i x => exact ⟨a, w, .one step_block, hL⟩
  | loop x => exact ⟨a, w, .one step_loop, hL⟩
  | ret => exact ⟨a, w, _, .one step_ret, hL⟩
  | exit i =>
    refine st_ok fun k' hk' => ?_
    exact ⟨a, w, .one (step_exit (ofOpt_ok hk')), hL⟩
  | cond x y z' =>
    refine st_ok fun q hq => ?_
    obtain ⟨v, hv, hq⟩ := bind_ok hq
    obtain ⟨cv, hcv, hq⟩ := bind_ok hq
    have hx := ((evO_ok hT hv).cv hcv).1
    cases cv with
    | b yy =>
      cases hq
      have e : a.eval x = .bool q := hx
      cases q with
      | true => exact ⟨a, w, .one (step_cond e), hL⟩
      | false => exact ⟨a, w, .one (step_cond e), hL⟩
    | _ => cases hq
  | region i ops dr =>
    refine st_ok fun q hq => ?_
    obtain ⟨t', M'⟩ := q
    cases dr with
    | false =>
      have hq : opsA P F cl nt ops ops.toList t M = .ok (t', M') := hq
      have := seq_ok (X := X) (Q := fun e a' w' => e = .normal ∧ Left X nt μ ρ B w a t' M' a' w') hF hcl ops.toList 0 t M μ a w (fun j o hj => by rw [Nat.zero_add]; simpa using hj) hq hT hM hB fun a' w' hL' => ⟨rfl, hL'⟩
      rw [Array.length_toList, ← List.range_eq_range'] at this
      exact region_steps (wp_region this)
    | true => exact region_steps (draw_ok hF hcl hm hq hT hM hB fun a' w' hL' => ⟨rfl, hL'⟩)
  | _ => trivial
theorem step_ok (hF : F.Sat ρ) (hcl : CallOK P F cl) (hm : P.follows .mixedOrders = true) (hT : TR nt μ ρ w a t) (hM : MR X μ ρ B w M) (hB : B ≤ w.heap.size) (b : Frame) (cs : List Frame) (k : List Item) :
    Goes X P nt μ ρ B b cs k a w (stepA P F cl nt (.go k t M)) := by
  have hL := left_refl hT hM
  cases k with
  | nil => exact ⟨a, w, _, .one step_end, hL⟩
  | cons i k =>
    cases i with
    | code c => exact code_ok hF hcl hm hT hM hB b cs k c
    | inBlock i => exact ⟨a, w, .one step_inBlock, hL⟩
    | inLoop c => exact ⟨a, w, .one step_inLoop, hL⟩
    | _ => trivial
theorem run_ok (hF : F.Sat ρ) (hcl : CallOK P F cl) (hm : P.follows .mixedOrders = true) (b : Frame) (cs : List Frame) : ∀ (n : Nat) (k : List Item) (t : PT AV) (M : Mem) (μ : Mu) (a : Act) (w : World),
    TR nt μ ρ w a t → MR X μ ρ B w M → B ≤ w.heap.size → Goes X P nt μ ρ B b cs k a w (runF P F cl nt n (.go k t M))
  | 0, k, t, M, μ, a, w, hT, hM, hB => step_ok hF hcl hm hT hM hB b cs k
  | n + 1, k, t, M, μ, a, w, hT, hM, hB => by
    have h1 := run_ok hF hcl hm b cs n k t M μ a w hT hM hB
    show Goes X P nt μ ρ B b cs k a w (nextS (runF P F cl nt n) (runF P F cl nt n (.go k t M)))
    cases hs : runF P F cl nt n (.go k t M) with
    | bad y => trivial
    | ret t' M' => rw [hs] at h1; exact h1
    | go k' t' M' =>
      rw [hs] at h1
      obtain ⟨a', w', hst, μ', hT', hd, hM', hS⟩ := h1
      have h2 := run_ok hF hcl hm b cs n k' t' M' μ' a' w' hT' hM' (Nat.le_trans hB hS.below.size)
      show Goes X P nt μ ρ B b cs k a w (runF P F cl nt n (.go k' t' M'))
      cases hs2 : runF P F cl nt n (.go k' t' M') with
      | bad y => trivial
      | ret t2 M2 =>
        rw [hs2] at h2
        obtain ⟨a2, w2, todo, hst2, μ2, hT2, hd2, hM2, hS2⟩ := h2
        exact ⟨a2, w2, todo, hst.trans hst2, μ2, hT2, hd2.trans hd, hM2, hS.trans hS2⟩
      | go k2 t2 M2 =>
        rw [hs2] at h2
        obtain ⟨a2, w2, hst2, μ2, hT2, hd2, hM2, hS2⟩ := h2
        exact ⟨a2, w2, hst.trans hst2, μ2, hT2, hd2.trans hd, hM2, hS.trans hS2⟩
/- What a function answers. -/
def resSem (tmps : Array Value) (rv : ResultVar) : Sem Value := match rv with
  | .tmp n => pure (tmps.getD n undef)
  | .cell c ty => do loadVar ty (← asAddr (tmps.getD c undef))
theorem results_eq (fn : Func) (tmps : Array Value) : results fn tmps = (do
    let vs ← fn.results.mapM (resSem tmps)
    pure (if h : vs.size = 1 then vs[0] else .tuple vs)) := by
  unfold results
  congr 1
theorem resA_ok (hT : TR nt μ ρ w a t) (hM : MR X μ ρ B w M) {rv : ResultVar} {v : AV} (h : resA P t M rv = .ok v) :
    ∃ u, (resSem a.tmps rv).run P w = .ok u w ∧ AR μ ρ w u v := by
  cases rv with
  | tmp n =>
    obtain ⟨u, h1, h2⟩ := hT.tmp n v (ofOpt_ok h)
    exact ⟨u, by simp only [resSem, getD_some h1, Sem.run_pure], h2⟩
  | cell c ty =>
    obtain ⟨vc, hvc, h⟩ := bind_ok h
    obtain ⟨u, h1, h2⟩ := hT.tmp c vc (ofOpt_ok hvc)
    obtain ⟨x, hx, h⟩ := bind_ok h
    have hc := (h2.cv hx).1
    obtain ⟨q, h3, h4⟩ := loadT_ok (P := P) hM h hc
    refine ⟨q, ?_, h4⟩
    cases x with
    | p bb o =>
      obtain ⟨kk, s, _, rfl⟩ := hc
      simp only [resSem, getD_some h1]
      simpa [Instr.loadAt, Instr.sureAddr, asAddr] using h3
    | _ => cases h
theorem run_mapM {α : Type} (f : α → Sem Value) (w : World) : ∀ (l : List α) (us : List Value), All2 (fun x u => (f x).run P w = .ok u w) l us → (l.mapM f).run P w = .ok us w
  | [], [], _ => by simp
  | x :: l, u :: us, h => by
    rw [List.mapM_cons]
    simp [h.1, run_mapM f w l us h.2]
  | [], _ :: _, h => h.elim
  | _ :: _, [], h => h.elim
theorem results_ok (hT : TR nt μ ρ w a t) (hM : MR X μ ρ B w M) {fn : Func} {v : AV} (h : resultsA P fn t M = .ok v) : ∃ u, (results fn a.tmps).run P w = .ok u w ∧ AR μ ρ w u v := by
  have many : ∀ (rs : List ResultVar) (vs : List AV), mapR (resA P t M) rs = .ok vs → ∃ us, All2 (fun x u => (resSem a.tmps x).run P w = .ok u w) rs us ∧ All2 (AR μ ρ w) us vs := by
    intro rs
    induction rs with
    | nil => intro vs h; cases h; exact ⟨[], trivial, trivial⟩
    | cons x rs ih =>
      intro vs h
      rw [mapR_cons] at h
      obtain ⟨y, hy, h⟩ := bind_ok h
      obtain ⟨m, hm, h⟩ := bind_ok h
      cases h
      obtain ⟨u, h1, h2⟩ := resA_ok (P := P) hT hM hy
      obtain ⟨us, h3, h4⟩ := ih m hm
      exact ⟨u :: us, ⟨h1, h3⟩, h2, h4⟩
  have fin : ∀ us : List Value, (fn.results.toList.mapM (resSem a.tmps)).run P w = .ok us w →
      (results fn a.tmps).run P w = .ok (if h : us.toArray.size = 1 then us.toArray[0] else .tuple us.toArray) w := by
    intro us hus
    rw [results_eq, Array.mapM_eq_mapM_toList]
    simp only [Sem.run_bind, Sem.run_map, hus, Result.andThen_ok, Sem.run_pure]
  unfold resultsA at h
  split at h
  · rename_i rv hrs
    obtain ⟨u, h1, h2⟩ := resA_ok (P := P) hT hM h
    refine ⟨u, ?_, h2⟩
    have := fin [u] (by rw [hrs]; exact run_mapM _ w [rv] [u] ⟨h1, trivial⟩)
    simpa using this
  · rename_i rs hne
    obtain ⟨l, hl, h⟩ := bind_ok h
    cases h
    have key : ∀ (rs : List ResultVar) (l : List V2), mapR (fun r => (resA P t M r).bind AV.v2) rs = .ok l → ∃ vs, mapR (resA P t M) rs = .ok vs ∧ ∀ us, All2 (AR μ ρ w) us vs → All2 (V2R μ ρ w) us l := by
      intro rs
      induction rs with
      | nil => intro l h; cases h; exact ⟨[], rfl, fun us h => by cases us with | nil => trivial | cons _ _ => exact h.elim⟩
      | cons x rs ih =>
        intro l h
        rw [mapR_cons] at h
        obtain ⟨y, hy, h⟩ := bind_ok h
        obtain ⟨m, hm, h⟩ := bind_ok h
        cases h
        obtain ⟨vv, hvv, hy⟩ := bind_ok hy
        obtain ⟨vs, h1, h2⟩ := ih m hm
        refine ⟨vv :: vs, by rw [mapR_cons, hvv, h1]; rfl, fun us hus => ?_⟩
        cases us with
        | nil => exact hus.elim
        | cons u us => exact ⟨hus.1.v2 hy, h2 us hus.2⟩
    obtain ⟨vs, h1, h2⟩ := key _ _ hl
    obtain ⟨us, h3, h4⟩ := many _ _ h1
    refine ⟨.tuple us.toArray, ?_, us.toArray, rfl, by simpa using h2 us h4⟩
    have := fin us (run_mapM _ w _ us h3)
    rw [this]
    rw [dif_neg]
    intro h5
    have h6 := h3.length
    simp at h5
    rw [h5] at h6
    match hr : fn.results.toList, h6 with
    | [x], _ => exact hne x hr
/- Calls. -/
theorem putArgs_get : ∀ (l : List AV) (n : Nat) (t : PT AV) (j : Nat) (v : AV), (putArgs l n t).get j = some v → (n ≤ j ∧ l[j - n]? = some v) ∨ t.get j = some v
  | [], n, t, j, v, h => .inr h
  | x :: l, n, t, j, v, h => by
    have e : putArgs (x :: l) n t = putArgs l (n + 1) (t.set x n) := rfl
    rw [e] at h
    rcases putArgs_get l (n + 1) (t.set x n) j v h with ⟨h1, h2⟩ | h1
    · refine .inl ⟨by omega, ?_⟩
      rw [show j - n = (j - (n + 1)) + 1 by omega]
      simpa using h2
    · rcases set_get _ _ _ _ _ h1 with ⟨rfl, rfl⟩ | ⟨_, h2⟩
      · exact .inl ⟨Nat.le_refl _, by simp⟩
      · exact .inr h2
/-- What is asked of a program. -/
structure ProgOK (P : Program) (ad : Nat) : Prop where
  mixed : P.follows .mixedOrders = true
  names : ∀ (f : Nat) (fn : Func), P.funcs[f]? = some fn → (fn.name == "runtime.NumGoroutine") = false
  add : ∀ x y c : Nat, c ≤ 1 → ∀ w, (callFunc ad #[.int .u64 x, .int .u64 y, .int .u64 c]).run P w = .ok (.value (.tuple #[.int .u64 (((x + y + c) % 18446744073709551616 : Nat) : Int), .int .u64 (((x + y + c) / 18446744073709551616 : Nat) : Int)])) w
/-- What is known of functions. -/
def KnownOK (P : Program) (kn : Known) : Prop := ∀ f v, knownA kn f = some v → ∀ w, CallP P f #[] w fun u w' => (∀ (μ : Mu) (ρ : Nat → Int) (w : World), AR μ ρ w u v) ∧ Below w.heap.size w w'
theorem CallP.mono {P : Program} {f : FuncId} {args : Array Value} {w : World} {K K' : Value → World → Prop} (h : CallP P f args w K) (hK : ∀ u w', K u w' → K' u w') : CallP P f args w K' := by
  unfold CallP at h ⊢
  cases hr : (callFunc f args).run P w with
  | halt x w' => rw [hr] at h; exact h.elim
  | ok nx w' =>
    rw [hr] at h
    cases nx <;> first | exact h.elim | skip
    · exact hK _ _ h
    · refine Calls.mono h fun e w'' he => ?_
      cases e with
      | returned u => exact hK _ _ he
      | panicked c => exact he.elim
      | outgrown => exact he.elim
theorem MR.below (h : MR X μ ρ B w M) {w' : World} (hb : Below w.heap.size w w') : MR X μ ρ B w' M ∧ Ext w w' := by
  have hext : Ext w w' := fun k c e fr hk => ⟨c, fr, by rw [hb.block k (Array.getElem?_eq_some_iff.1 hk).1]; exact hk, rfl⟩
  refine ⟨⟨h.pend, h.fresh, h.low, fun b k s hk => Nat.lt_of_lt_of_le (h.size b k s hk) hb.size, fun b x k s hx hk => ?_, h.inj⟩, hext⟩
  obtain ⟨h1, h2⟩ := h.blk b x k s hx hk
  exact ⟨h1, h2.mono (Mu.refl μ) hext (hb.block k (h.size b k s hk))⟩
theorem body_ok {ad : Nat} (hP : ProgOK P ad) (hcl : CallOK P F cl) {f : Nat} {as : List AV} {v : AV} {M' : Mem} (hl : bodyA P F cl f as M = .ok (v, M')) (hF : F.Sat ρ) {args : Array Value} (hargs : All2 (AR μ ρ w) args.toList as) (hM : MR X μ ρ B w M)
    (hB : B ≤ w.heap.size) {K : Value → World → Prop} (hK : ∀ (u : Value) (μ' : Mu) (w' : World), AR μ' ρ w' u v → MR X μ' ρ B w' M' → Ste B μ w μ' w' → K u w') : CallP P f args w K := by
  obtain ⟨fn, hfn, hl⟩ := bind_ok hl
  obtain ⟨c, hc, hl⟩ := bind_ok hl
  have hfn := ofOpt_ok hfn
  have hc := ofOpt_ok hc
  have hrun : (callFunc f args).run P w = .ok (.enter f args) w := by
    unfold callFunc
    have hn := hP.names f fn hfn
    simp only [Sem.run_bind, run_program, Result.andThen_ok, hfn, hn, hc]
    rfl
  unfold CallP
  rw [hrun]
  intro cs
  -- the frame that is entered
  have hfr : Frame.enter P f args .normal = (Frame.enter P f args .normal).at ⟨(Frame.enter P f args .normal).tmps, []⟩ [.code c] := by
    unfold Frame.enter Frame.at
    simp [hfn, hc]
  have htm : (Frame.enter P f args .normal).tmps = args ++ Array.replicate (fn.ntmps - args.size) undef := by
    unfold Frame.enter
    simp [hfn]
  have hT : TR fn.ntmps μ ρ w ⟨(Frame.enter P f args .normal).tmps, []⟩ (putArgs as 0 .lf) := by
    refine ⟨by show fn.ntmps ≤ (Frame.enter P f args .normal).tmps.size; rw [htm, Array.size_append, Array.size_replicate]; omega, fun j x hj => ?_⟩
    rcases putArgs_get _ _ _ _ _ hj with ⟨_, h2⟩ | h2
    · obtain ⟨u, hu, hr⟩ := hargs.get _ _ h2
      refine ⟨u, ?_, hr⟩
      show (Frame.enter P f args .normal).tmps[j]? = some u
      rw [Nat.sub_zero, Array.getElem?_toList] at hu
      rw [htm, Array.getElem?_append_left (Array.getElem?_eq_some_iff.1 hu).1]
      exact hu
    · cases h2
  have h1 := run_ok (nt := fn.ntmps) hF hcl hP.mixed (Frame.enter P f args .normal) cs Go.Proofs.YtbmhamijoajnhaaGreat.E.K [.code c] (putArgs as 0 .lf) M μ _ w hT hM hB
  cases hs : runF P F cl fn.ntmps Go.Proofs.YtbmhamijoajnhaaGreat.E.K (.go [.code c] (putArgs as 0 .lf) M) with
  | bad y => rw [hs] at hl; cases hl
  | go k' t' M2 => rw [hs] at hl; cases hl
  | ret t' M2 =>
    rw [hs] at hl h1
    obtain ⟨v', hv', hl⟩ := bind_ok (show ((resultsA P fn t' M2).bind fun v => frc v fun v => .ok (v, M2)) = .ok (v, M') from hl)
    rw [frc_eq] at hl
    cases hl
    obtain ⟨a', w', todo, hst, μ', hT', hd, hM', hS⟩ := h1
    obtain ⟨u, hu, hur⟩ := results_ok (P := P) hT' hM' hv'
    refine ⟨.returned u, w', { (Frame.enter P f args .normal).at a' todo with mode := .returning }, hK u μ' w' hur hM' hS, ?_, rfl, rfl, hd, rfl, fn, hfn, hu⟩
    show Steps P _ _
    rw [hfr]
    exact hst
theorem call_ok {ad : Nat} {kn : Known} (hP : ProgOK P ad) (hkn : KnownOK P kn) : ∀ d, CallOK P F (callD P F ad kn d)
  | 0 => fun f as M v M' h => by cases h
  | d + 1 => by
    intro f as M v M' hl X B μ ρ w args hF hargs hM hB K hK
    have ih := call_ok hP hkn d
    have e : callD P F ad kn (d + 1) f as M = Bool.rec (motive := fun _ => Res (AV × Mem)) (Option.rec (motive := fun _ => Res (AV × Mem)) (bodyA P F (callD P F ad kn d) f as M) (fun v => knownR v M as) (knownA kn f)) ((add64A as).bind fun v => .ok (v, M)) (Nat.beq f ad) := rfl
    rw [e] at hl
    cases hf : Nat.beq f ad with
    | true =>
      rw [hf] at hl
      have hf := beq_true hf
      subst hf
      obtain ⟨v', hv', hl⟩ := bind_ok hl
      cases hl
      unfold add64A at hv'
      split at hv'
      · rename_i x y c
        obtain ⟨nx, hx, hv'⟩ := bind_ok hv'
        obtain ⟨ny, hy, hv'⟩ := bind_ok hv'
        obtain ⟨nc, hc, hv'⟩ := bind_ok hv'
        obtain ⟨g, hv9⟩ := guardR_ok hv'
        clear hv'
        have hx := natOf_ok hx
        have hy := natOf_ok hy
        have hc := natOf_ok hc
        subst hx
        subst hy
        subst hc
        have h3 : args = #[.int .u64 (nx : Int), .int .u64 (ny : Int), .int .u64 (nc : Int)] := by
          match ha : args.toList, hargs with
          | [u1, u2, u3], ⟨e1, e2, e3, _⟩ =>
            have e1 : u1 = .int .u64 (nx : Int) := e1
            have e2 : u2 = .int .u64 (ny : Int) := e2
            have e3 : u3 = .int .u64 (nc : Int) := e3
            subst e1
            subst e2
            subst e3
            exact Array.ext' (by simpa using ha)
        subst h3
        unfold CallP
        rw [hP.add nx ny nc (ble_true g) w]
        have hv2 := ok_inj hv9
        refine hK _ μ w ?_ hM (Ste.refl B μ w)
        rw [← hv2]
        exact ⟨_, rfl, rfl, rfl, trivial⟩
      · cases hv'
    | false =>
      rw [hf] at hl
      cases hk : knownA kn f with
      | none =>
        rw [hk] at hl
        exact body_ok hP ih hl hF hargs hM hB hK
      | some v0 =>
        rw [hk] at hl
        cases as with
        | cons _ _ => cases hl
        | nil =>
          cases hl
          have h3 : args = #[] := by
            have : args.toList = [] := List.eq_nil_of_length_eq_zero hargs.length
            exact Array.ext' (by simpa using this)
          subst h3
          refine (hkn f v hk w).mono fun u w' ⟨h4, h5⟩ => ?_
          obtain ⟨h6, h7⟩ := hM.below h5
          exact hK u μ w' (h4 μ ρ w') h6 ⟨Mu.refl μ, h7, h5.mono hB⟩
/-- From the reckoning to the model's call, from nothing. -/
theorem isTrue_ok {r : Res (AV × Mem)} (h : isTrue r = true) : ∃ M, r = .ok (.c (.b true), M) := by
  unfold isTrue at h
  split at h
  · exact ⟨_, rfl⟩
  · cases h
theorem mr_none (ρ : Nat → Int) (w : World) : MR (fun _ => False) (fun _ => none) ρ w.heap.size w ⟨.lf, 0⟩ :=
  ⟨fun _ hb => hb.elim, fun _ _ => rfl, (fun b x hx => by cases hx), (fun b k s hk => by cases hk), (fun b x k s hx => by cases hx), (fun b b' x y k s s' hx => by cases hx)⟩
theorem calls_true {ad : Nat} {kn : Known} (hP : ProgOK P ad) (hkn : KnownOK P kn) {d f : Nat} {as : List AV} (h : isTrue (callD P F ad kn d f as ⟨.lf, 0⟩) = true) (hF : F.Sat ρ) {args : Array Value} (w : World) (hargs : All2 (AR (fun _ => none) ρ w) args.toList as) :
    CallP P f args w fun u w' => u = .bool true ∧ Below w.heap.size w w' := by
  obtain ⟨M, hM⟩ := isTrue_ok h
  exact call_ok (F := F) hP hkn d f as _ _ _ hM (fun _ => False) w.heap.size (fun _ => none) ρ w args hF hargs (mr_none ρ w) (Nat.le_refl _) _ fun u μ' w' hu _ hS => ⟨hu, hS.below⟩
end
end Go.Proofs.YtbmhamijoajnhaaGreat.E
