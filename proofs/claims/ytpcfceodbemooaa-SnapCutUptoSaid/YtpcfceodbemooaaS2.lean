/- Snap: slices.EqualFunc, lim.Same, snap.Same: walks. -/
import Derived.Test.YtpcfceodbemooaaS1
namespace Go.Proofs.Ytpcfceodbemooaa.B
open Go.RowKit Go.Proofs.YtpcfceodbemooaaW.PrintWords Go.Proofs.YtpcfceodbemooaaW.PrintLast Go.Proofs.YtpcfceodbemooaaW.PrintMore Go.Proofs.Ytpcfceodbemooaa.PSnapBytes
attribute [local go_sem] max2_int min2_int max_two min_two max_three min_three max_four min_four
set_option linter.unusedVariables false
set_option linter.unusedSimpArgs false

/-- Where a state's slices lie. -/
structure Sh where
  A1 : Option Addr
  c1 : Nat
  A2 : Option Addr
  c2 : Nat
  A3 : Option Addr
  c3 : Nat
  A4 : Option Addr
  c4 : Nat
  A5 : Option Addr
  c5 : Nat
  A6 : Option Addr
  c6 : Nat
  A7 : Option Addr
  c7 : Nat
  A8 : Option Addr
  c8 : Nat
/-- A state is read there. -/
structure RdS (w : World) (h : Sh) (s : St) : Prop where
  r1 : Kd.C (k41) w h.A1 s.accts.length s.accts
  l1 : s.accts.length ≤ h.c1
  r2 : Kd.C (Kd.slice 2 (Kd.int .i64)) w h.A2 s.bil.length s.bil
  l2 : s.bil.length ≤ h.c2
  r3 : Kd.C (Kd.int .i64) w h.A3 s.mul.length s.mul
  l3 : s.mul.length ≤ h.c3
  r4 : Kd.C (Kd.slice 2 (Kd.int .i64)) w h.A4 s.pos.length s.pos
  l4 : s.pos.length ≤ h.c4
  r5 : Kd.C (Kd.int .i64) w h.A5 s.prices.length s.prices
  l5 : s.prices.length ≤ h.c5
  r6 : Kd.C (Kd.slice 2 (Kd.int .i64)) w h.A6 s.holds.length s.holds
  l6 : s.holds.length ≤ h.c6
  r7 : Kd.C (k43) w h.A7 s.pays.length s.pays
  l7 : s.pays.length ≤ h.c7
  r8 : Kd.C (Kd.int .i64) w h.A8 s.ids.length s.ids
  l8 : s.ids.length ≤ h.c8
theorem RdS.below {w w1 : World} {h : Sh} {s : St} (x : RdS w h s) (hb : Below w.heap.size w w1) : RdS w1 h s := ⟨Kd.C_below x.r1 hb, x.l1, Kd.C_below x.r2 hb, x.l2, Kd.C_below x.r3 hb, x.l3, Kd.C_below x.r4 hb, x.l4, Kd.C_below x.r5 hb, x.l5, Kd.C_below x.r6 hb, x.l6, Kd.C_below x.r7 hb, x.l7, Kd.C_below x.r8 hb, x.l8⟩
section
variable {P : Program} {ops : Array Oper} {Q : Exit → Act → World → Prop}
/-- A call of a function value. -/
theorem goesV_ {rest : List Oper} {oi : Oper} {a : Act} {w : World} (N : Option Tmp) (hd : oi.dst = N) (hg : oi.guard = none) {f : FuncId} {fn : Func} {t : Operand} {xs : Array Operand} {ts : Array TypeId} (hf : P.funcs[f]? = some fn) (hname : (fn.name == "runtime.NumGoroutine") = false) (hb : fn.body.isSome = true) (args : Array Value)
    (hop : oi.op = .call { callee := .value t, args := xs, argTypes := ts }) (ht : a.eval t = .func (.func f) #[] #[]) (hargs : xs.map a.eval = args)
    (h : Calls P f args w fun e w' => ∃ v, e = .returned v ∧ wpList P ops Q rest (a.put N v) w') : wpList P ops Q (oi :: rest) a w := by
  refine wpList_plain hg fun K hK => ?_
  have he := enters_ hf hname hb args w
  have hrun : (execOp a.eval oi).run P w = .ok (.enter f args) w := by
    unfold execOp
    simp [hop, resolve, Deferred.ofValue, invoke, ht, hargs, he]
  unfold Oper.wp
  rw [hrun, Oper.upon_enter]
  refine h.mono fun e w'' hh => ?_
  obtain ⟨v, rfl, hk⟩ := hh
  subst hd
  exact hK _ _ hk
end
theorem drawn_below {w w' : World} (h : Drawn0 w w') : Below w.heap.size w w' := by
  obtain ⟨⟨n, rfl⟩⟩ := h
  exact pw_below_drewN (Below.refl _ _) n
theorem bk4 {w : World} {g t : Nat} {v0 v1 v2 v3 : Value} (h : w.heap[g]? = some (.cells #[v0, v1, v2, v3] t (0, 0))) : w.cell? ⟨g, 0, none⟩ = some v0 ∧ w.cell? ⟨g, 1, none⟩ = some v1 ∧ w.cell? ⟨g, 2, none⟩ = some v2 ∧ w.cell? ⟨g, 3, none⟩ = some v3 := ⟨(blk_cell h 0).trans rfl, (blk_cell h 1).trans rfl, (blk_cell h 2).trans rfl, (blk_cell h 3).trans rfl⟩
theorem bk11 {w : World} {g t : Nat} {v0 v1 v2 v3 v4 v5 v6 v7 v8 v9 v10 : Value} (h : w.heap[g]? = some (.cells #[v0, v1, v2, v3, v4, v5, v6, v7, v8, v9, v10] t (0, 0))) : w.cell? ⟨g, 0, none⟩ = some v0 ∧ w.cell? ⟨g, 1, none⟩ = some v1 ∧ w.cell? ⟨g, 2, none⟩ = some v2 ∧ w.cell? ⟨g, 3, none⟩ = some v3 ∧ w.cell? ⟨g, 4, none⟩ = some v4 ∧ w.cell? ⟨g, 5, none⟩ = some v5 ∧ w.cell? ⟨g, 6, none⟩ = some v6 ∧ w.cell? ⟨g, 7, none⟩ = some v7 ∧ w.cell? ⟨g, 8, none⟩ = some v8 ∧ w.cell? ⟨g, 9, none⟩ = some v9 ∧ w.cell? ⟨g, 10, none⟩ = some v10 := ⟨(blk_cell h 0).trans rfl, (blk_cell h 1).trans rfl, (blk_cell h 2).trans rfl, (blk_cell h 3).trans rfl, (blk_cell h 4).trans rfl, (blk_cell h 5).trans rfl, (blk_cell h 6).trans rfl, (blk_cell h 7).trans rfl, (blk_cell h 8).trans rfl, (blk_cell h 9).trans rfl, (blk_cell h 10).trans rfl⟩
theorem cSl (A0 : Option Addr) (c0 : Nat) (a : List Int) (A1 : Option Addr) (c1 : Nat) (b : List Int) (w : World) (h0 : Kd.C (Kd.int .i64) w A0 a.length a) (l0 : a.length ≤ c0) (h1 : Kd.C (Kd.int .i64) w A1 b.length b) (l1 : b.length ≤ c1) (hM : a.length ≤ 9223372036854775807) :
    Calls Try.prog 27 #[.slice A0 a.length c0, .slice A1 b.length c1] w fun e w' => e = .returned (.bool (decide (a = b))) ∧ Below w.heap.size w w' :=
  (slices_Equal_int64_int64.calls (a.length + 1) A0 c0 a A1 c1 b _ w h0 l0 h1 l1 (sl_f a b hM _ (Nat.lt_succ_self _))).mono fun e w' h => ⟨h.1, drawn_below h.2⟩
theorem cAc (A0 : Option Addr) (c0 : Nat) (a : List S41) (A1 : Option Addr) (c1 : Nat) (b : List S41) (w : World) (h0 : Kd.C k41 w A0 a.length a) (l0 : a.length ≤ c0) (h1 : Kd.C k41 w A1 b.length b) (l1 : b.length ≤ c1) (hM : a.length ≤ 9223372036854775807) :
    Calls Try.prog 37 #[.slice A0 a.length c0, .slice A1 b.length c1] w fun e w' => e = .returned (.bool (decide (a = b))) ∧ Below w.heap.size w w' :=
  (api_Acct.calls (a.length + 1) A0 c0 a A1 c1 b _ w h0 l0 h1 l1 (ac_f a b hM _ (Nat.lt_succ_self _))).mono fun e w' h => ⟨h.1, drawn_below h.2⟩
theorem cPy (A0 : Option Addr) (c0 : Nat) (a : List S43) (A1 : Option Addr) (c1 : Nat) (b : List S43) (w : World) (h0 : Kd.C k43 w A0 a.length a) (l0 : a.length ≤ c0) (h1 : Kd.C k43 w A1 b.length b) (l1 : b.length ≤ c1) (hM : a.length ≤ 9223372036854775807) :
    Calls Try.prog 30 #[.slice A0 a.length c0, .slice A1 b.length c1] w fun e w' => e = .returned (.bool (decide (a = b))) ∧ Below w.heap.size w w' :=
  (api_Pay.calls (a.length + 1) A0 c0 a A1 c1 b _ w h0 l0 h1 l1 (py_f a b hM _ (Nat.lt_succ_self _))).mono fun e w' h => ⟨h.1, drawn_below h.2⟩

set_option maxHeartbeats 4000000 in
theorem cEq (A0 : Option Addr) (c0 : Nat) (a : List (List Int)) (A1 : Option Addr) (c1 : Nat) (b : List (List Int)) (M : Nat) (w : World) (h0 : Kd.C (Kd.slice 2 (Kd.int .i64)) w A0 a.length a) (l0 : a.length ≤ c0) (h1 : Kd.C (Kd.slice 2 (Kd.int .i64)) w A1 b.length b) (l1 : b.length ≤ c1) (hM : M ≤ 9223372036854775807) (hal : a.length ≤ M) (har : ∀ r ∈ a, r.length ≤ M) :
    Calls Try.prog 28 #[.slice A0 a.length c0, .slice A1 b.length c1, .func (.func 27) #[] #[]] w fun e w' => e = .returned (.bool (decide (a = b))) ∧ Below w.heap.size w w' := by
  have H0 := Aside0.mk h0
  have H1 := Aside0.mk h1
  have HR := Aside0.mk har
  have HMM := Aside0.mk hM
  clear h0 h1 har hM
  have HB := Aside0.mk (Below.refl w.heap.size w)
  by_cases c3 : a.length = b.length
  · have C3 := Aside0.mk c3
    have c3b1 : ((a.length : Int) != (b.length : Int)) = false := by rw [c3]; simp
    clear c3
    go_enter Try.func28, Try.ntmps28
    go_wp2
    go_loopg [17] a.length (fun kq v17 w' => ∃ i : Nat, v17 = .int .i64 (i : Int) ∧ i ≤ a.length ∧ Aside0 (kq + i = a.length) ∧ Aside0 (decide (a = b) = decide (a.drop i = b.drop i)) ∧ Aside0 (Below w.heap.size w w'))
    case atStart => exact ⟨0, rfl, Nat.zero_le _, ⟨rfl⟩, ⟨by simp⟩, HB⟩
    case round =>
      clear HB
      obtain ⟨i, rfl, hi, HK, HT, HB⟩ := hrel
      by_cases c4 : i < a.length
      · have c5 : i < b.length := by have := C3.out; omega
        obtain ⟨ad0, A2, c2, e0, hx0, hl2, hC2⟩ := at_L2 (Kd.C_below H0.out HB.out) i (by omega) (by exact_mod_cast c4)
        cases e0
        obtain ⟨ad1, A3, c3, e1, hx1, hl3, hC3⟩ := at_L2 (Kd.C_below H1.out HB.out) i (by omega) (by exact_mod_cast c5)
        cases e1
        rw [Int.toNat_natCast] at hx0 hx1
        have HC2 := Aside0.mk hC2
        have HC3 := Aside0.mk hC3
        have hwr : wrap64 ((i : Int) + 1) = ((i + 1 : Nat) : Int) := wrap_s i (by have := HMM.out; omega)
        have c4b : decide ((i : Int) < (a.length : Int)) = true := decide_eq_true (by exact_mod_cast c4)
        have c5b : decide ((i : Int) < (b.length : Int)) = true := decide_eq_true (by exact_mod_cast c5)
        have er : ∀ x : List (List Int), rd_L2 x i = x.getD i [] := fun x => by unfold rd_L2; rw [Int.toNat_natCast]
        have hlr : (rd_L2 a i).length ≤ M := by
          rw [er, List.getD_eq_getElem?_getD, List.getElem?_eq_getElem c4]
          exact HR.out _ (List.getElem_mem _)
        have hdr := drop_step ([] : List Int) C3.out c4
        rw [← er, ← er] at hdr
        generalize rd_L2 a i = x at *
        generalize rd_L2 b i = y at *
        have HD := Aside0.mk (HT.out.trans hdr)
        clear hdr HT er hC2 hC3
        by_cases c7 : x = y
        · have hd : decide (x = y) = true := decide_eq_true c7
          rw [hd, Bool.true_and] at HD
          clear c7
          go_wp2_with (first | (go_at_call 27; refine (cSl A2 c2 x A3 c3 y _ HC2.out hl2 HC3.out hl3 (by have := HMM.out; omega)).mono ?_; rintro e w2 ⟨rfl, hbl⟩; rw [hd]; have HB2 := Aside0.mk (below_step HB.out hbl); clear HB hbl; have HB := HB2; clear HB2))
          go_roundg (a.length - (i + 1))
          case measure => have := HK.out; omega
          case rel => exact ⟨i + 1, by first | rw [hwr] | (simp only [hwr]; done) | (rw [hwr]; push_cast; rfl) | go_num, by omega, ⟨by omega⟩, HD, HB⟩
        · have hd : decide (x = y) = false := decide_eq_false c7
          rw [hd, Bool.false_and] at HD
          clear c7
          go_wp2_with (first | (go_at_call 27; refine (cSl A2 c2 x A3 c3 y _ HC2.out hl2 HC3.out hl3 (by have := HMM.out; omega)).mono ?_; rintro e w2 ⟨rfl, hbl⟩; rw [hd]; have HB2 := Aside0.mk (below_step HB.out hbl); clear HB hbl; have HB := HB2; clear HB2))
          go_ret
          exact ⟨by rw [HD.out]; rfl, HB.out⟩
      · have hd := drop_end C3.out (show a.length ≤ i by omega)
        have c4b : decide ((i : Int) < (a.length : Int)) = false := decide_eq_false (by omega)
        go_wp2
        go_ret
        exact ⟨by rw [HT.out, hd]; rfl, HB.out⟩
  · have hd : decide (a = b) = false := decide_eq_false (fun h => c3 (by rw [h]))
    have c3b1 : ((a.length : Int) != (b.length : Int)) = true := by rw [bne_iff_ne]; omega
    clear c3
    go_enter Try.func28, Try.ntmps28
    go_wp2
    go_ret
    exact ⟨by rw [hd]; rfl, HB.out⟩


/-- Are the books one? -/
def eqBk (a b : St) : Bool := decide (a.accts = b.accts) && decide (a.bil = b.bil) && decide (a.mul = b.mul) && decide (a.pos = b.pos)
set_option maxHeartbeats 4000000 in
theorem limSame (ha hb : Sh) (a b : St) (M : Nat) (w : World) (ra : RdS w ha a) (rb : RdS w hb b) (hM : M ≤ 9223372036854775807) (hBd : a.Bd M) :
    Calls Try.prog 29 #[.agg #[.slice ha.A1 a.accts.length ha.c1, .slice ha.A2 a.bil.length ha.c2, .slice ha.A3 a.mul.length ha.c3, .slice ha.A4 a.pos.length ha.c4], .agg #[.slice hb.A1 b.accts.length hb.c1, .slice hb.A2 b.bil.length hb.c2, .slice hb.A3 b.mul.length hb.c3, .slice hb.A4 b.pos.length hb.c4]] w fun e w' => e = .returned (.bool (eqBk a b)) ∧ Below w.heap.size w w' := by
  have RA := Aside0.mk ra
  have RB := Aside0.mk rb
  replace hBd := Aside0.mk hBd
  have HMM := Aside0.mk hM
  have HB := Aside0.mk (Below.refl w.heap.size w)
  clear ra rb hM
  obtain ⟨r, hr⟩ : ∃ r, eqBk a b = r := ⟨_, rfl⟩
  have HE := Aside0.mk hr
  rw [hr]
  clear hr
  unfold eqBk at HE
  generalize q1 : decide (a.accts = b.accts) = e1 at HE
  generalize q2 : decide (a.bil = b.bil) = e2 at HE
  generalize q3 : decide (a.mul = b.mul) = e3 at HE
  generalize q4 : decide (a.pos = b.pos) = e4 at HE
  have Q1 := Aside0.mk q1
  have Q2 := Aside0.mk q2
  have Q3 := Aside0.mk q3
  have Q4 := Aside0.mk q4
  clear q1 q2 q3 q4
  have hsplit : e1 = false ∨ (e1 = true ∧ e2 = false) ∨ (e1 = true ∧ e2 = true ∧ e3 = false) ∨ (e1 = true ∧ e2 = true ∧ e3 = true) := by cases e1 <;> cases e2 <;> cases e3 <;> simp
  rcases hsplit with rfl | ⟨rfl, rfl⟩ | ⟨rfl, rfl, rfl⟩ | ⟨rfl, rfl, rfl⟩
  all_goals (
    go_enter Try.func29, Try.ntmps29
    go_wp2_with (first | ((with_reducible refine gate_dst (N := 2) rfl ?_); refine box_event (by rfl) (N := 2) (by rfl) (cs := #[.slice ha.A1 a.accts.length ha.c1, .slice ha.A2 a.bil.length ha.c2, .slice ha.A3 a.mul.length ha.c3, .slice ha.A4 a.pos.length ha.c4]) (t := 26) (by first | (go_simp; done) | (go_simp; rfl)) ?_; intro ga hg_ wa hbk hb; clear hg_; have BA := Aside0.mk hbk; have HB_ := Aside0.mk (below_step HB.out hb); have RA_ := Aside0.mk (RA.out.below hb); have RB_ := Aside0.mk (RB.out.below hb); clear HB RA RB hbk hb; have HB := HB_; have RA := RA_; have RB := RB_; clear HB_ RA_ RB_) | ((with_reducible refine gate_dst (N := 3) rfl ?_); refine box_event (by rfl) (N := 3) (by rfl) (cs := #[.slice hb.A1 b.accts.length hb.c1, .slice hb.A2 b.bil.length hb.c2, .slice hb.A3 b.mul.length hb.c3, .slice hb.A4 b.pos.length hb.c4]) (t := 26) (by first | (go_simp; done) | (go_simp; rfl)) ?_; intro gb hg_ wb hbk hb; clear hg_; have BB := Aside0.mk hbk; have BA_ := Aside0.mk (blk_below BA.out hb); have HB_ := Aside0.mk (below_step HB.out hb); have RA_ := Aside0.mk (RA.out.below hb); have RB_ := Aside0.mk (RB.out.below hb); clear HB RA RB BA hbk hb; have HB := HB_; have RA := RA_; have RB := RB_; have BA := BA_; clear HB_ RA_ RB_ BA_; obtain ⟨za0, za1, za2, za3⟩ := bk4 BA.out; obtain ⟨zb0, zb1, zb2, zb3⟩ := bk4 BB.out) | ((with_reducible refine gate_dst (N := 9) rfl ?_); (try (refine gate_guard (by rfl) ?_; dsimp only)); refine goesL_ (some 9) rfl rfl Try.func37 (by kernel_rfl) rfl #[.slice ha.A1 a.accts.length ha.c1, .slice hb.A1 b.accts.length hb.c1] rfl (by (try simp only [List.map_toArray, List.map_cons, List.map_nil]); first | done | rfl | (simp only [List.length_drop, List.length_take]; rfl)) ?_; refine (cAc _ _ a.accts _ _ b.accts _ RA.out.r1 RA.out.l1 RB.out.r1 RB.out.l1 (by have := hBd.out.accts; have := HMM.out; omega)).mono ?_; rintro e w9 ⟨rfl, hbl⟩; refine ⟨_, rfl, ?_⟩; have HB_ := Aside0.mk (below_step HB.out hbl); have RA_ := Aside0.mk (RA.out.below hbl); have RB_ := Aside0.mk (RB.out.below hbl); clear HB RA RB; have HB := HB_; have RA := RA_; have RB := RB_; clear HB_ RA_ RB_; rw [Q1.out]; have BA_ := Aside0.mk (blk_below BA.out hbl); clear BA za0 za1 za2 za3; have BA := BA_; clear BA_; obtain ⟨za0, za1, za2, za3⟩ := bk4 BA.out; have BB_ := Aside0.mk (blk_below BB.out hbl); clear BB zb0 zb1 zb2 zb3; have BB := BB_; clear BB_; obtain ⟨zb0, zb1, zb2, zb3⟩ := bk4 BB.out; clear hbl) | ((with_reducible refine gate_dst (N := 15) rfl ?_); (try (refine gate_guard (by rfl) ?_; dsimp only)); refine goesL_ (some 15) rfl rfl Try.func28 (by kernel_rfl) rfl #[.slice ha.A2 a.bil.length ha.c2, .slice hb.A2 b.bil.length hb.c2, .func (.func 27) #[] #[]] rfl (by (try simp only [List.map_toArray, List.map_cons, List.map_nil]); first | done | rfl | (simp only [List.length_drop, List.length_take]; rfl)) ?_; refine (cEq _ _ a.bil _ _ b.bil M _ RA.out.r2 RA.out.l2 RB.out.r2 RB.out.l2 HMM.out hBd.out.bil hBd.out.bils).mono ?_; rintro e w15 ⟨rfl, hbl⟩; refine ⟨_, rfl, ?_⟩; have HB_ := Aside0.mk (below_step HB.out hbl); have RA_ := Aside0.mk (RA.out.below hbl); have RB_ := Aside0.mk (RB.out.below hbl); clear HB RA RB; have HB := HB_; have RA := RA_; have RB := RB_; clear HB_ RA_ RB_; rw [Q2.out]; have BA_ := Aside0.mk (blk_below BA.out hbl); clear BA za0 za1 za2 za3; have BA := BA_; clear BA_; obtain ⟨za0, za1, za2, za3⟩ := bk4 BA.out; have BB_ := Aside0.mk (blk_below BB.out hbl); clear BB zb0 zb1 zb2 zb3; have BB := BB_; clear BB_; obtain ⟨zb0, zb1, zb2, zb3⟩ := bk4 BB.out; clear hbl) | ((with_reducible refine gate_dst (N := 22) rfl ?_); (try (refine gate_guard (by rfl) ?_; dsimp only)); refine goesL_ (some 22) rfl rfl Try.func27 (by kernel_rfl) rfl #[.slice ha.A3 a.mul.length ha.c3, .slice hb.A3 b.mul.length hb.c3] rfl (by (try simp only [List.map_toArray, List.map_cons, List.map_nil]); first | done | rfl | (simp only [List.length_drop, List.length_take]; rfl)) ?_; refine (cSl _ _ a.mul _ _ b.mul _ RA.out.r3 RA.out.l3 RB.out.r3 RB.out.l3 (by have := hBd.out.mul; have := HMM.out; omega)).mono ?_; rintro e w22 ⟨rfl, hbl⟩; refine ⟨_, rfl, ?_⟩; have HB_ := Aside0.mk (below_step HB.out hbl); have RA_ := Aside0.mk (RA.out.below hbl); have RB_ := Aside0.mk (RB.out.below hbl); clear HB RA RB; have HB := HB_; have RA := RA_; have RB := RB_; clear HB_ RA_ RB_; rw [Q3.out]; have BA_ := Aside0.mk (blk_below BA.out hbl); clear BA za0 za1 za2 za3; have BA := BA_; clear BA_; obtain ⟨za0, za1, za2, za3⟩ := bk4 BA.out; have BB_ := Aside0.mk (blk_below BB.out hbl); clear BB zb0 zb1 zb2 zb3; have BB := BB_; clear BB_; obtain ⟨zb0, zb1, zb2, zb3⟩ := bk4 BB.out; clear hbl) | ((with_reducible refine gate_dst (N := 29) rfl ?_); (try (refine gate_guard (by rfl) ?_; dsimp only)); refine goesL_ (some 29) rfl rfl Try.func28 (by kernel_rfl) rfl #[.slice ha.A4 a.pos.length ha.c4, .slice hb.A4 b.pos.length hb.c4, .func (.func 27) #[] #[]] rfl (by (try simp only [List.map_toArray, List.map_cons, List.map_nil]); first | done | rfl | (simp only [List.length_drop, List.length_take]; rfl)) ?_; refine (cEq _ _ a.pos _ _ b.pos M _ RA.out.r4 RA.out.l4 RB.out.r4 RB.out.l4 HMM.out hBd.out.pos hBd.out.poss).mono ?_; rintro e w29 ⟨rfl, hbl⟩; refine ⟨_, rfl, ?_⟩; have HB_ := Aside0.mk (below_step HB.out hbl); have RA_ := Aside0.mk (RA.out.below hbl); have RB_ := Aside0.mk (RB.out.below hbl); clear HB RA RB; have HB := HB_; have RA := RA_; have RB := RB_; clear HB_ RA_ RB_; rw [Q4.out]; have BA_ := Aside0.mk (blk_below BA.out hbl); clear BA za0 za1 za2 za3; have BA := BA_; clear BA_; obtain ⟨za0, za1, za2, za3⟩ := bk4 BA.out; have BB_ := Aside0.mk (blk_below BB.out hbl); clear BB zb0 zb1 zb2 zb3; have BB := BB_; clear BB_; obtain ⟨zb0, zb1, zb2, zb3⟩ := bk4 BB.out; clear hbl))
    go_ret
    exact ⟨by rw [← HE.out]; rfl, HB.out⟩)


/-- Are two states one? -/
def eqS (a b : St) : Bool := (((a.tick == b.tick) && (a.total == b.total)) && (a.over == b.over)) && (decide (a.prices = b.prices) && decide (a.holds = b.holds)) && eqBk a b && decide (a.pays = b.pays) && decide (a.ids = b.ids)
theorem eqS_eq (a b : St) : eqS a b = decide (a = b) := by
  have hd : decide (a = b) = decide (a.tick = b.tick ∧ a.accts = b.accts ∧ a.bil = b.bil ∧ a.mul = b.mul ∧ a.pos = b.pos ∧ a.prices = b.prices ∧ a.holds = b.holds ∧ a.pays = b.pays ∧ a.ids = b.ids ∧ a.total = b.total ∧ a.over = b.over) := by
    rw [Bool.eq_iff_iff, decide_eq_true_iff, decide_eq_true_iff]; cases a; cases b; simp
  rw [hd, Bool.eq_iff_iff, decide_eq_true_iff]
  unfold eqS eqBk
  simp only [Bool.and_eq_true, beq_iff_eq, decide_eq_true_iff]
  exact ⟨fun ⟨⟨⟨⟨⟨⟨h1, h2⟩, h3⟩, h4, h5⟩, ⟨⟨h6, h7⟩, h8⟩, h9⟩, h10⟩, h11⟩ => ⟨h1, h6, h7, h8, h9, h4, h5, h10, h11, h2, h3⟩, fun ⟨h1, h6, h7, h8, h9, h4, h5, h10, h11, h2, h3⟩ => ⟨⟨⟨⟨⟨⟨h1, h2⟩, h3⟩, h4, h5⟩, ⟨⟨h6, h7⟩, h8⟩, h9⟩, h10⟩, h11⟩⟩
set_option maxHeartbeats 8000000 in
set_option maxRecDepth 100000 in
theorem snapSame (ha hb : Sh) (a b : St) (M : Nat) (w : World) (ra : RdS w ha a) (rb : RdS w hb b) (hM : M ≤ 9223372036854775807) (hBd : a.Bd M) :
    Calls Try.prog 12 #[.agg #[.int .i64 a.tick, .slice ha.A1 a.accts.length ha.c1, .slice ha.A2 a.bil.length ha.c2, .slice ha.A3 a.mul.length ha.c3, .slice ha.A4 a.pos.length ha.c4, .slice ha.A5 a.prices.length ha.c5, .slice ha.A6 a.holds.length ha.c6, .slice ha.A7 a.pays.length ha.c7, .slice ha.A8 a.ids.length ha.c8, .int .i64 a.total, .bool a.over], .agg #[.int .i64 b.tick, .slice hb.A1 b.accts.length hb.c1, .slice hb.A2 b.bil.length hb.c2, .slice hb.A3 b.mul.length hb.c3, .slice hb.A4 b.pos.length hb.c4, .slice hb.A5 b.prices.length hb.c5, .slice hb.A6 b.holds.length hb.c6, .slice hb.A7 b.pays.length hb.c7, .slice hb.A8 b.ids.length hb.c8, .int .i64 b.total, .bool b.over]] w fun e w' => e = .returned (.bool (decide (a = b))) ∧ Below w.heap.size w w' := by
  have hu26 := Try.underlying26
  rw [← eqS_eq]
  have RA := Aside0.mk ra
  have RB := Aside0.mk rb
  replace hBd := Aside0.mk hBd
  have HMM := Aside0.mk hM
  have HB := Aside0.mk (Below.refl w.heap.size w)
  clear ra rb hM
  obtain ⟨r, hr⟩ : ∃ r, eqS a b = r := ⟨_, rfl⟩
  have HE := Aside0.mk hr
  rw [hr]
  clear hr
  unfold eqS at HE
  generalize q4 : decide (a.prices = b.prices) = e4 at HE
  generalize q5 : decide (a.holds = b.holds) = e5 at HE
  generalize q6 : eqBk a b = e6 at HE
  generalize q7 : decide (a.pays = b.pays) = e7 at HE
  generalize q8 : decide (a.ids = b.ids) = e8 at HE
  have Q4 := Aside0.mk q4
  have Q5 := Aside0.mk q5
  have Q6 := Aside0.mk q6
  have Q7 := Aside0.mk q7
  have Q8 := Aside0.mk q8
  clear q4 q5 q6 q7 q8
  generalize q1 : (a.tick == b.tick) = e1 at HE
  generalize q2 : (a.total == b.total) = e2 at HE
  generalize q3 : (a.over == b.over) = e3 at HE
  have hsplit : (e1 = false ∨ (e1 = true ∧ e2 = false) ∨ (e1 = true ∧ e2 = true ∧ e3 = false) ∨ (e1 = true ∧ e2 = true ∧ e3 = true)) ∧ (e4 = false ∨ (e4 = true ∧ e5 = false) ∨ (e4 = true ∧ e5 = true)) := by cases e1 <;> cases e2 <;> cases e3 <;> cases e4 <;> cases e5 <;> simp
  have hsplit2 : (e6 = false ∨ (e6 = true ∧ e7 = false) ∨ (e6 = true ∧ e7 = true)) := by cases e6 <;> cases e7 <;> simp
  obtain ⟨hA, hB⟩ := hsplit
  rcases hA with rfl | ⟨rfl, rfl⟩ | ⟨rfl, rfl, rfl⟩ | ⟨rfl, rfl, rfl⟩ <;> rcases hB with rfl | ⟨rfl, rfl⟩ | ⟨rfl, rfl⟩
  case' inr.inr.inr.inr.inr => rcases hsplit2 with rfl | ⟨rfl, rfl⟩ | ⟨rfl, rfl⟩
  all_goals (
    go_enter Try.func12, Try.ntmps12
    go_wp2_with (first | ((with_reducible refine gate_dst (N := 2) rfl ?_); refine box_event (by rfl) (N := 2) (by rfl) (cs := #[.int .i64 a.tick, .slice ha.A1 a.accts.length ha.c1, .slice ha.A2 a.bil.length ha.c2, .slice ha.A3 a.mul.length ha.c3, .slice ha.A4 a.pos.length ha.c4, .slice ha.A5 a.prices.length ha.c5, .slice ha.A6 a.holds.length ha.c6, .slice ha.A7 a.pays.length ha.c7, .slice ha.A8 a.ids.length ha.c8, .int .i64 a.total, .bool a.over]) (t := 29) (by first | (go_simp; done) | (go_simp; rfl)) ?_; intro ga hg_ wa hbk hb; clear hg_; have BA := Aside0.mk hbk; have HB_ := Aside0.mk (below_step HB.out hb); have RA_ := Aside0.mk (RA.out.below hb); have RB_ := Aside0.mk (RB.out.below hb); clear HB RA RB hbk hb; have HB := HB_; have RA := RA_; have RB := RB_; clear HB_ RA_ RB_) | ((with_reducible refine gate_dst (N := 3) rfl ?_); refine box_event (by rfl) (N := 3) (by rfl) (cs := #[.int .i64 b.tick, .slice hb.A1 b.accts.length hb.c1, .slice hb.A2 b.bil.length hb.c2, .slice hb.A3 b.mul.length hb.c3, .slice hb.A4 b.pos.length hb.c4, .slice hb.A5 b.prices.length hb.c5, .slice hb.A6 b.holds.length hb.c6, .slice hb.A7 b.pays.length hb.c7, .slice hb.A8 b.ids.length hb.c8, .int .i64 b.total, .bool b.over]) (t := 29) (by first | (go_simp; done) | (go_simp; rfl)) ?_; intro gb hg_ wb hbk hb; clear hg_; have BB := Aside0.mk hbk; have BA_ := Aside0.mk (blk_below BA.out hb); have HB_ := Aside0.mk (below_step HB.out hb); have RA_ := Aside0.mk (RA.out.below hb); have RB_ := Aside0.mk (RB.out.below hb); clear HB RA RB BA hbk hb; have HB := HB_; have RA := RA_; have RB := RB_; have BA := BA_; clear HB_ RA_ RB_ BA_; obtain ⟨za0, za1, za2, za3, za4, za5, za6, za7, za8, za9, za10⟩ := bk11 BA.out; obtain ⟨zb0, zb1, zb2, zb3, zb4, zb5, zb6, zb7, zb8, zb9, zb10⟩ := bk11 BB.out) | ((with_reducible refine gate_dst (N := 30) rfl ?_); (try (refine gate_guard (by rfl) ?_; dsimp only)); refine goesL_ (some 30) rfl rfl Try.func27 (by kernel_rfl) rfl #[.slice ha.A5 a.prices.length ha.c5, .slice hb.A5 b.prices.length hb.c5] rfl (by (try simp only [List.map_toArray, List.map_cons, List.map_nil]); first | done | rfl | (simp only [List.length_drop, List.length_take]; rfl)) ?_; refine (cSl _ _ a.prices _ _ b.prices _ RA.out.r5 RA.out.l5 RB.out.r5 RB.out.l5 (by have := hBd.out.prices; have := HMM.out; omega)).mono ?_; rintro e w30 ⟨rfl, hbl⟩; refine ⟨_, rfl, ?_⟩; have HB_ := Aside0.mk (below_step HB.out hbl); have RA_ := Aside0.mk (RA.out.below hbl); have RB_ := Aside0.mk (RB.out.below hbl); clear HB RA RB; have HB := HB_; have RA := RA_; have RB := RB_; clear HB_ RA_ RB_; rw [Q4.out]; have BA_ := Aside0.mk (blk_below BA.out hbl); clear BA za0 za1 za2 za3 za4 za5 za6 za7 za8 za9 za10; have BA := BA_; clear BA_; obtain ⟨za0, za1, za2, za3, za4, za5, za6, za7, za8, za9, za10⟩ := bk11 BA.out; have BB_ := Aside0.mk (blk_below BB.out hbl); clear BB zb0 zb1 zb2 zb3 zb4 zb5 zb6 zb7 zb8 zb9 zb10; have BB := BB_; clear BB_; obtain ⟨zb0, zb1, zb2, zb3, zb4, zb5, zb6, zb7, zb8, zb9, zb10⟩ := bk11 BB.out; clear hbl) | ((with_reducible refine gate_dst (N := 36) rfl ?_); (try (refine gate_guard (by rfl) ?_; dsimp only)); refine goesL_ (some 36) rfl rfl Try.func28 (by kernel_rfl) rfl #[.slice ha.A6 a.holds.length ha.c6, .slice hb.A6 b.holds.length hb.c6, .func (.func 27) #[] #[]] rfl (by (try simp only [List.map_toArray, List.map_cons, List.map_nil]); first | done | rfl | (simp only [List.length_drop, List.length_take]; rfl)) ?_; refine (cEq _ _ a.holds _ _ b.holds M _ RA.out.r6 RA.out.l6 RB.out.r6 RB.out.l6 HMM.out hBd.out.holds hBd.out.holdss).mono ?_; rintro e w36 ⟨rfl, hbl⟩; refine ⟨_, rfl, ?_⟩; have HB_ := Aside0.mk (below_step HB.out hbl); have RA_ := Aside0.mk (RA.out.below hbl); have RB_ := Aside0.mk (RB.out.below hbl); clear HB RA RB; have HB := HB_; have RA := RA_; have RB := RB_; clear HB_ RA_ RB_; rw [Q5.out]; have BA_ := Aside0.mk (blk_below BA.out hbl); clear BA za0 za1 za2 za3 za4 za5 za6 za7 za8 za9 za10; have BA := BA_; clear BA_; obtain ⟨za0, za1, za2, za3, za4, za5, za6, za7, za8, za9, za10⟩ := bk11 BA.out; have BB_ := Aside0.mk (blk_below BB.out hbl); clear BB zb0 zb1 zb2 zb3 zb4 zb5 zb6 zb7 zb8 zb9 zb10; have BB := BB_; clear BB_; obtain ⟨zb0, zb1, zb2, zb3, zb4, zb5, zb6, zb7, zb8, zb9, zb10⟩ := bk11 BB.out; clear hbl) | ((with_reducible refine gate_dst (N := 47) rfl ?_); (try (refine gate_guard (by rfl) ?_; dsimp only)); refine goesL_ (some 47) rfl rfl Try.func29 (by kernel_rfl) rfl #[.agg #[.slice ha.A1 a.accts.length ha.c1, .slice ha.A2 a.bil.length ha.c2, .slice ha.A3 a.mul.length ha.c3, .slice ha.A4 a.pos.length ha.c4], .agg #[.slice hb.A1 b.accts.length hb.c1, .slice hb.A2 b.bil.length hb.c2, .slice hb.A3 b.mul.length hb.c3, .slice hb.A4 b.pos.length hb.c4]] rfl (by (try simp only [List.map_toArray, List.map_cons, List.map_nil]); first | done | rfl | (simp only [List.length_drop, List.length_take]; rfl)) ?_; refine (limSame ha hb a b M _ RA.out RB.out HMM.out hBd.out).mono ?_; rintro e w47 ⟨rfl, hbl⟩; refine ⟨_, rfl, ?_⟩; have HB_ := Aside0.mk (below_step HB.out hbl); have RA_ := Aside0.mk (RA.out.below hbl); have RB_ := Aside0.mk (RB.out.below hbl); clear HB RA RB; have HB := HB_; have RA := RA_; have RB := RB_; clear HB_ RA_ RB_; rw [Q6.out]; have BA_ := Aside0.mk (blk_below BA.out hbl); clear BA za0 za1 za2 za3 za4 za5 za6 za7 za8 za9 za10; have BA := BA_; clear BA_; obtain ⟨za0, za1, za2, za3, za4, za5, za6, za7, za8, za9, za10⟩ := bk11 BA.out; have BB_ := Aside0.mk (blk_below BB.out hbl); clear BB zb0 zb1 zb2 zb3 zb4 zb5 zb6 zb7 zb8 zb9 zb10; have BB := BB_; clear BB_; obtain ⟨zb0, zb1, zb2, zb3, zb4, zb5, zb6, zb7, zb8, zb9, zb10⟩ := bk11 BB.out; clear hbl) | ((with_reducible refine gate_dst (N := 54) rfl ?_); (try (refine gate_guard (by rfl) ?_; dsimp only)); refine goesL_ (some 54) rfl rfl Try.func30 (by kernel_rfl) rfl #[.slice ha.A7 a.pays.length ha.c7, .slice hb.A7 b.pays.length hb.c7] rfl (by (try simp only [List.map_toArray, List.map_cons, List.map_nil]); first | done | rfl | (simp only [List.length_drop, List.length_take]; rfl)) ?_; refine (cPy _ _ a.pays _ _ b.pays _ RA.out.r7 RA.out.l7 RB.out.r7 RB.out.l7 (by have := hBd.out.pays; have := HMM.out; omega)).mono ?_; rintro e w54 ⟨rfl, hbl⟩; refine ⟨_, rfl, ?_⟩; have HB_ := Aside0.mk (below_step HB.out hbl); have RA_ := Aside0.mk (RA.out.below hbl); have RB_ := Aside0.mk (RB.out.below hbl); clear HB RA RB; have HB := HB_; have RA := RA_; have RB := RB_; clear HB_ RA_ RB_; rw [Q7.out]; have BA_ := Aside0.mk (blk_below BA.out hbl); clear BA za0 za1 za2 za3 za4 za5 za6 za7 za8 za9 za10; have BA := BA_; clear BA_; obtain ⟨za0, za1, za2, za3, za4, za5, za6, za7, za8, za9, za10⟩ := bk11 BA.out; have BB_ := Aside0.mk (blk_below BB.out hbl); clear BB zb0 zb1 zb2 zb3 zb4 zb5 zb6 zb7 zb8 zb9 zb10; have BB := BB_; clear BB_; obtain ⟨zb0, zb1, zb2, zb3, zb4, zb5, zb6, zb7, zb8, zb9, zb10⟩ := bk11 BB.out; clear hbl) | ((with_reducible refine gate_dst (N := 61) rfl ?_); (try (refine gate_guard (by rfl) ?_; dsimp only)); refine goesL_ (some 61) rfl rfl Try.func27 (by kernel_rfl) rfl #[.slice ha.A8 a.ids.length ha.c8, .slice hb.A8 b.ids.length hb.c8] rfl (by (try simp only [List.map_toArray, List.map_cons, List.map_nil]); first | done | rfl | (simp only [List.length_drop, List.length_take]; rfl)) ?_; refine (cSl _ _ a.ids _ _ b.ids _ RA.out.r8 RA.out.l8 RB.out.r8 RB.out.l8 (by have := hBd.out.ids; have := HMM.out; omega)).mono ?_; rintro e w61 ⟨rfl, hbl⟩; refine ⟨_, rfl, ?_⟩; have HB_ := Aside0.mk (below_step HB.out hbl); have RA_ := Aside0.mk (RA.out.below hbl); have RB_ := Aside0.mk (RB.out.below hbl); clear HB RA RB; have HB := HB_; have RA := RA_; have RB := RB_; clear HB_ RA_ RB_; rw [Q8.out]; have BA_ := Aside0.mk (blk_below BA.out hbl); clear BA za0 za1 za2 za3 za4 za5 za6 za7 za8 za9 za10; have BA := BA_; clear BA_; obtain ⟨za0, za1, za2, za3, za4, za5, za6, za7, za8, za9, za10⟩ := bk11 BA.out; have BB_ := Aside0.mk (blk_below BB.out hbl); clear BB zb0 zb1 zb2 zb3 zb4 zb5 zb6 zb7 zb8 zb9 zb10; have BB := BB_; clear BB_; obtain ⟨zb0, zb1, zb2, zb3, zb4, zb5, zb6, zb7, zb8, zb9, zb10⟩ := bk11 BB.out; clear hbl))
    go_ret
    exact ⟨by rw [← HE.out]; rfl, HB.out⟩)
end Go.Proofs.Ytpcfceodbemooaa.B
