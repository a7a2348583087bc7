/- girolaw3.MsgNumbers: the walk. -/
import Derived.Test.YtoljpojpncjmoaaMsgE
namespace Go.Proofs.Ytoljpojpncjmoaa.B
open Go.RowKit Go.Proofs.YtoljpojpncjmoaaW.PrintWords Go.Proofs.YtoljpojpncjmoaaW.PrintLast Go.Proofs.YtoljpojpncjmoaaW.PrintMore
attribute [local go_sem] max2_int min2_int max_two min_two max_three min_three max_four min_four
set_option linter.unusedVariables false
set_option linter.unusedSimpArgs false

theorem cstr3 {W : World} {A : Option Addr} {c : Nat} {x : List Int} (h : Kd.C (Kd.int .u8) W A x.length x) : (convert 22 9 (.slice A x.length c)).run Try.prog W = .ok (.string (strOfNums x)) W := Kd.C_string (P := Try.prog) (c := c) Try.underlying22 Try.underlying5 Try.underlying9 h
theorem lit_byte (n : Int) : Reps (fun (x : Int) (cs : List Value) => cs = [Value.int .u8 x]) 1 [n] [.int .u8 n] := (Reps.none _ _).snoc (cs := []) (ps := []) rfl rfl
theorem wrap_u8 {k : Int} (h : 0 ≤ k ∧ k ≤ 255) : IntKind.u8.wrap k = k := by
  show k % 256 = k
  omega
theorem six_rd (l : List Int) (i : Nat) (h : i < l.length) (h6 : l.length ≤ 6) : rd [l.getD 0 0, l.getD 1 0, l.getD 2 0, l.getD 3 0, l.getD 4 0, l.getD 5 0] i = rd l i := by
  unfold Go.Proofs.YtoljpojpncjmoaaW.PrintWords.rd
  rw [Int.toNat_natCast]
  match i, h with
  | 0, _ => rfl
  | 1, _ => rfl
  | 2, _ => rfl
  | 3, _ => rfl
  | 4, _ => rfl
  | 5, _ => rfl
  | i + 6, h => omega
theorem six_take (l : List Int) (h6 : l.length ≤ 6) : [l.getD 0 0, l.getD 1 0, l.getD 2 0, l.getD 3 0, l.getD 4 0, l.getD 5 0].take l.length = l := by
  match l, h6 with
  | [], _ => rfl
  | [_], _ => rfl
  | [_, _], _ => rfl
  | [_, _, _], _ => rfl
  | [_, _, _, _], _ => rfl
  | [_, _, _, _, _], _ => rfl
  | [_, _, _, _, _, _], _ => rfl
  | _ :: _ :: _ :: _ :: _ :: _ :: _ :: _, h => simp at h
theorem six_drop (l : List Int) (h6 : l.length ≤ 6) : ([l.getD 0 0, l.getD 1 0, l.getD 2 0, l.getD 3 0, l.getD 4 0, l.getD 5 0].drop l.length).all (· == 0) = true := by
  match l, h6 with
  | [], _ => rfl
  | [_], _ => rfl
  | [_, _], _ => rfl
  | [_, _, _], _ => rfl
  | [_, _, _, _], _ => rfl
  | [_, _, _, _, _], _ => rfl
  | [_, _, _, _, _, _], _ => rfl
  | _ :: _ :: _ :: _ :: _ :: _ :: _ :: _, h => simp at h
theorem msOf_is {k : Int} {l : List Int} (h : (l.length : Int) = many k) : isM (msOf k l) = true := by
  have h6 : l.length ≤ 6 := by have := (many_bd k).2; omega
  unfold isM
  rw [show (msOf k l).k = k from rfl, ← h, Int.toNat_natCast, decide_eq_true (by omega), Bool.true_and]
  exact six_drop l h6
theorem msOf_bytes {k : Int} {l : List Int} (hk : 0 ≤ k ∧ k ≤ 255) (h : (l.length : Int) = many k) : bytesM (msOf k l) = k :: puts l := by
  have h6 : l.length ≤ 6 := by have := (many_bd k).2; omega
  unfold bytesM
  rw [msOf_is h, if_pos rfl, show (msOf k l).k = k from rfl, ← h, Int.toNat_natCast, show (msOf k l).l = [l.getD 0 0, l.getD 1 0, l.getD 2 0, l.getD 3 0, l.getD 4 0, l.getD 5 0] from rfl, six_take l h6, show k % 256 = k by omega]

theorem idx6 (g i : Nat) (hi : i < 6) (W : World) : (Instr.indexAt 52 (.pointer (some ⟨g, 1, none⟩)) (.int .i64 (i : Int))).run Try.prog W = .ok (.pointer (some ⟨g, 1 + i, none⟩)) W := by
  obtain ⟨i0, hi0, hzz⟩ := Option.map_eq_some_iff.1 info2
  simp only [Prod.mk.injEq] at hzz
  obtain ⟨hz0, hz1, hz2⟩ := hzz
  have hel : Try.prog.elem 52 = 2 := by simp [Program.elem, Try.underlying52]
  have hal : Try.prog.arrayLen 52 = 6 := by simp [Program.arrayLen, Try.underlying52]
  have ha : (⟨g, 1, none⟩ : Addr).add i = ⟨g, 1 + i, none⟩ := by
    unfold Addr.add
    split
    · rename_i h0; rw [h0]
    · rfl
  rw [run_indexAt_array W 52 ⟨g, 1, none⟩ .i64 (i : Int) (by rw [hal, hel]; exact Try.underlying52), hal, hel]
  simp [sizeOf, typeInfo, hi0, hz1, Result.andThen, hi, ha]
  intro h
  omega
theorem add_one' (g i : Nat) : (⟨g, 1, none⟩ : Addr).add i = ⟨g, 1 + i, none⟩ := by
    unfold Addr.add
    split
    · rename_i h0; rw [h0]
    · rfl

set_option maxHeartbeats 4000000 in
theorem lawNumbers (k : Int) (A : Option Addr) (c : Nat) (l : List Int) (w : World) (hk : -9223372036854775808 ≤ k ∧ k < 9223372036854775808) (hr : Kd.C (Kd.int .i64) w A l.length l) (hc : l.length ≤ c) (hn : IsN l) (hl : l.length ≤ 17592186043904) :
    Calls Try.prog 13 #[.int .i64 k, .slice A l.length c] w fun e w' => e = .returned (.bool true) ∧ Below w.heap.size w w' := by
  have HR := Aside0.mk hr
  have HI := Aside0.mk hn
  clear hr hn
  have HB := Aside0.mk (Below.refl w.heap.size w)
  by_cases c1 : 12 < l.length
  · have h1b : decide (12 < (l.length : Int)) = true := decide_eq_true (by omega)
    have h1n : decide (12 < l.length) = true := decide_eq_true c1
    go_enter Try.func13, Try.ntmps13
    go_wp2
    go_ret
    exact ⟨rfl, HB.out⟩
  · have h1b : decide (12 < (l.length : Int)) = false := decide_eq_false (by omega)
    have h1n : decide (12 < l.length) = false := decide_eq_false c1
    have hl12 : l.length ≤ 12 := by omega
    clear c1
    by_cases c2 : k < 0
    · have h2b : decide (k < 0) = true := decide_eq_true c2
      go_enter Try.func13, Try.ntmps13
      go_wp2
      go_ret
      exact ⟨rfl, HB.out⟩
    · have h2b : decide (k < 0) = false := decide_eq_false c2
      by_cases c3 : 255 < k
      · have h3b : decide (255 < k) = true := decide_eq_true c3
        go_enter Try.func13, Try.ntmps13
        go_wp2
        go_ret
        exact ⟨rfl, HB.out⟩
      · have h3b : decide (255 < k) = false := decide_eq_false c3
        have hkk : 0 ≤ k ∧ k ≤ 255 := by omega
        clear c2 c3
        obtain ⟨p, hp⟩ : ∃ p, p = puts l := ⟨_, rfl⟩
        have HP := Aside0.mk hp
        have hpl : p.length ≤ 96 := by rw [hp, puts_length]; omega
        have HG := Aside0.mk (show getl p = l ∧ gerr p = 0 by rw [hp]; exact ⟨by rw [getl_yes (by rw [puts_length]; omega), gets_puts HI.out], gerr_yes (by rw [puts_length]; omega)⟩)
        have CP := Aside0.mk (fun (v : Value) (b : Nat) (w' : World) (h : Kd.R (Kd.int .u8) 5 w' b (fun _ => True) v (puts l)) => show Kd.R (Kd.int .u8) 5 w' b (fun _ => True) v p by rw [HP.out]; exact h)
        obtain ⟨b, hb⟩ : ∃ b, b = [k] ++ p := ⟨_, rfl⟩
        have HBB := Aside0.mk hb
        have hbl0 : b.length ≤ 97 := by rw [hb]; simp; omega
        have hbk := Aside0.mk (show b = k :: p by rw [hb]; rfl)
        have HBI := Aside0.mk (show IsB b by rw [hbk.out, hp]; exact IsB.cons (by omega) (by omega) (puts_bytes l))
        have HRK := Aside0.mk (show readK b = decide ((l.length : Int) = many k) by rw [hbk.out]; show decide (gerr p = 0 ∧ ((getl p).length : Int) = many k) = _; rw [HG.out.1, HG.out.2]; simp)
        obtain ⟨mk, hmk⟩ : ∃ mk, mk = many k := ⟨_, rfl⟩
        have HM := Aside0.mk hmk
        have CB := Aside0.mk (fun (v : Value) (g : Nat) (w' : World) (h : Kd.R (Kd.int .u8) 5 w' g (fun _ => True) v ([k] ++ p)) => show Kd.R (Kd.int .u8) 5 w' g (fun _ => True) v b by rw [HBB.out]; exact h)
        rw [← hmk] at HRK
        clear hp hb hmk
        by_cases hne : (l.length : Int) = mk
        ·
          have hl6 : l.length ≤ 6 := by have := (many_bd k).2; have := HM.out; omega
          have hlm : (l.length : Int) = many k := by rw [hne]; exact HM.out
          subst hne
          obtain ⟨x0, hx0⟩ : ∃ x, x = l.getD 0 0 := ⟨_, rfl⟩
          obtain ⟨x1, hx1⟩ : ∃ x, x = l.getD 1 0 := ⟨_, rfl⟩
          obtain ⟨x2, hx2⟩ : ∃ x, x = l.getD 2 0 := ⟨_, rfl⟩
          obtain ⟨x3, hx3⟩ : ∃ x, x = l.getD 3 0 := ⟨_, rfl⟩
          obtain ⟨x4, hx4⟩ : ∃ x, x = l.getD 4 0 := ⟨_, rfl⟩
          obtain ⟨x5, hx5⟩ : ∃ x, x = l.getD 5 0 := ⟨_, rfl⟩
          have HX := Aside0.mk (fun (i : Nat) (h : i < l.length) => show rd [x0, x1, x2, x3, x4, x5] i = rd l i by rw [hx0, hx1, hx2, hx3, hx4, hx5]; exact six_rd l i h hl6)
          have HRM := Aside0.mk (show (readM b).cells = #[.int .i64 k, .int .i64 x0, .int .i64 x1, .int .i64 x2, .int .i64 x3, .int .i64 x4, .int .i64 x5] ∧ readE b = 0 by
            have h : readK b = true := by rw [HRK.out]; exact decide_eq_true rfl
            unfold readM readE
            rw [h, if_pos rfl, if_pos rfl, hbk.out, show (k :: p).drop 1 = p from rfl, HG.out.1, hx0, hx1, hx2, hx3, hx4, hx5]
            exact ⟨rfl, rfl⟩)
          have HMB := Aside0.mk (show bytesM ⟨k, x0, x1, x2, x3, x4, x5⟩ = b by rw [hbk.out, HP.out, hx0, hx1, hx2, hx3, hx4, hx5]; exact msOf_bytes hkk hlm)
          clear hx0 hx1 hx2 hx3 hx4 hx5 hlm
          go_enter Try.func13, Try.ntmps13
          go_wp2_with (first | ((with_reducible refine gate_dst (N := 22) rfl ?_); refine Kd.R_lit (Kd.int .u8) (w0 := w) w.heap.size 5 rfl (N := 22) rfl (xs := [k]) (inner := [.int .u8 k]) (ok := fun _ => True) (okp := fun _ => True) (by first | (go_simp; done) | (go_simp; rfl) | (go_simp; exact ⟨rfl, rfl⟩)) (lit_byte _) (fun _ hk => hk) trivial HB.out HB.out.size (by simp) ?_; intro v1 w1 ho hb hg_ hnew_; clear hg_ hnew_ HB; have HO := Aside0.mk ho; have HB := Aside0.mk hb; clear ho hb) | ((with_reducible refine gate_dst (N := 24) rfl ?_); (try (refine gate_guard (by rfl) ?_; dsimp only)); refine goesL_ (some 24) rfl rfl Try.func34 (by kernel_rfl) rfl #[.slice A l.length c] rfl (by (try simp only [List.map_toArray, List.map_cons, List.map_nil]); first | done | rfl | (simp only [List.length_drop, List.length_take]; rfl)) ?_; refine (put2 A c l _ (Kd.C_below HR.out HB.out) (by omega)).mono ?_; rintro e w2 ⟨v2, rfl, ho, hbl⟩; refine ⟨_, rfl, ?_⟩; replace ho := CP.out _ _ _ ho; obtain ⟨A2, c2, e2⟩ := Kd.R_slice ho; subst e2; have H2 := Aside0.mk (Kd.R_reads' ho).2.2; have HO2 := Aside0.mk (Kd.R_below HO.out hbl); have HB2 := Aside0.mk (below_step HB.out hbl); clear HB HO ho hbl; have HB := HB2; have HO := HO2; clear HB2 HO2) | ((with_reducible refine gate_dst (N := 25) rfl ?_); refine Kd.R_append_row (Value.int .u8) 0 (h1 := fun _ => rfl) (w0 := w) w.heap.size rfl _ _ 22 5 (.int .u8 0) 1 rfl Try.underlying22 info5 rfl (by decide) v1 [k] p A2 p.length c2 (fun _ => True) rfl rfl (fun _ _ => trivial) HO.out H2.out HB.out HB.out.size (by simp; omega) ?_; intro v3 w3 ho hb hg_ hnew_; clear hg_ hnew_ HB HO H2; replace ho := CB.out _ _ _ ho; obtain ⟨A3, c3, e3⟩ := Kd.R_slice ho; subst e3; have H3 := Aside0.mk (Kd.R_reads' ho).2.2; have HC3 := Aside0.mk (Kd.R_reads' ho).2.1; have HB := Aside0.mk hb; clear ho hb) | ((with_reducible refine gate_dst (N := 28) rfl ?_); (try (refine gate_guard (by rfl) ?_; dsimp only)); refine goesL_ (some 28) rfl rfl Try.func35 (by kernel_rfl) rfl #[.slice A3 b.length c3] rfl (by (try simp only [List.map_toArray, List.map_cons, List.map_nil]); first | done | rfl | (simp only [List.length_drop, List.length_take]; rfl)) ?_; refine (mread A3 c3 b _ H3.out HC3.out HBI.out (by omega)).mono ?_; rintro e w4 ⟨rfl, hbl⟩; refine ⟨_, rfl, ?_⟩; rw [HRM.out.1, HRM.out.2]; have HB2 := Aside0.mk (below_step HB.out hbl); have H3' := Aside0.mk (Kd.C_below H3.out hbl); clear HB hbl H3; have HB := HB2; have H3 := H3'; clear HB2 H3') | ((with_reducible refine gate_dst (N := 34) rfl ?_); (try (refine gate_guard (by rfl) ?_; dsimp only)); refine goesL_ (some 34) rfl rfl Try.func36 (by kernel_rfl) rfl #[.int .i64 k] rfl (by (try simp only [List.map_toArray, List.map_cons, List.map_nil]); first | done | rfl | (simp only [List.length_drop, List.length_take]; rfl)) ?_; refine (mmany3 k _).mono ?_; rintro e w5 ⟨rfl, hbl⟩; refine ⟨_, rfl, ?_⟩; rw [← HM.out]; have HG5 := Aside0.mk (blk_below (blk_new w4 (.cells #[.int .i64 k, .int .i64 x0, .int .i64 x1, .int .i64 x2, .int .i64 x3, .int .i64 x4, .int .i64 x5] 54)) hbl); have HB2 := Aside0.mk (below_step (below_alloc HB.out _) hbl); have H3' := Aside0.mk (Kd.C_below (Kd.C_alloc H3.out _) hbl); clear HB hbl H3; have HB := HB2; have H3 := H3'; clear HB2 H3'))
          have HXC := Aside0.mk (C_blk (k := .i64) (off := 1) (t := 54) HG5.out [x0, x1, x2, x3, x4, x5] rfl (by simp))
          have HR5 := Aside0.mk (Kd.C_below HR.out HB.out)
          go_loopg [8] l.length (fun kq v8 w' => ∃ i : Nat, v8 = .int .i64 (i : Int) ∧ i ≤ l.length ∧ Aside0 (kq + i = l.length) ∧ Drawn0 w5 w')
          case atStart => exact ⟨0, rfl, Nat.zero_le _, ⟨rfl⟩, Drawn0.refl _⟩
          case round =>
            obtain ⟨i, rfl, hi, HK, ⟨m1, rfl⟩⟩ := hrel
            by_cases c4 : i < l.length
            · obtain ⟨ad0, e0, hq0⟩ := Kd.at_int HXC.out i (by omega) (by simp; omega)
              cases e0
              obtain ⟨ad1, e1, hq1⟩ := Kd.at_int HR5.out i (by omega) (by exact_mod_cast c4)
              cases e1
              rw [Int.toNat_natCast] at hq0 hq1
              rw [HX.out i c4, add_one'] at hq0
              have hidx := idx6 w4.heap.size i (by omega)
              have c4b : decide ((i : Int) < (l.length : Int)) = true := decide_eq_true (by exact_mod_cast c4)
              have c6b : decide ((i : Int) < 6) = true := decide_eq_true (by omega)
              have c6 : i < 6 := by omega
              go_wp2
              go_quiet (fail)
              go_wp2
              go_roundg (l.length - (i + 1))
              case measure => have := HK.out; omega
              case rel => exact ⟨i + 1, by go_num, by omega, ⟨by omega⟩, by repeat (first | exact Drawn0.refl _ | apply Drawn0.step)⟩
            · have c4b : decide ((i : Int) < (l.length : Int)) = false := decide_eq_false (by omega)
              have HGo := Aside0.mk (blk_drewN HG5.out m1)
              have H3o := Aside0.mk (Kd.C_drewN H3.out m1)
              have HBo := Aside0.mk (pw_below_drewN HB.out m1)
              generalize w5.drewN m1 = wo at HGo H3o HBo ⊢
              have g0 := blk_cell HGo.out 0
              simp only [List.getElem?_toArray, List.getElem?_cons_zero, List.getElem?_cons_succ] at g0
              have g1 := blk_cell HGo.out 1
              simp only [List.getElem?_toArray, List.getElem?_cons_zero, List.getElem?_cons_succ] at g1
              have g2 := blk_cell HGo.out 2
              simp only [List.getElem?_toArray, List.getElem?_cons_zero, List.getElem?_cons_succ] at g2
              have g3 := blk_cell HGo.out 3
              simp only [List.getElem?_toArray, List.getElem?_cons_zero, List.getElem?_cons_succ] at g3
              have g4 := blk_cell HGo.out 4
              simp only [List.getElem?_toArray, List.getElem?_cons_zero, List.getElem?_cons_succ] at g4
              have g5 := blk_cell HGo.out 5
              simp only [List.getElem?_toArray, List.getElem?_cons_zero, List.getElem?_cons_succ] at g5
              have g6 := blk_cell HGo.out 6
              simp only [List.getElem?_toArray, List.getElem?_cons_zero, List.getElem?_cons_succ] at g6
              go_wp2
              go_region_held (fun w' => w'.cell? ⟨w4.heap.size, 0, none⟩ = some (.int .i64 k) ∧ w'.cell? ⟨w4.heap.size, 1, none⟩ = some (.int .i64 x0) ∧ w'.cell? ⟨w4.heap.size, 2, none⟩ = some (.int .i64 x1) ∧ w'.cell? ⟨w4.heap.size, 3, none⟩ = some (.int .i64 x2) ∧ w'.cell? ⟨w4.heap.size, 4, none⟩ = some (.int .i64 x3) ∧ w'.cell? ⟨w4.heap.size, 5, none⟩ = some (.int .i64 x4) ∧ w'.cell? ⟨w4.heap.size, 6, none⟩ = some (.int .i64 x5) ∧ Aside0 (Kd.C (Kd.int .u8) w' A3 b.length b) ∧ Aside0 (Below w.heap.size w w') ∧ (convert 22 9 (.slice A3 b.length c3)).run Try.prog w' = .ok (.string (strOfNums b)) w') (first | exact ⟨pw_cell_below (below_drew (Below.refl _ _)) g0, pw_cell_below (below_drew (Below.refl _ _)) g1, pw_cell_below (below_drew (Below.refl _ _)) g2, pw_cell_below (below_drew (Below.refl _ _)) g3, pw_cell_below (below_drew (Below.refl _ _)) g4, pw_cell_below (below_drew (Below.refl _ _)) g5, pw_cell_below (below_drew (Below.refl _ _)) g6, ⟨Kd.C_drew H3o.out⟩, ⟨below_drew1 HBo.out⟩, cstr3 (Kd.C_drew H3o.out)⟩ | exact ⟨pw_cell_below hbl s0, pw_cell_below hbl s1, pw_cell_below hbl s2, pw_cell_below hbl s3, pw_cell_below hbl s4, pw_cell_below hbl s5, pw_cell_below hbl s6, carryC hbl s7, carryB hbl s8, cstr3 (carryC hbl s7).out⟩)
                (first | (go_at_call 38; obtain ⟨s0, s1, s2, s3, s4, s5, s6, s7, s8, s9⟩ := (by assumption : World.cell? _ ⟨w4.heap.size, 0, none⟩ = some (.int .i64 k) ∧ _ ∧ _ ∧ _ ∧ _ ∧ _ ∧ _ ∧ _ ∧ _ ∧ _); clear s9; refine (mbytes k x0 x1 x2 x3 x4 x5 _).mono ?_; rintro e w6 ⟨v6, rfl, ho, hbl⟩; rw [HMB.out] at ho; obtain ⟨A9, c9, e9⟩ := Kd.R_slice ho; subst e9; have hs2 := cstr3 (c := c9) (Kd.R_reads' ho).2.2; clear ho) | (go_at_call 37; obtain ⟨s0, s1, s2, s3, s4, s5, s6, s7, s8, s9⟩ := (by assumption : World.cell? _ ⟨w4.heap.size, 0, none⟩ = some (.int .i64 k) ∧ _ ∧ _ ∧ _ ∧ _ ∧ _ ∧ _ ∧ _ ∧ _ ∧ _); clear s9; refine (known3 _).mono ?_; rintro e w7 ⟨rfl, hbl⟩))
              go_wp2
              go_ret
              exact ⟨rfl, by obtain ⟨s0, s1, s2, s3, s4, s5, s6, s7, s8, s9⟩ := (by assumption : World.cell? _ ⟨w4.heap.size, 0, none⟩ = some (.int .i64 k) ∧ _ ∧ _ ∧ _ ∧ _ ∧ _ ∧ _ ∧ _ ∧ _ ∧ _); exact s8.out⟩
        · have hneb : ((l.length : Int) != mk) = true := by rw [bne_iff_ne]; exact hne
          have HRM := Aside0.mk (show (readM b).cells = #[.int .i64 0, .int .i64 0, .int .i64 0, .int .i64 0, .int .i64 0, .int .i64 0, .int .i64 0] ∧ readE b = 2 by
            have h : readK b = false := by rw [HRK.out]; exact decide_eq_false hne
            unfold readM readE
            rw [h]
            exact ⟨rfl, rfl⟩)
          have heq0 : ∀ W, (Go.binOp .eql 54 (.agg #[.int .i64 0, .int .i64 0, .int .i64 0, .int .i64 0, .int .i64 0, .int .i64 0, .int .i64 0]) (.agg #[.int .i64 0, .int .i64 0, .int .i64 0, .int .i64 0, .int .i64 0, .int .i64 0, .int .i64 0])).run Try.prog W = .ok (.bool true) W := fun W => eqMsRun W 0 0 0 0 0 0 0
          have heq1 : ∀ W, (Op.equalIn 10000 54 (.agg #[.int .i64 0, .int .i64 0, .int .i64 0, .int .i64 0, .int .i64 0, .int .i64 0, .int .i64 0]) (.agg #[.int .i64 0, .int .i64 0, .int .i64 0, .int .i64 0, .int .i64 0, .int .i64 0, .int .i64 0])).run Try.prog W = .ok true W := fun W => eqMs 9997 W 0 0 0 0 0 0 0
          clear hne
          go_enter Try.func13, Try.ntmps13
          go_wp2_with (first | ((with_reducible refine gate_dst (N := 22) rfl ?_); refine Kd.R_lit (Kd.int .u8) (w0 := w) w.heap.size 5 rfl (N := 22) rfl (xs := [k]) (inner := [.int .u8 k]) (ok := fun _ => True) (okp := fun _ => True) (by first | (go_simp; done) | (go_simp; rfl) | (go_simp; exact ⟨rfl, rfl⟩)) (lit_byte _) (fun _ hk => hk) trivial HB.out HB.out.size (by simp) ?_; intro v1 w1 ho hb hg_ hnew_; clear hg_ hnew_ HB; have HO := Aside0.mk ho; have HB := Aside0.mk hb; clear ho hb) | ((with_reducible refine gate_dst (N := 24) rfl ?_); (try (refine gate_guard (by rfl) ?_; dsimp only)); refine goesL_ (some 24) rfl rfl Try.func34 (by kernel_rfl) rfl #[.slice A l.length c] rfl (by (try simp only [List.map_toArray, List.map_cons, List.map_nil]); first | done | rfl | (simp only [List.length_drop, List.length_take]; rfl)) ?_; refine (put2 A c l _ (Kd.C_below HR.out HB.out) (by omega)).mono ?_; rintro e w2 ⟨v2, rfl, ho, hbl⟩; refine ⟨_, rfl, ?_⟩; replace ho := CP.out _ _ _ ho; obtain ⟨A2, c2, e2⟩ := Kd.R_slice ho; subst e2; have H2 := Aside0.mk (Kd.R_reads' ho).2.2; have HO2 := Aside0.mk (Kd.R_below HO.out hbl); have HB2 := Aside0.mk (below_step HB.out hbl); clear HB HO ho hbl; have HB := HB2; have HO := HO2; clear HB2 HO2) | ((with_reducible refine gate_dst (N := 25) rfl ?_); refine Kd.R_append_row (Value.int .u8) 0 (h1 := fun _ => rfl) (w0 := w) w.heap.size rfl _ _ 22 5 (.int .u8 0) 1 rfl Try.underlying22 info5 rfl (by decide) v1 [k] p A2 p.length c2 (fun _ => True) rfl rfl (fun _ _ => trivial) HO.out H2.out HB.out HB.out.size (by simp; omega) ?_; intro v3 w3 ho hb hg_ hnew_; clear hg_ hnew_ HB HO H2; replace ho := CB.out _ _ _ ho; obtain ⟨A3, c3, e3⟩ := Kd.R_slice ho; subst e3; have H3 := Aside0.mk (Kd.R_reads' ho).2.2; have HC3 := Aside0.mk (Kd.R_reads' ho).2.1; have HB := Aside0.mk hb; clear ho hb) | ((with_reducible refine gate_dst (N := 28) rfl ?_); (try (refine gate_guard (by rfl) ?_; dsimp only)); refine goesL_ (some 28) rfl rfl Try.func35 (by kernel_rfl) rfl #[.slice A3 b.length c3] rfl (by (try simp only [List.map_toArray, List.map_cons, List.map_nil]); first | done | rfl | (simp only [List.length_drop, List.length_take]; rfl)) ?_; refine (mread A3 c3 b _ H3.out HC3.out HBI.out (by omega)).mono ?_; rintro e w4 ⟨rfl, hbl⟩; refine ⟨_, rfl, ?_⟩; rw [HRM.out.1, HRM.out.2]; have HB2 := Aside0.mk (below_step HB.out hbl); clear HB hbl; have HB := HB2; clear HB2) | ((with_reducible refine gate_dst (N := 34) rfl ?_); (try (refine gate_guard (by rfl) ?_; dsimp only)); refine goesL_ (some 34) rfl rfl Try.func36 (by kernel_rfl) rfl #[.int .i64 k] rfl (by (try simp only [List.map_toArray, List.map_cons, List.map_nil]); first | done | rfl | (simp only [List.length_drop, List.length_take]; rfl)) ?_; refine (mmany3 k _).mono ?_; rintro e w5 ⟨rfl, hbl⟩; refine ⟨_, rfl, ?_⟩; rw [← HM.out]; have HG5 := Aside0.mk (blk_below (blk_new w4 (.cells #[.int .i64 0, .int .i64 0, .int .i64 0, .int .i64 0, .int .i64 0, .int .i64 0, .int .i64 0] 54)) hbl); have HB2 := Aside0.mk (below_step (below_alloc HB.out _) hbl); clear HB hbl; have HB := HB2; clear HB2) | ((with_reducible refine gate_dst (N := 39) rfl ?_); (try (refine gate_guard (by rfl) ?_; dsimp only)); (refine wpList_load_row rfl 54 _ rfl w4.heap.size rfl 54 _ (0, 0) _ HG5.out Try.underlying54 rfl (by kernel_rfl) ?_)) | ((with_reducible refine gate_dst (N := 44) rfl ?_); (try (refine gate_guard (by rfl) ?_; dsimp only)); refine goesL_ (some 44) rfl rfl Try.func37 (by kernel_rfl) rfl #[] rfl (by (try simp only [List.map_toArray, List.map_cons, List.map_nil]); first | done | rfl | (simp only [List.length_drop, List.length_take]; rfl)) ?_; refine (known3 _).mono ?_; rintro e w6 ⟨rfl, hbl⟩; refine ⟨_, rfl, ?_⟩; have HB_ := Aside0.mk (below_step HB.out hbl); clear HB; have HB := HB_; clear HB_; clear hbl))
          go_ret
          exact ⟨rfl, HB.out⟩
end Go.Proofs.Ytoljpojpncjmoaa.B
