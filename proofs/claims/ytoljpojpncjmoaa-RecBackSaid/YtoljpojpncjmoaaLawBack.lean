/- girolaw5.RecBack: the walk. -/
import Derived.Test.YtoljpojpncjmoaaRecK
namespace Go.Proofs.Ytoljpojpncjmoaa.B
open Go.RowKit Go.Proofs.YtoljpojpncjmoaaW.PrintWords Go.Proofs.YtoljpojpncjmoaaW.PrintLast Go.Proofs.YtoljpojpncjmoaaW.PrintMore
attribute [local go_sem] max2_int min2_int max_two min_two max_three min_three max_four min_four
set_option linter.unusedVariables false
set_option linter.unusedSimpArgs false

set_option maxHeartbeats 4000000 in
theorem lawBack (A : Option Addr) (c : Nat) (l : List (List Int)) (w : World) (hr : Kd.C (Kd.slice 5 (Kd.int .u8)) w A l.length l) (hc : l.length ≤ c) (hn : IsBs l) :
    Calls Try.prog 6 #[.slice A l.length c] w fun e w' => e = .returned (.bool true) ∧ Below w.heap.size w w' := by
  have HR := Aside0.mk hr
  have HI := Aside0.mk hn
  clear hr hn hc
  have HB := Aside0.mk (Below.refl w.heap.size w)
  have hmax := HR.out.2.1
  by_cases h12 : 12 < l.length
  · have h1b : decide (12 < (l.length : Int)) = true := decide_eq_true (by omega)
    go_enter Try.func6, Try.ntmps6
    go_wp2
    go_ret
    exact ⟨rfl, HB.out⟩
  · have h1b : decide (12 < (l.length : Int)) = false := decide_eq_false (by omega)
    have hl12 : l.length ≤ 12 := by omega
    clear h12 hmax
    go_enter Try.func6, Try.ntmps6
    go_wp2
    go_loopg [3, 4, 5, 6] l.length (fun kq v3 v4 v5 v6 w' => ∃ i : Nat, v4 = .int .i64 (i : Int) ∧ i ≤ l.length ∧ Aside0 (kq + i = l.length) ∧ Aside0 (∀ r ∈ l.take i, r.length ≤ 300) ∧ Aside0 (Kd.R (Kd.int .u8) 5 w' w.heap.size (fun _ => True) v3 (recs (l.take i))) ∧ Aside0 (Below w.heap.size w w'))
    case atStart => exact ⟨0, rfl, Nat.zero_le _, ⟨rfl⟩, ⟨by simp⟩, ⟨Kd.R_nil _ _ _ _ _⟩, HB⟩
    case round =>
      clear HB
      obtain ⟨i, rfl, hi, HK, HS, HO, HB⟩ := hrel
      by_cases c4 : i < l.length
      · have c4b : decide ((i : Int) < (l.length : Int)) = true := decide_eq_true (by omega)
        obtain ⟨ad, Ai, ci, e1, hx, hxl, hxC⟩ := at_L1 (Kd.C_below HR.out HB.out) i (by omega) (by exact_mod_cast c4)
        cases e1
        rw [Int.toNat_natCast] at hx
        by_cases h20 : 300 < (rd_L1 l i).length
        · have h20b : decide (300 < ((rd_L1 l i).length : Int)) = true := decide_eq_true (by omega)
          have HxC := Aside0.mk hxC
          clear hxC
          go_wp2
          go_ret
          exact ⟨rfl, HB.out⟩
        · have h20b : decide (300 < ((rd_L1 l i).length : Int)) = false := decide_eq_false (by omega)
          have h20' : (rd_L1 l i).length ≤ 300 := by omega
          have HxC := Aside0.mk hxC
          have HS' := Aside0.mk (show ∀ r ∈ l.take (i + 1), r.length ≤ 300 by
            intro r hr
            rw [List.take_succ_eq_append_getElem c4] at hr
            rcases List.mem_append.1 hr with hr | hr
            · exact HS.out r hr
            · rw [List.mem_singleton.1 hr]
              have e := h20'
              unfold rd_L1 at e
              rwa [Int.toNat_natCast, List.getD_eq_getElem?_getD, List.getElem?_eq_getElem c4] at e)
          have HT := Aside0.mk (recs_take_succ l i c4)
          have hfl := Aside0.mk (show (recs (l.take i)).length ≤ 3624 by
            have := recs_length (l.take i) 300 (by omega) HS.out
            rw [List.length_take] at this
            omega)
          clear hxC h20
          obtain ⟨Y, hY⟩ : ∃ Y, Y = recs (l.take i) := ⟨_, rfl⟩
          rw [← hY] at HO HT hfl
          clear hY
          obtain ⟨Ao, co, eo⟩ := Kd.R_slice HO.out
          subst eo
          obtain ⟨u, hu⟩ : ∃ u, u = rd_L1 l i := ⟨_, rfl⟩
          rw [← hu] at hx hxl HxC h20b h20'
          have HU := Aside0.mk hu
          clear hu
          obtain ⟨ru, hru⟩ : ∃ ru, ru = recp u := ⟨_, rfl⟩
          have HRU := Aside0.mk hru
          have hruq := Aside0.mk (show ((ru.length : Int) != (u.length : Int) + 2) = false by rw [bne_eq_false_iff_eq, hru, recp_length (by omega)]; omega)
          have hrun := hruq.out
          have hrul : ru.length ≤ 302 := by rw [hru, recp_length (by omega)]; omega
          have HOK := Aside0.mk (show recok u = true from decide_eq_true (by omega))
          clear hru
          go_wp2_with (first | ((with_reducible refine gate_dst (N := 32) rfl ?_); (try (refine gate_guard (by rfl) ?_; dsimp only)); refine goesL_ (some 32) rfl rfl Try.func19 (by kernel_rfl) rfl #[.slice Ai u.length ci] rfl (by (try simp only [List.map_toArray, List.map_cons, List.map_nil]); first | done | rfl | (simp only [List.length_drop, List.length_take]; rfl)) ?_; refine (rput Ai ci u _ HxC.out hxl (by omega)).mono ?_; rintro e w2 ⟨v2, rfl, ho, hbl⟩; refine ⟨_, rfl, ?_⟩; rw [← HRU.out] at ho; rw [HOK.out]; have HO' := Aside0.mk (Kd.R_below HO.out hbl); have HB' := Aside0.mk (below_step HB.out hbl); replace hx := pw_cell_below hbl hx; clear HB HO HxC; have HB := HB'; have HO := HO'; clear HB' HO' hbl; obtain ⟨A2, c2, e2⟩ := Kd.R_slice ho; subst e2; have H2 := Aside0.mk (Kd.R_reads' ho).2.2; clear ho) | ((with_reducible refine gate_dst (N := 50) rfl ?_); refine Kd.R_append_row (Value.int .u8) 0 (h1 := fun _ => rfl) (w0 := w) w.heap.size rfl _ _ 22 5 (.int .u8 0) 1 rfl Try.underlying22 info5 rfl (by decide) (.slice Ao Y.length co) Y ru A2 ru.length c2 (fun _ => True) rfl rfl (fun _ _ => trivial) HO.out H2.out HB.out HB.out.size (by have := hfl.out; omega) ?_; intro v5 w5 ho hb hg_ hnew_; clear hg_ hnew_ HB HO; have HB := Aside0.mk hb; have HO := Aside0.mk ho; clear ho hb))
          go_roundg (l.length - (i + 1))
          case measure => have := HK.out; omega
          case rel => exact ⟨i + 1, by go_num, by omega, ⟨by omega⟩, HS', ⟨by rw [HT.out, show recp (l.getD i []) = ru by rw [HRU.out, HU.out]; rfl]; exact HO.out⟩, HB⟩
      · have c4b : decide ((i : Int) < (l.length : Int)) = false := decide_eq_false (by omega)
        have e : l.take i = l := List.take_of_length_le (by omega)
        rw [e] at HS HO
        clear e
        obtain ⟨wo, rfl⟩ : ∃ wo : World, wo = wr := ⟨_, rfl⟩
        obtain ⟨Y, hY⟩ : ∃ Y, Y = recs l := ⟨_, rfl⟩
        have HSC := Aside0.mk (show scan Y = (l, 0) by rw [hY]; exact scan_all l (fun r hr => by have := HS.out r hr; omega))
        have HYB := Aside0.mk (show IsB Y by rw [hY]; exact recs_bytes HI.out)
        have hfl : Y.length ≤ 3624 := by
          have := recs_length l 300 (by omega) HS.out
          rw [hY]
          omega
        rw [← hY] at HO
        clear hY
        obtain ⟨Ao, co, eo⟩ := Kd.R_slice HO.out
        subst eo
        have H3 := Aside0.mk (Kd.R_reads' HO.out).2.2
        have HC3 := Aside0.mk (Kd.R_reads' HO.out).2.1
        clear HO
        go_wp2_with (first | ((with_reducible refine gate_dst (N := 53) rfl ?_); (try (refine gate_guard (by rfl) ?_; dsimp only)); refine goesL_ (some 53) rfl rfl Try.func21 (by kernel_rfl) rfl #[.slice Ao Y.length co] rfl (by (try simp only [List.map_toArray, List.map_cons, List.map_nil]); first | done | rfl | (simp only [List.length_drop, List.length_take]; rfl)) ?_; refine (rscan Ao co Y _ H3.out HC3.out HYB.out (by omega)).mono ?_; rintro e w2 ⟨v2, rfl, ho, hbl⟩; refine ⟨_, rfl, ?_⟩; rw [HSC.out] at ho; rw [HSC.out]; have HBL := Aside0.mk hbl; have HO := Aside0.mk ho; clear hbl ho; obtain ⟨A7, c7, e7⟩ := Kd.S_slice HO.out; subst e7) | ((with_reducible refine gate_dst (N := 61) rfl ?_); (try (refine gate_guard (by rfl) ?_; dsimp only)); refine goesL_ (some 61) rfl rfl Try.func23 (by kernel_rfl) rfl #[.slice A7 l.length c7, .slice A l.length c] rfl (by (try simp only [List.map_toArray, List.map_cons, List.map_nil]); first | done | rfl | (simp only [List.length_drop, List.length_take]; rfl)) ?_; refine (same5 A7 c7 l A c l _ (Kd.S_reads' HO.out).2.2 (Kd.C_below HR.out (below_step HB.out HBL.out)) HI.out HI.out (by omega)).mono ?_; rintro e w3 ⟨rfl, hd⟩; refine ⟨_, rfl, ?_⟩; have hbl := hd.below; clear hd; rw [decide_eq_true (rfl : l = l)]; have HO' := Aside0.mk (Kd.S_below HO.out hbl); have HBL' := Aside0.mk (below_step HBL.out hbl); clear HO HBL hbl; have HO := HO'; have HBL := HBL'; clear HO' HBL'))
        go_loopg [9] l.length (fun kq v9 w' => ∃ (i : Nat) (xs : List (List Int)), v9 = .int .i64 (i : Int) ∧ i ≤ l.length ∧ Aside0 (kq + i = l.length) ∧ Aside0 (xs.length = l.length) ∧ Aside0 (Kd.S (Kd.slice 5 (Kd.int .u8)) 22 w' wo.heap.size (fun k => wo.heap.size ≤ k) (.slice A7 l.length c7) xs) ∧ Aside0 (Below wo.heap.size wo w'))
        case atStart => exact ⟨0, l, rfl, Nat.zero_le _, ⟨rfl⟩, ⟨rfl⟩, HO, HBL⟩
        case round =>
          clear HO HBL c4b
          obtain ⟨i, xs, rfl, hi, HK, HXL, HO, HBL⟩ := hrel
          by_cases c4 : i < l.length
          · have c4b : decide ((i : Int) < (l.length : Int)) = true := decide_eq_true (by omega)
            obtain ⟨g, cap, ev, hg0, hg1, _⟩ := Kd.S_form HO.out (by rw [HXL.out]; omega)
            injection ev with ev1 ev2 ev3
            subst ev1
            obtain ⟨oki, cs, hcl, hM, hcc, hoki, hback⟩ := Kd.S_borrow HO.out ([] : List Int) i (by omega) (by exact_mod_cast c4)
            obtain ⟨vi, rfl, hRi⟩ := hM
            rw [Int.toNat_natCast] at hRi
            obtain ⟨u, hu⟩ : ∃ u, u = xs.getD i [] := ⟨_, rfl⟩
            rw [← hu] at hRi
            have hcell := hcc 0 _ rfl
            rw [Int.toNat_natCast, show i * (Kd.slice 5 (Kd.int .u8)).sz + 0 = i from Nat.mul_one i, add_plain] at hcell
            have HBK := Aside0.mk (fun (w1 : World) (row : Option Nat) (x' : List Int) => hback (w1 := w1) (row := row) (x' := x'))
            clear hcc hback ev2 ev3 hu
            obtain ⟨Ai, ci, ei⟩ := Kd.R_slice hRi
            subst ei
            by_cases h0 : 0 < u.length
            · have h0b : decide (0 < (u.length : Int)) = true := decide_eq_true (by omega)
              obtain ⟨g2, cap2, ev4, hg2, hg3, _⟩ := Kd.R_form hRi h0
              injection ev4 with ev5 ev6 ev7
              subst ev5
              have hin := (Kd.R_celln (0 : Int) hRi 0 (by omega) (by omega)).1
              have hfr := (Kd.R_celln (0 : Int) hRi 0 (by omega) (by omega)).2
              rw [show ((0 : Int)).toNat = 0 from rfl] at hin hfr
              have HRI := Aside0.mk hRi
              clear hRi ev6 ev7 hg3 hg1
              have HOK := Aside0.mk (show oki g2 from HRI.out.1 g2 rfl)
              have HPUT := Aside0.mk (Kd.R_putn HRI.out 0 ((rdOf 0 u 0 + 1) % 256))
              have HG2 := Aside0.mk (show wo.heap.size ≤ g2 from (hoki g2 HOK.out).1)
              clear hoki
              go_wp2
              go_roundg (l.length - (i + 1))
              case measure => have := HK.out; omega
              case rel => exact ⟨i + 1, _, by go_num, by omega, ⟨by omega⟩, ⟨by rw [List.length_set]; exact HXL.out⟩, ⟨HBK.out _ (some g2) _ (grown_set _ _ _) (fun k hk => by cases hk; exact HOK.out) ⟨_, rfl, HPUT.out⟩⟩, ⟨HBL.out.setCell HG2.out _⟩⟩
            · have h0b : decide (0 < (u.length : Int)) = false := decide_eq_false (by omega)
              have HRI := Aside0.mk hRi
              clear hRi
              go_wp2
              go_roundg (l.length - (i + 1))
              case measure => have := HK.out; omega
              case rel => exact ⟨i + 1, xs, by go_num, by omega, ⟨by omega⟩, HXL, HO, HBL⟩
          · have c4b : decide ((i : Int) < (l.length : Int)) = false := decide_eq_false (by omega)
            go_wp2_with (first | ((with_reducible refine gate_dst (N := 86) rfl ?_); (try (refine gate_guard (by rfl) ?_; dsimp only)); refine goesL_ (some 86) rfl rfl Try.func21 (by kernel_rfl) rfl #[.slice Ao Y.length co] rfl (by (try simp only [List.map_toArray, List.map_cons, List.map_nil]); first | done | rfl | (simp only [List.length_drop, List.length_take]; rfl)) ?_; refine (rscan Ao co Y _ (Kd.C_below H3.out HBL.out) HC3.out HYB.out (by omega)).mono ?_; rintro e w4 ⟨v4, rfl, ho, hbl⟩; refine ⟨_, rfl, ?_⟩; rw [HSC.out] at ho; rw [HSC.out]; have HBL' := Aside0.mk (below_step HBL.out hbl); clear HBL hbl HO; have HBL := HBL'; clear HBL'; obtain ⟨A8, c8, e8⟩ := Kd.S_slice ho; subst e8; have H8 := Aside0.mk (Kd.S_reads' ho).2.2; clear ho) | ((with_reducible refine gate_dst (N := 91) rfl ?_); (try (refine gate_guard (by rfl) ?_; dsimp only)); refine goesL_ (some 91) rfl rfl Try.func23 (by kernel_rfl) rfl #[.slice A8 l.length c8, .slice A l.length c] rfl (by (try simp only [List.map_toArray, List.map_cons, List.map_nil]); first | done | rfl | (simp only [List.length_drop, List.length_take]; rfl)) ?_; refine (same5 A8 c8 l A c l _ H8.out (Kd.C_below HR.out (below_step HB.out HBL.out)) HI.out HI.out (by omega)).mono ?_; rintro e w5 ⟨rfl, hd⟩; refine ⟨_, rfl, ?_⟩; have hbl := hd.below; clear hd; rw [decide_eq_true (rfl : l = l)]; have HBL' := Aside0.mk (below_step HBL.out hbl); clear HBL hbl H8; have HBL := HBL'; clear HBL') | ((with_reducible refine gate_dst (N := 93) rfl ?_); (try (refine gate_guard (by rfl) ?_; dsimp only)); refine goesL_ (some 93) rfl rfl Try.func24 (by kernel_rfl) rfl #[] rfl (by (try simp only [List.map_toArray, List.map_cons, List.map_nil]); first | done | rfl | (simp only [List.length_drop, List.length_take]; rfl)) ?_; refine (known5 _).mono ?_; rintro e w7 ⟨rfl, hbl⟩; refine ⟨_, rfl, ?_⟩; have HBL' := Aside0.mk (below_step HBL.out hbl); clear HBL hbl; have HBL := HBL'; clear HBL'))
            go_ret
            exact ⟨rfl, below_step HB.out HBL.out⟩
end Go.Proofs.Ytoljpojpncjmoaa.B
