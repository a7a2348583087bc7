/- girolaw5.RecCut: the walk. -/
import Derived.Test.YtoljpojpncjmoaaRecK
namespace Go.Proofs.Ytoljpojpncjmoaa.B
open Go.RowKit Go.Proofs.YtoljpojpncjmoaaW.PrintWords Go.Proofs.YtoljpojpncjmoaaW.PrintLast Go.Proofs.YtoljpojpncjmoaaW.PrintMore
attribute [local go_sem] max2_int min2_int max_two min_two max_three min_three max_four min_four
set_option linter.unusedVariables false
set_option linter.unusedSimpArgs false

/-- Where each record ends. -/
def endsL (l : List (List Int)) (i : Nat) : List Int := (List.range i).map fun j => ((recs (l.take (j + 1))).length : Int)
theorem endsL_length (l : List (List Int)) (i : Nat) : (endsL l i).length = i := by simp [endsL]
theorem endsL_succ (l : List (List Int)) (i : Nat) : endsL l (i + 1) = endsL l i ++ [((recs (l.take (i + 1))).length : Int)] := by simp [endsL, List.range_succ]
theorem endsL_rd (l : List (List Int)) (i j : Nat) (h : j < i) : rd (endsL l i) j = ((recs (l.take (j + 1))).length : Int) := by
  unfold Go.Proofs.YtoljpojpncjmoaaW.PrintWords.rd
  rw [Int.toNat_natCast, List.getD_eq_getElem?_getD, List.getElem?_eq_getElem (by rw [endsL_length]; exact h)]
  simp [endsL]

theorem add_succ' (a : Addr) (n : Nat) : a.add (n + 1) = ⟨a.block, a.off + (n + 1), none⟩ := by simp [Addr.add]
set_option maxHeartbeats 4000000 in
theorem lawRCut (A : Option Addr) (c : Nat) (l : List (List Int)) (cut : Int) (w : World) (hr : Kd.C (Kd.slice 5 (Kd.int .u8)) w A l.length l) (hc : l.length ≤ c) (hn : IsBs l) (hcut : -9223372036854775808 ≤ cut ∧ cut < 9223372036854775808) :
    Calls Try.prog 4 #[.slice A l.length c, .int .i64 cut] w fun e w' => e = .returned (.bool true) ∧ Below w.heap.size w w' := by
  have HR := Aside0.mk hr
  have HI := Aside0.mk hn
  have HCC := Aside0.mk hc
  clear hr hn hc
  have HB := Aside0.mk (Below.refl w.heap.size w)
  have hmax := HR.out.2.1
  by_cases h12 : 12 < l.length
  · have h1b : decide (12 < (l.length : Int)) = true := decide_eq_true (by omega)
    go_enter Try.func4, Try.ntmps4
    go_wp2
    go_ret
    exact ⟨rfl, HB.out⟩
  · have h1b : decide (12 < (l.length : Int)) = false := decide_eq_false (by omega)
    have hl12 : l.length ≤ 12 := by omega
    clear h12 hmax
    go_enter Try.func4, Try.ntmps4
    go_wp2
    go_loopg [5, 6, 7, 8, 9] l.length (fun kq v5 v6 v7 v8 v9 w' => ∃ i : Nat, v7 = .int .i64 (i : Int) ∧ i ≤ l.length ∧ Aside0 (kq + i = l.length) ∧ Aside0 (∀ r ∈ l.take i, r.length ≤ 300) ∧ Aside0 (Kd.R (Kd.int .u8) 5 w' w.heap.size (fun _ => True) v5 (recs (l.take i))) ∧ Aside0 (Kd.R (Kd.int .i64) 3 w' w.heap.size (fun _ => True) v6 (endsL l i)) ∧ Aside0 (Below w.heap.size w w'))
    case atStart => exact ⟨0, rfl, Nat.zero_le _, ⟨rfl⟩, ⟨by simp⟩, ⟨Kd.R_nil _ _ _ _ _⟩, ⟨Kd.R_nil _ _ _ _ _⟩, HB⟩
    case round =>
      clear HB
      obtain ⟨i, rfl, hi, HK, HS, HO, HE, HB⟩ := hrel
      by_cases c4 : i < l.length
      · have c4b : decide ((i : Int) < (l.length : Int)) = true := decide_eq_true (by omega)
        obtain ⟨ad, Ai, ci, e1, hx, hxl, hxC⟩ := at_L1 (Kd.C_below HR.out HB.out) i (by omega) (by exact_mod_cast c4)
        cases e1
        rw [Int.toNat_natCast] at hx
        by_cases h20 : 300 < (rd_L1 l i).length
        · have h20b : decide (300 < ((rd_L1 l i).length : Int)) = true := decide_eq_true (by omega)
          have HxC := Aside0.mk hxC
          clear hxC
          go_wp2
          go_ret
          exact ⟨rfl, HB.out⟩
        · have h20b : decide (300 < ((rd_L1 l i).length : Int)) = false := decide_eq_false (by omega)
          have h20' : (rd_L1 l i).length ≤ 300 := by omega
          have HxC := Aside0.mk hxC
          have HS' := Aside0.mk (show ∀ r ∈ l.take (i + 1), r.length ≤ 300 by
            intro r hr
            rw [List.take_succ_eq_append_getElem c4] at hr
            rcases List.mem_append.1 hr with hr | hr
            · exact HS.out r hr
            · rw [List.mem_singleton.1 hr]
              have e := h20'
              unfold rd_L1 at e
              rwa [Int.toNat_natCast, List.getD_eq_getElem?_getD, List.getElem?_eq_getElem c4] at e)
          have hfl := Aside0.mk (show (recs (l.take i)).length ≤ 3624 by
            have := recs_length (l.take i) 300 (by omega) HS.out
            rw [List.length_take] at this
            omega)
          clear hxC h20
          obtain ⟨u, hu⟩ : ∃ u, u = rd_L1 l i := ⟨_, rfl⟩
          rw [← hu] at hx hxl HxC h20b h20'
          obtain ⟨ru, hru⟩ : ∃ ru, ru = recp u := ⟨_, rfl⟩
          have HRU := Aside0.mk hru
          have hrul : ru.length ≤ 302 := by rw [hru, recp_length (by omega)]; omega
          have HOK := Aside0.mk (show recok u = true from decide_eq_true (by omega))
          obtain ⟨Y, hY⟩ : ∃ Y, Y = recs (l.take i) := ⟨_, rfl⟩
          obtain ⟨Z, hZ⟩ : ∃ Z, Z = Y ++ ru := ⟨_, rfl⟩
          have HT := Aside0.mk (show recs (l.take (i + 1)) = Z by rw [recs_take_succ l i c4, hZ, hY, hru, hu]; rfl)
          obtain ⟨E, hE⟩ : ∃ E, E = endsL l i := ⟨_, rfl⟩
          have hEl : E.length ≤ 12 := by rw [hE, endsL_length]; omega
          have HE2 := Aside0.mk (show endsL l (i + 1) = E ++ [(Z.length : Int)] by rw [endsL_succ, HT.out, hE])
          rw [← hY] at HO hfl
          rw [← hE] at HE
          have HZ := Aside0.mk hZ
          clear hY hru hu hZ hE
          obtain ⟨Ao, co, eo⟩ := Kd.R_slice HO.out
          subst eo
          obtain ⟨Ae, ce, ee⟩ := Kd.R_slice HE.out
          subst ee
          go_wp2_with (first | ((with_reducible refine gate_dst (N := 34) rfl ?_); (try (refine gate_guard (by rfl) ?_; dsimp only)); refine goesL_ (some 34) rfl rfl Try.func20 (by kernel_rfl) rfl #[.slice Ai u.length ci] rfl (by (try simp only [List.map_toArray, List.map_cons, List.map_nil]); first | done | rfl | (simp only [List.length_drop, List.length_take]; rfl)) ?_; refine (rput5 Ai ci u _ HxC.out hxl (by omega)).mono ?_; rintro e w2 ⟨v2, rfl, ho, hbl⟩; refine ⟨_, rfl, ?_⟩; rw [← HRU.out] at ho; rw [HOK.out]; have HO' := Aside0.mk (Kd.R_below HO.out hbl); have HE' := Aside0.mk (Kd.R_below HE.out hbl); have HB' := Aside0.mk (below_step HB.out hbl); clear HB HO HE HxC hx; have HB := HB'; have HO := HO'; have HE := HE'; clear HB' HO' HE' hbl; obtain ⟨A2, c2, e2⟩ := Kd.R_slice ho; subst e2; have H2 := Aside0.mk (Kd.R_reads' ho).2.2; clear ho) | ((with_reducible refine gate_dst (N := 39) rfl ?_); refine Kd.R_append_row (Value.int .u8) 0 (h1 := fun _ => rfl) (w0 := w) w.heap.size rfl _ _ 22 5 (.int .u8 0) 1 rfl Try.underlying22 info5 rfl (by decide) (.slice Ao Y.length co) Y ru A2 ru.length c2 (fun _ => True) rfl rfl (fun _ _ => trivial) HO.out H2.out HB.out HB.out.size (by have := hfl.out; omega) ?_; intro v5 w5 ho hb hg_ hnew_; rw [← HZ.out] at ho; have HE' := Aside0.mk (Kd.R_over HE.out HO.out (by decide) hg_); clear hg_ hnew_ HB HO HE; have HB := Aside0.mk hb; have HO := Aside0.mk ho; have HE := HE'; clear ho hb HE'; obtain ⟨A5, c5, e5⟩ := Kd.R_slice HO.out; subst e5) | ((with_reducible refine gate_dst (N := 44) rfl ?_); refine Kd.R_append (Kd.int .i64) (w0 := w) w.heap.size rfl _ _ 31 3 (.int .i64 0) 8 rfl Try.underlying31 info3 rfl (by decide) (by decide) (.slice Ae E.length ce) E (Z.length : Int) [.int .i64 (Z.length : Int)] (fun _ => True) (fun _ => False) rfl rfl rfl (fun _ h => h.elim) (fun _ _ => trivial) HE.out HB.out HB.out.size (by omega) ?_; intro v6 w6 ho hb hg_ hnew_; have HO' := Aside0.mk (Kd.R_over HO.out HE.out (by decide) hg_); clear hg_ hnew_ HB HO HE; have HB := Aside0.mk hb; have HE := Aside0.mk ho; have HO := HO'; clear ho hb HO'))
          go_roundg (l.length - (i + 1))
          case measure => have := HK.out; omega
          case rel => exact ⟨i + 1, by go_num, by omega, ⟨by omega⟩, HS', ⟨by rw [HT.out]; exact HO.out⟩, ⟨by rw [HE2.out]; exact HE.out⟩, HB⟩
      · have c4b : decide ((i : Int) < (l.length : Int)) = false := decide_eq_false (by omega)
        obtain rfl : i = l.length := by omega
        rw [List.take_length] at HS HO
        obtain ⟨wo, rfl⟩ : ∃ wo : World, wo = wr := ⟨_, rfl⟩
        obtain ⟨Y, hY⟩ : ∃ Y, Y = recs l := ⟨_, rfl⟩
        obtain ⟨E, hE⟩ : ∃ E, E = endsL l l.length := ⟨_, rfl⟩
        have hEl : E.length = l.length := by rw [hE, endsL_length]
        have HEL := Aside0.mk hEl
        have HED := Aside0.mk hE
        have HYD := Aside0.mk hY
        have HYB := Aside0.mk (show IsB Y by rw [hY]; exact recs_bytes HI.out)
        have hyl : Y.length ≤ 3624 := by
          have := recs_length l 300 (by omega) HS.out
          rw [hY]
          omega
        rw [← hY] at HO
        rw [← hE] at HE
        have hEl12 : E.length ≤ 12 := by omega
        clear hY hE hEl
        obtain ⟨Ao, co, eo⟩ := Kd.R_slice HO.out
        subst eo
        obtain ⟨Ae, ce, ee⟩ := Kd.R_slice HE.out
        subst ee
        have H3 := Aside0.mk (Kd.R_reads' HO.out).2.2
        have HC3 := Aside0.mk (Kd.R_reads' HO.out).2.1
        have H4 := Aside0.mk (Kd.R_reads' HE.out).2.2
        clear HO HE c4b
        by_cases h0 : cut < 0
        · have h0b : decide (cut < 0) = true := decide_eq_true h0
          have c4b : decide ((l.length : Int) < (l.length : Int)) = false := decide_eq_false (by omega)
          go_wp2
          go_ret
          exact ⟨rfl, HB.out⟩
        · have h0b : decide (cut < 0) = false := decide_eq_false h0
          by_cases hbig : (Y.length : Int) < cut
          · have hbb : decide ((Y.length : Int) < cut) = true := decide_eq_true hbig
            have c4b : decide ((l.length : Int) < (l.length : Int)) = false := decide_eq_false (by omega)
            go_wp2
            go_ret
            exact ⟨rfl, HB.out⟩
          · have hbb : decide ((Y.length : Int) < cut) = false := decide_eq_false hbig
            have hc0 : 0 ≤ cut := by omega
            have hc1 : cut ≤ (Y.length : Int) := by omega
            have c4b : decide ((l.length : Int) < (l.length : Int)) = false := decide_eq_false (by omega)
            clear h0 hbig
            go_wp2
            go_loopg [10] l.length (fun kq v10 w' => ∃ n : Nat, v10 = .int .i64 (n : Int) ∧ n ≤ l.length ∧ Aside0 (kq + n = l.length) ∧ Aside0 (((recs (l.take n)).length : Int) ≤ cut) ∧ Aside0 (Below wo.heap.size wo w'))
            case atStart => exact ⟨0, rfl, Nat.zero_le _, ⟨rfl⟩, ⟨by simp [recs]; exact hc0⟩, ⟨Below.refl _ _⟩⟩
            case round =>
              obtain ⟨n, rfl, hn, HK, HN, HBL⟩ := hrel
              by_cases hlt : n < l.length
              · have hltb : decide ((n : Int) < (E.length : Int)) = true := decide_eq_true (by have := HEL.out; omega)
                have hltE : n < E.length := by have := HEL.out; omega
                obtain ⟨ad, e1, hx⟩ := Kd.at_int (Kd.C_below H4.out HBL.out) n (by omega) (by exact_mod_cast hltE)
                cases e1
                rw [Int.toNat_natCast] at hx
                have HX := Aside0.mk (show rd E n = ((recs (l.take (n + 1))).length : Int) by rw [HED.out]; exact endsL_rd l l.length n hlt)
                by_cases hle : rd E n ≤ cut
                · have hleb : decide (rd E n ≤ cut) = true := decide_eq_true hle
                  go_wp2
                  try (go_quiet (fail); go_wp2)
                  go_roundg (l.length - (n + 1))
                  case measure => have := HK.out; omega
                  case rel => exact ⟨n + 1, by go_num, by omega, ⟨by omega⟩, ⟨by rw [← HX.out]; exact hle⟩, HBL⟩
                · have hleb : decide (rd E n ≤ cut) = false := decide_eq_false hle
                  have HN1 := Aside0.mk (show n < l.length → cut < ((recs (l.take (n + 1))).length : Int) from fun _ => by rw [← HX.out]; omega)
                  obtain ⟨e0, he0⟩ : ∃ e0, e0 = rd E n := ⟨_, rfl⟩
                  rw [← he0] at hx hleb
                  have hce : cut < e0 := by rw [he0]; omega
                  clear HX HK hle he0 hltb
                  cases n with
                  | zero =>
                    rw [Addr.add_zero'] at hx
                    have HSC := Aside0.mk (scan_cut l (fun r hr => by have := HS.out r hr; omega) 0 cut.toNat (by omega) (by rw [← HYD.out]; omega) (by have := HN.out; omega) (fun hh => by have := HN1.out hh; omega))
                    have HLN := Aside0.mk (show (recs (l.take 0)).length ≤ cut.toNat by have := HN.out; omega)
                    obtain ⟨y, hy, hyr, hyC, hyc⟩ := cutH (P := Try.prog) (Kd.slice 5 (Kd.int .u8)) 25 22 Try.underlying25 info22 .i64 A c l 0 0 (by omega) (by omega) HCC.out
                    obtain ⟨x, hxx, hxr, hxC, hxc⟩ := cutH (P := Try.prog) (Kd.int .u8) 22 5 Try.underlying22 info5 .i64 Ao co Y cut cut.toNat (by omega) (by omega) HC3.out
                    have hyl12 : y.length ≤ 12 := by rw [hy.out, List.length_take]; omega
                    have HYI := Aside0.mk (show IsBs y by rw [hy.out]; exact fun r hr => HI.out r (List.mem_of_mem_take hr))
                    have hxl : x.length ≤ 3624 := by rw [hxx.out, List.length_take]; omega
                    have HXS := Aside0.mk (show (scan x).1 = y by rw [hxx.out, HYD.out, HSC.out, hy.out])
                    obtain ⟨rs, hrs⟩ : ∃ rs, rs = (scan x).2 := ⟨_, rfl⟩
                    have HRS := Aside0.mk hrs
                    have HRQ := Aside0.mk (show rs = cut - ((recs (l.take 0)).length : Int) by rw [hrs, hxx.out, HYD.out, HSC.out]; show ((cut.toNat - (recs (l.take 0)).length : Nat) : Int) = _; have := HLN.out; omega)
                    have HXB := Aside0.mk (show IsB x by rw [hxx.out]; exact HYB.out.take _)
                    clear hrs
                    have hrq : (rs == cut) = true := by rw [beq_iff_eq, HRQ.out]; simp [recs]
                    go_wp2_with (first | ((with_reducible refine gate_dst (N := 71) rfl ?_); (try (refine gate_guard (by rfl) ?_; dsimp only)); refine goesL_ (some 71) rfl rfl Try.func21 (by kernel_rfl) rfl #[.slice Ao x.length co] rfl (by (try simp only [List.map_toArray, List.map_cons, List.map_nil]); first | done | rfl | (simp only [List.length_drop, List.length_take]; rfl)) ?_; refine (rscan Ao co x _ (hxC.out _ (Kd.C_below H3.out HBL.out)) hxc HXB.out (by omega)).mono ?_; rintro e w2 ⟨v2, rfl, ho, hbl⟩; refine ⟨_, rfl, ?_⟩; rw [HXS.out] at ho; rw [← HRS.out]; have HBL' := Aside0.mk (below_step HBL.out hbl); clear HBL hbl; have HBL := HBL'; clear HBL'; obtain ⟨A8, c8, e8⟩ := Kd.S_slice ho; subst e8; have H8 := Aside0.mk (Kd.S_reads' ho).2.2; clear ho) | ((with_reducible refine gate_dst (N := 85) rfl ?_); (try (refine gate_guard (by rfl) ?_; dsimp only)); refine goesL_ (some 85) rfl rfl Try.func23 (by kernel_rfl) rfl #[.slice A8 y.length c8, .slice A y.length c] rfl (by (try simp only [List.map_toArray, List.map_cons, List.map_nil]); first | done | rfl | (simp only [List.length_drop, List.length_take]; rfl)) ?_; refine (same5 A8 c8 y A c y _ H8.out (hyC.out _ (Kd.C_below HR.out (below_step HB.out HBL.out))) HYI.out HYI.out (by omega)).mono ?_; rintro e w5 ⟨rfl, hd⟩; refine ⟨_, rfl, ?_⟩; have hbl := hd.below; clear hd; rw [decide_eq_true (rfl : y = y)]; have HBL' := Aside0.mk (below_step HBL.out hbl); clear HBL hbl H8; have HBL := HBL'; clear HBL') | ((with_reducible refine gate_dst (N := 94) rfl ?_); (try (refine gate_guard (by rfl) ?_; dsimp only)); refine goesL_ (some 94) rfl rfl Try.func24 (by kernel_rfl) rfl #[] rfl (by (try simp only [List.map_toArray, List.map_cons, List.map_nil]); first | done | rfl | (simp only [List.length_drop, List.length_take]; rfl)) ?_; refine (known5 _).mono ?_; rintro e w7 ⟨rfl, hbl⟩; refine ⟨_, rfl, ?_⟩; have HBL' := Aside0.mk (below_step HBL.out hbl); clear HBL hbl; have HBL := HBL'; clear HBL'))
                    go_ret
                    exact ⟨rfl, below_step HB.out HBL.out⟩
                  | succ n =>
                    rw [add_succ'] at hx
                    have HSC := Aside0.mk (scan_cut l (fun r hr => by have := HS.out r hr; omega) (n + 1) cut.toNat (by omega) (by rw [← HYD.out]; omega) (by have := HN.out; omega) (fun hh => by have := HN1.out hh; omega))
                    have HLN := Aside0.mk (show (recs (l.take (n + 1))).length ≤ cut.toNat by have := HN.out; omega)
                    obtain ⟨y, hy, hyr, hyC, hyc⟩ := cutH (P := Try.prog) (Kd.slice 5 (Kd.int .u8)) 25 22 Try.underlying25 info22 .i64 A c l ((n : Int) + 1) (n + 1) (by omega) (by omega) HCC.out
                    obtain ⟨x, hxx, hxr, hxC, hxc⟩ := cutH (P := Try.prog) (Kd.int .u8) 22 5 Try.underlying22 info5 .i64 Ao co Y cut cut.toNat (by omega) (by omega) HC3.out
                    have hyl12 : y.length ≤ 12 := by rw [hy.out, List.length_take]; omega
                    have HYI := Aside0.mk (show IsBs y by rw [hy.out]; exact fun r hr => HI.out r (List.mem_of_mem_take hr))
                    have hxl : x.length ≤ 3624 := by rw [hxx.out, List.length_take]; omega
                    have HXS := Aside0.mk (show (scan x).1 = y by rw [hxx.out, HYD.out, HSC.out, hy.out])
                    obtain ⟨rs, hrs⟩ : ∃ rs, rs = (scan x).2 := ⟨_, rfl⟩
                    have HRS := Aside0.mk hrs
                    have HRQ := Aside0.mk (show rs = cut - ((recs (l.take (n + 1))).length : Int) by rw [hrs, hxx.out, HYD.out, HSC.out]; show ((cut.toNat - (recs (l.take (n + 1))).length : Nat) : Int) = _; have := HLN.out; omega)
                    have HXB := Aside0.mk (show IsB x by rw [hxx.out]; exact HYB.out.take _)
                    clear hrs
                    have hnE : n < E.length := by have := HEL.out; omega
                    obtain ⟨ad2, e2, hx2⟩ := Kd.at_int (Kd.C_below H4.out HBL.out) n (by omega) (by exact_mod_cast hnE)
                    cases e2
                    rw [Int.toNat_natCast] at hx2
                    have HX2 := Aside0.mk (show rd E n = ((recs (l.take (n + 1))).length : Int) by rw [HED.out]; exact endsL_rd l l.length n (by omega))
                    obtain ⟨en, hen⟩ : ∃ en, en = rd E n := ⟨_, rfl⟩
                    rw [← hen] at HX2 hx2
                    have hrq : (rs == cut - en) = true := by rw [beq_iff_eq, HRQ.out, HX2.out]
                    have hen0 : 0 ≤ en := by rw [HX2.out]; omega
                    have hen1 : en ≤ cut := by have := HN.out; rw [HX2.out]; exact this
                    have hcn : cut ≤ 3624 := by omega
                    clear hen
                    go_wp2_with (first | ((with_reducible refine gate_dst (N := 71) rfl ?_); (try (refine gate_guard (by rfl) ?_; dsimp only)); refine goesL_ (some 71) rfl rfl Try.func21 (by kernel_rfl) rfl #[.slice Ao x.length co] rfl (by (try simp only [List.map_toArray, List.map_cons, List.map_nil]); first | done | rfl | (simp only [List.length_drop, List.length_take]; rfl)) ?_; refine (rscan Ao co x _ (hxC.out _ (Kd.C_below H3.out HBL.out)) hxc HXB.out (by omega)).mono ?_; rintro e w2 ⟨v2, rfl, ho, hbl⟩; refine ⟨_, rfl, ?_⟩; rw [HXS.out] at ho; rw [← HRS.out]; have HBL' := Aside0.mk (below_step HBL.out hbl); replace hx2 := pw_cell_below hbl hx2; clear HBL hbl; have HBL := HBL'; clear HBL'; obtain ⟨A8, c8, e8⟩ := Kd.S_slice ho; subst e8; have H8 := Aside0.mk (Kd.S_reads' ho).2.2; clear ho) | ((with_reducible refine gate_dst (N := 85) rfl ?_); (try (refine gate_guard (by rfl) ?_; dsimp only)); refine goesL_ (some 85) rfl rfl Try.func23 (by kernel_rfl) rfl #[.slice A8 y.length c8, .slice A y.length c] rfl (by (try simp only [List.map_toArray, List.map_cons, List.map_nil]); first | done | rfl | (simp only [List.length_drop, List.length_take]; rfl)) ?_; refine (same5 A8 c8 y A c y _ H8.out (hyC.out _ (Kd.C_below HR.out (below_step HB.out HBL.out))) HYI.out HYI.out (by omega)).mono ?_; rintro e w5 ⟨rfl, hd⟩; refine ⟨_, rfl, ?_⟩; have hbl := hd.below; clear hd; rw [decide_eq_true (rfl : y = y)]; have HBL' := Aside0.mk (below_step HBL.out hbl); clear HBL hbl H8; have HBL := HBL'; clear HBL') | ((with_reducible refine gate_dst (N := 94) rfl ?_); (try (refine gate_guard (by rfl) ?_; dsimp only)); refine goesL_ (some 94) rfl rfl Try.func24 (by kernel_rfl) rfl #[] rfl (by (try simp only [List.map_toArray, List.map_cons, List.map_nil]); first | done | rfl | (simp only [List.length_drop, List.length_take]; rfl)) ?_; refine (known5 _).mono ?_; rintro e w7 ⟨rfl, hbl⟩; refine ⟨_, rfl, ?_⟩; have HBL' := Aside0.mk (below_step HBL.out hbl); clear HBL hbl; have HBL := HBL'; clear HBL'))
                    go_ret
                    exact ⟨rfl, below_step HB.out HBL.out⟩
              · have HN1 := Aside0.mk (show n < l.length → cut < ((recs (l.take (n + 1))).length : Int) from fun hh => absurd hh hlt)
                have hEle : E.length ≤ n := by have := HEL.out; omega
                clear HK
                cases n with
                | zero =>
                  have HSC := Aside0.mk (scan_cut l (fun r hr => by have := HS.out r hr; omega) 0 cut.toNat (by omega) (by rw [← HYD.out]; omega) (by have := HN.out; omega) (fun hh => by have := HN1.out hh; omega))
                  have HLN := Aside0.mk (show (recs (l.take 0)).length ≤ cut.toNat by have := HN.out; omega)
                  obtain ⟨y, hy, hyr, hyC, hyc⟩ := cutH (P := Try.prog) (Kd.slice 5 (Kd.int .u8)) 25 22 Try.underlying25 info22 .i64 A c l 0 0 (by omega) (by omega) HCC.out
                  obtain ⟨x, hxx, hxr, hxC, hxc⟩ := cutH (P := Try.prog) (Kd.int .u8) 22 5 Try.underlying22 info5 .i64 Ao co Y cut cut.toNat (by omega) (by omega) HC3.out
                  have hyl12 : y.length ≤ 12 := by rw [hy.out, List.length_take]; omega
                  have HYI := Aside0.mk (show IsBs y by rw [hy.out]; exact fun r hr => HI.out r (List.mem_of_mem_take hr))
                  have hxl : x.length ≤ 3624 := by rw [hxx.out, List.length_take]; omega
                  have HXS := Aside0.mk (show (scan x).1 = y by rw [hxx.out, HYD.out, HSC.out, hy.out])
                  obtain ⟨rs, hrs⟩ : ∃ rs, rs = (scan x).2 := ⟨_, rfl⟩
                  have HRS := Aside0.mk hrs
                  have HRQ := Aside0.mk (show rs = cut - ((recs (l.take 0)).length : Int) by rw [hrs, hxx.out, HYD.out, HSC.out]; show ((cut.toNat - (recs (l.take 0)).length : Nat) : Int) = _; have := HLN.out; omega)
                  have HXB := Aside0.mk (show IsB x by rw [hxx.out]; exact HYB.out.take _)
                  clear hrs
                  have hrq : (rs == cut) = true := by rw [beq_iff_eq, HRQ.out]; simp [recs]
                  go_wp2_with (first | ((with_reducible refine gate_dst (N := 71) rfl ?_); (try (refine gate_guard (by rfl) ?_; dsimp only)); refine goesL_ (some 71) rfl rfl Try.func21 (by kernel_rfl) rfl #[.slice Ao x.length co] rfl (by (try simp only [List.map_toArray, List.map_cons, List.map_nil]); first | done | rfl | (simp only [List.length_drop, List.length_take]; rfl)) ?_; refine (rscan Ao co x _ (hxC.out _ (Kd.C_below H3.out HBL.out)) hxc HXB.out (by omega)).mono ?_; rintro e w2 ⟨v2, rfl, ho, hbl⟩; refine ⟨_, rfl, ?_⟩; rw [HXS.out] at ho; rw [← HRS.out]; have HBL' := Aside0.mk (below_step HBL.out hbl); clear HBL hbl; have HBL := HBL'; clear HBL'; obtain ⟨A8, c8, e8⟩ := Kd.S_slice ho; subst e8; have H8 := Aside0.mk (Kd.S_reads' ho).2.2; clear ho) | ((with_reducible refine gate_dst (N := 85) rfl ?_); (try (refine gate_guard (by rfl) ?_; dsimp only)); refine goesL_ (some 85) rfl rfl Try.func23 (by kernel_rfl) rfl #[.slice A8 y.length c8, .slice A y.length c] rfl (by (try simp only [List.map_toArray, List.map_cons, List.map_nil]); first | done | rfl | (simp only [List.length_drop, List.length_take]; rfl)) ?_; refine (same5 A8 c8 y A c y _ H8.out (hyC.out _ (Kd.C_below HR.out (below_step HB.out HBL.out))) HYI.out HYI.out (by omega)).mono ?_; rintro e w5 ⟨rfl, hd⟩; refine ⟨_, rfl, ?_⟩; have hbl := hd.below; clear hd; rw [decide_eq_true (rfl : y = y)]; have HBL' := Aside0.mk (below_step HBL.out hbl); clear HBL hbl H8; have HBL := HBL'; clear HBL') | ((with_reducible refine gate_dst (N := 94) rfl ?_); (try (refine gate_guard (by rfl) ?_; dsimp only)); refine goesL_ (some 94) rfl rfl Try.func24 (by kernel_rfl) rfl #[] rfl (by (try simp only [List.map_toArray, List.map_cons, List.map_nil]); first | done | rfl | (simp only [List.length_drop, List.length_take]; rfl)) ?_; refine (known5 _).mono ?_; rintro e w7 ⟨rfl, hbl⟩; refine ⟨_, rfl, ?_⟩; have HBL' := Aside0.mk (below_step HBL.out hbl); clear HBL hbl; have HBL := HBL'; clear HBL'))
                  go_ret
                  exact ⟨rfl, below_step HB.out HBL.out⟩
                | succ n =>
                  have HSC := Aside0.mk (scan_cut l (fun r hr => by have := HS.out r hr; omega) (n + 1) cut.toNat (by omega) (by rw [← HYD.out]; omega) (by have := HN.out; omega) (fun hh => by have := HN1.out hh; omega))
                  have HLN := Aside0.mk (show (recs (l.take (n + 1))).length ≤ cut.toNat by have := HN.out; omega)
                  obtain ⟨y, hy, hyr, hyC, hyc⟩ := cutH (P := Try.prog) (Kd.slice 5 (Kd.int .u8)) 25 22 Try.underlying25 info22 .i64 A c l ((n : Int) + 1) (n + 1) (by omega) (by omega) HCC.out
                  obtain ⟨x, hxx, hxr, hxC, hxc⟩ := cutH (P := Try.prog) (Kd.int .u8) 22 5 Try.underlying22 info5 .i64 Ao co Y cut cut.toNat (by omega) (by omega) HC3.out
                  have hyl12 : y.length ≤ 12 := by rw [hy.out, List.length_take]; omega
                  have HYI := Aside0.mk (show IsBs y by rw [hy.out]; exact fun r hr => HI.out r (List.mem_of_mem_take hr))
                  have hxl : x.length ≤ 3624 := by rw [hxx.out, List.length_take]; omega
                  have HXS := Aside0.mk (show (scan x).1 = y by rw [hxx.out, HYD.out, HSC.out, hy.out])
                  obtain ⟨rs, hrs⟩ : ∃ rs, rs = (scan x).2 := ⟨_, rfl⟩
                  have HRS := Aside0.mk hrs
                  have HRQ := Aside0.mk (show rs = cut - ((recs (l.take (n + 1))).length : Int) by rw [hrs, hxx.out, HYD.out, HSC.out]; show ((cut.toNat - (recs (l.take (n + 1))).length : Nat) : Int) = _; have := HLN.out; omega)
                  have HXB := Aside0.mk (show IsB x by rw [hxx.out]; exact HYB.out.take _)
                  clear hrs
                  have hnE : n < E.length := by have := HEL.out; omega
                  obtain ⟨ad2, e2, hx2⟩ := Kd.at_int (Kd.C_below H4.out HBL.out) n (by omega) (by exact_mod_cast hnE)
                  cases e2
                  rw [Int.toNat_natCast] at hx2
                  have HX2 := Aside0.mk (show rd E n = ((recs (l.take (n + 1))).length : Int) by rw [HED.out]; exact endsL_rd l l.length n (by omega))
                  obtain ⟨en, hen⟩ : ∃ en, en = rd E n := ⟨_, rfl⟩
                  rw [← hen] at HX2 hx2
                  have hrq : (rs == cut - en) = true := by rw [beq_iff_eq, HRQ.out, HX2.out]
                  have hen0 : 0 ≤ en := by rw [HX2.out]; omega
                  have hen1 : en ≤ cut := by have := HN.out; rw [HX2.out]; exact this
                  have hcn : cut ≤ 3624 := by omega
                  clear hen
                  go_wp2_with (first | ((with_reducible refine gate_dst (N := 71) rfl ?_); (try (refine gate_guard (by rfl) ?_; dsimp only)); refine goesL_ (some 71) rfl rfl Try.func21 (by kernel_rfl) rfl #[.slice Ao x.length co] rfl (by (try simp only [List.map_toArray, List.map_cons, List.map_nil]); first | done | rfl | (simp only [List.length_drop, List.length_take]; rfl)) ?_; refine (rscan Ao co x _ (hxC.out _ (Kd.C_below H3.out HBL.out)) hxc HXB.out (by omega)).mono ?_; rintro e w2 ⟨v2, rfl, ho, hbl⟩; refine ⟨_, rfl, ?_⟩; rw [HXS.out] at ho; rw [← HRS.out]; have HBL' := Aside0.mk (below_step HBL.out hbl); replace hx2 := pw_cell_below hbl hx2; clear HBL hbl; have HBL := HBL'; clear HBL'; obtain ⟨A8, c8, e8⟩ := Kd.S_slice ho; subst e8; have H8 := Aside0.mk (Kd.S_reads' ho).2.2; clear ho) | ((with_reducible refine gate_dst (N := 85) rfl ?_); (try (refine gate_guard (by rfl) ?_; dsimp only)); refine goesL_ (some 85) rfl rfl Try.func23 (by kernel_rfl) rfl #[.slice A8 y.length c8, .slice A y.length c] rfl (by (try simp only [List.map_toArray, List.map_cons, List.map_nil]); first | done | rfl | (simp only [List.length_drop, List.length_take]; rfl)) ?_; refine (same5 A8 c8 y A c y _ H8.out (hyC.out _ (Kd.C_below HR.out (below_step HB.out HBL.out))) HYI.out HYI.out (by omega)).mono ?_; rintro e w5 ⟨rfl, hd⟩; refine ⟨_, rfl, ?_⟩; have hbl := hd.below; clear hd; rw [decide_eq_true (rfl : y = y)]; have HBL' := Aside0.mk (below_step HBL.out hbl); clear HBL hbl H8; have HBL := HBL'; clear HBL') | ((with_reducible refine gate_dst (N := 94) rfl ?_); (try (refine gate_guard (by rfl) ?_; dsimp only)); refine goesL_ (some 94) rfl rfl Try.func24 (by kernel_rfl) rfl #[] rfl (by (try simp only [List.map_toArray, List.map_cons, List.map_nil]); first | done | rfl | (simp only [List.length_drop, List.length_take]; rfl)) ?_; refine (known5 _).mono ?_; rintro e w7 ⟨rfl, hbl⟩; refine ⟨_, rfl, ?_⟩; have HBL' := Aside0.mk (below_step HBL.out hbl); clear HBL hbl; have HBL := HBL'; clear HBL'))
                  go_ret
                  exact ⟨rfl, below_step HB.out HBL.out⟩
end Go.Proofs.Ytoljpojpncjmoaa.B
