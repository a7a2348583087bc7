/- girolaw2.WordRows: the walk. -/
import Derived.Test.YtoljpojpncjmoaaWordK
namespace Go.Proofs.Ytoljpojpncjmoaa.B
open Go.RowKit Go.Proofs.YtoljpojpncjmoaaW.PrintWords Go.Proofs.YtoljpojpncjmoaaW.PrintLast Go.Proofs.YtoljpojpncjmoaaW.PrintMore
attribute [local go_sem] max2_int min2_int max_two min_two max_three min_three max_four min_four
set_option linter.unusedVariables false
set_option linter.unusedSimpArgs false

theorem at_I1 {w : World} {A : Option Addr} {n : Nat} {xs : List (List Int)} (h : Kd.C (Kd.slice 2 (Kd.int .i64)) w A n xs) (i : Int) (h0 : 0 ≤ i) (h1 : i < n) : ∃ ad A0 c0, A = some ad ∧ w.cell? (ad.add i.toNat) = some (.slice A0 (rd_L1 xs i).length c0) ∧ (rd_L1 xs i).length ≤ c0 ∧ (Kd.int .i64).C w A0 (rd_L1 xs i).length (rd_L1 xs i) := by
  obtain ⟨ad, c, e, _, hK, hc0⟩ := Kd.C_get h ([] : List Int) i h0 h1
  have hc : ∀ j u, c[j]? = some u → w.cell? (ad.add (i.toNat * 1 + j)) = some u := hc0
  obtain ⟨A0, c0, rfl, l0, g0⟩ := hK
  exact ⟨ad, A0, c0, e, by have hq := hc 0 _ rfl; rwa [Nat.mul_one, Nat.add_zero] at hq, l0, g0⟩

set_option maxHeartbeats 4000000 in
theorem lawRows (A : Option Addr) (c : Nat) (l : List (List Int)) (w : World) (hr : Kd.C (Kd.slice 2 (Kd.int .i64)) w A l.length l) (hc : l.length ≤ c) (hn : ∀ r ∈ l, IsN r) :
    Calls Try.prog 12 #[.slice A l.length c] w fun e w' => e = .returned (.bool true) ∧ Below w.heap.size w w' := by
  have HR := Aside0.mk hr
  have HI := Aside0.mk hn
  clear hr hn hc
  have HB := Aside0.mk (Below.refl w.heap.size w)
  have hmax := HR.out.2.1
  by_cases h12 : 12 < l.length
  · have h1b : decide (12 < (l.length : Int)) = true := decide_eq_true (by omega)
    go_enter Try.func12, Try.ntmps12
    go_wp2
    go_ret
    exact ⟨rfl, HB.out⟩
  · have h1b : decide (12 < (l.length : Int)) = false := decide_eq_false (by omega)
    have hl12 : l.length ≤ 12 := by omega
    clear h12 hmax
    go_enter Try.func12, Try.ntmps12
    go_wp2
    go_loopg [3, 4] l.length (fun kq v3 v4 w' => ∃ i : Nat, v4 = .int .i64 (i : Int) ∧ i ≤ l.length ∧ Aside0 (kq + i = l.length) ∧ Aside0 (∀ r ∈ l.take i, r.length ≤ 20) ∧ Aside0 (Kd.R (Kd.int .u8) 5 w' w.heap.size (fun _ => True) v3 (flatR (l.take i))) ∧ Aside0 (Below w.heap.size w w'))
    case atStart => exact ⟨0, rfl, Nat.zero_le _, ⟨rfl⟩, ⟨by simp⟩, ⟨Kd.R_nil _ _ _ _ _⟩, HB⟩
    case round =>
      clear HB
      obtain ⟨i, rfl, hi, HK, HS, HO, HB⟩ := hrel
      by_cases c4 : i < l.length
      · have c4b : decide ((i : Int) < (l.length : Int)) = true := decide_eq_true (by omega)
        obtain ⟨ad, Ai, ci, e1, hx, hxl, hxC⟩ := at_I1 (Kd.C_below HR.out HB.out) i (by omega) (by exact_mod_cast c4)
        cases e1
        rw [Int.toNat_natCast] at hx
        by_cases h20 : 20 < (rd_L1 l i).length
        · have h20b : decide (20 < ((rd_L1 l i).length : Int)) = true := decide_eq_true (by omega)
          have HxC := Aside0.mk hxC
          clear hxC
          go_wp2
          go_ret
          exact ⟨rfl, HB.out⟩
        · have h20b : decide (20 < ((rd_L1 l i).length : Int)) = false := decide_eq_false (by omega)
          have h20' : (rd_L1 l i).length ≤ 20 := by omega
          have HxC := Aside0.mk hxC
          have HS' := Aside0.mk (show ∀ r ∈ l.take (i + 1), r.length ≤ 20 by
            intro r hr
            rw [List.take_succ_eq_append_getElem c4] at hr
            rcases List.mem_append.1 hr with hr | hr
            · exact HS.out r hr
            · rw [List.mem_singleton.1 hr]
              have e := h20'
              unfold rd_L1 at e
              rwa [Int.toNat_natCast, List.getD_eq_getElem?_getD, List.getElem?_eq_getElem c4] at e)
          have HT := Aside0.mk (flatR_take_succ l i c4)
          have hfl := Aside0.mk (show (flatR (l.take i)).length ≤ 2016 by
            have := flatR_length (l.take i) 20 HS.out
            rw [List.length_take] at this
            omega)
          clear hxC h20
          obtain ⟨Y, hY⟩ : ∃ Y, Y = flatR (l.take i) := ⟨_, rfl⟩
          rw [← hY] at HO HT hfl
          clear hY
          obtain ⟨Ao, co, eo⟩ := Kd.R_slice HO.out
          subst eo
          obtain ⟨u, hu⟩ : ∃ u, u = rd_L1 l i := ⟨_, rfl⟩
          rw [← hu] at hx hxl HxC h20b h20'
          have HU := Aside0.mk hu
          clear hu
          obtain ⟨ru, hru⟩ : ∃ ru, ru = row u := ⟨_, rfl⟩
          have HRU := Aside0.mk hru
          have hrul : ru.length ≤ 168 := by rw [hru, row_length]; omega
          clear hru
          go_wp2_with (first | ((with_reducible refine gate_dst (N := 32) rfl ?_); (try (refine gate_guard (by rfl) ?_; dsimp only)); refine goesL_ (some 32) rfl rfl Try.func33 (by kernel_rfl) rfl #[.slice Ai u.length ci] rfl (by (try simp only [List.map_toArray, List.map_cons, List.map_nil]); first | done | rfl | (simp only [List.length_drop, List.length_take]; rfl)) ?_; refine (wrow Ai ci u _ HxC.out (by omega)).mono ?_; rintro e w2 ⟨v2, rfl, ho, hbl⟩; refine ⟨_, rfl, ?_⟩; rw [← HRU.out] at ho; have HO' := Aside0.mk (Kd.R_below HO.out hbl); have HB' := Aside0.mk (below_step HB.out hbl); clear HB HO hx HxC; have HB := HB'; have HO := HO'; clear HB' HO' hbl; obtain ⟨A2, c2, e2⟩ := Kd.R_slice ho; subst e2; have H2 := Aside0.mk (Kd.R_reads' ho).2.2; clear ho) | ((with_reducible refine gate_dst (N := 33) rfl ?_); refine Kd.R_append_row (Value.int .u8) 0 (h1 := fun _ => rfl) (w0 := w) w.heap.size rfl _ _ 22 5 (.int .u8 0) 1 rfl Try.underlying22 info5 rfl (by decide) (.slice Ao Y.length co) Y ru A2 ru.length c2 (fun _ => True) rfl rfl (fun _ _ => trivial) HO.out H2.out HB.out HB.out.size (by have := hfl.out; omega) ?_; intro v5 w5 ho hb hg_ hnew_; clear hg_ hnew_ HB HO; have HB := Aside0.mk hb; have HO := Aside0.mk ho; clear ho hb))
          go_roundg (l.length - (i + 1))
          case measure => have := HK.out; omega
          case rel => exact ⟨i + 1, by go_num, by omega, ⟨by omega⟩, HS', ⟨by rw [HT.out, show row (l.getD i []) = ru by rw [HRU.out, HU.out]; rfl]; exact HO.out⟩, HB⟩
      · have c4b : decide ((i : Int) < (l.length : Int)) = false := decide_eq_false (by omega)
        have e : l.take i = l := List.take_of_length_le (by omega)
        rw [e] at HS HO
        clear e
        obtain ⟨Ao, co, eo⟩ := Kd.R_slice HO.out
        subst eo
        have HF := Aside0.mk (show l.drop 0 = l from rfl)
        have hfl : (flatR l).length ≤ 2016 := by
          have := flatR_length l 20 HS.out
          omega
        have H3 := Aside0.mk (Kd.R_reads' HO.out).2.2
        have HC3 := Aside0.mk (Kd.R_reads' HO.out).2.1
        clear HO
        go_wp2
        go_loopg [3, 5, 6, 7, 8] l.length (fun kq v3 v5 v6 v7 v8 w' => ∃ (i : Nat) (x : List Int) (A3 : Option Addr) (c3 : Nat), v5 = .int .i64 (i : Int) ∧ i ≤ l.length ∧ v3 = .slice A3 x.length c3 ∧ x.length ≤ c3 ∧ x.length ≤ 2016 ∧ Aside0 (kq + i = l.length) ∧ Aside0 (x = flatR (l.drop i)) ∧ Aside0 (Kd.C (Kd.int .u8) w' A3 x.length x) ∧ Aside0 (Below w.heap.size w w'))
        case atStart => exact ⟨0, flatR l, Ao, co, rfl, Nat.zero_le _, rfl, HC3.out, hfl, ⟨rfl⟩, ⟨rfl⟩, H3, HB⟩
        case round =>
          clear H3 HC3 HB hfl c4b
          obtain ⟨i, x, A3, c3, rfl, hi, rfl, hc3, hx20, HK, HX, H3, HB⟩ := hrel
          by_cases c4 : i < l.length
          · have c4b : decide ((i : Int) < (l.length : Int)) = true := decide_eq_true (by omega)
            obtain ⟨u, hu⟩ : ∃ u, u = rd_L1 l i := ⟨_, rfl⟩
            have HU := Aside0.mk hu
            have hum : u ∈ l := by rw [hu]; unfold rd_L1; rw [Int.toNat_natCast, List.getD_eq_getElem?_getD, List.getElem?_eq_getElem c4]; exact List.getElem_mem c4
            have hu20 : u.length ≤ 20 := HS.out u hum
            have hxd := Aside0.mk (show x = row u ++ flatR (l.drop (i + 1)) by rw [HX.out, flatR_drop l i c4, hu]; rfl)
            have HN := Aside0.mk (show nextB x = true ∧ nextL x = u ∧ nextR x = flatR (l.drop (i + 1)) by rw [hxd.out]; exact next_row (HI.out u hum) (by omega) _)
            have HXB := Aside0.mk (show IsB x by rw [HX.out]; exact flatR_bytes _)
            obtain ⟨y, hy⟩ : ∃ y, y = flatR (l.drop (i + 1)) := ⟨_, rfl⟩
            rw [← hy] at HN hxd
            have HY := Aside0.mk hy
            have hyl : y.length ≤ x.length := by rw [hxd.out, List.length_append]; omega
            clear hu hum hy
            go_wp2_with (first | ((with_reducible refine gate_dst (N := 42) rfl ?_); (try (refine gate_guard (by rfl) ?_; dsimp only)); refine goesL_ (some 42) rfl rfl Try.func27 (by kernel_rfl) rfl #[.slice A3 x.length c3] rfl (by (try simp only [List.map_toArray, List.map_cons, List.map_nil]); first | done | rfl | (simp only [List.length_drop, List.length_take]; rfl)) ?_; refine (wnext A3 c3 x _ H3.out hc3 HXB.out (by omega)).mono ?_; rintro e w2 ⟨v2, A2, c2, rfl, ho, h3, hc2, hbl⟩; refine ⟨_, rfl, ?_⟩; rw [HN.out.2.1] at ho; rw [HN.out.1]; rw [HN.out.2.2] at h3 hc2 ⊢; have HB' := Aside0.mk (below_step HB.out hbl); clear HB H3; have HB := HB'; clear HB' hbl; obtain ⟨A4, c4', e4⟩ := Kd.R_slice ho; subst e4; have H4 := Aside0.mk (Kd.R_reads' ho).2.2; have H5 := Aside0.mk h3; clear ho h3; obtain ⟨ad, Ai, ci, e1, hx, hxl, hxC⟩ := at_I1 (Kd.C_below HR.out HB.out) i (by omega) (by exact_mod_cast c4); cases e1; rw [Int.toNat_natCast] at hx; rw [← HU.out] at hx hxl hxC; have HxC := Aside0.mk hxC; clear hxC) | ((with_reducible refine gate_dst (N := 54) rfl ?_); (try (refine gate_guard (by rfl) ?_; dsimp only)); refine goesL_ (some 54) rfl rfl Try.func29 (by kernel_rfl) rfl #[.slice A4 u.length c4', .slice Ai u.length ci] rfl (by (try simp only [List.map_toArray, List.map_cons, List.map_nil]); first | done | rfl | (simp only [List.length_drop, List.length_take]; rfl)) ?_; refine (same2 A4 c4' u Ai ci u _ H4.out HxC.out (by omega)).mono ?_; rintro e w5 ⟨rfl, hd⟩; refine ⟨_, rfl, ?_⟩; have hbl := hd.below; clear hd hx HxC H4; rw [decide_eq_true (rfl : u = u)]; have H5_ := Aside0.mk (Kd.C_below H5.out hbl); clear H5; have H5 := H5_; clear H5_; have HB_ := Aside0.mk (below_step HB.out hbl); clear HB; have HB := HB_; clear HB_; clear hbl))
            go_roundg (l.length - (i + 1))
            case measure => have := HK.out; omega
            case rel => exact ⟨i + 1, y, A2, c2, by go_num, by omega, rfl, hc2, by omega, ⟨by omega⟩, HY, H5, HB⟩
          · have c4b : decide ((i : Int) < (l.length : Int)) = false := decide_eq_false (by omega)
            have hx0 : x = [] := by
              rw [HX.out, List.drop_of_length_le (by omega)]
              rfl
            subst hx0
            have h0B : nextB ([] : List Int) = false := nextB_short (by decide)
            have HN := Aside0.mk h0B
            clear h0B
            go_wp2_with (first | ((with_reducible refine gate_dst (N := 60) rfl ?_); (try (refine gate_guard (by rfl) ?_; dsimp only)); refine goesL_ (some 60) rfl rfl Try.func27 (by kernel_rfl) rfl #[.slice A3 0 c3] rfl (by (try simp only [List.map_toArray, List.map_cons, List.map_nil]); first | done | rfl | (simp only [List.length_drop, List.length_take]; rfl)) ?_; refine (wnext A3 c3 [] _ H3.out hc3 IsB.nil (by simp)).mono ?_; rintro e w2 ⟨v2, A2, c2, rfl, ho, h3, hc2, hbl⟩; refine ⟨_, rfl, ?_⟩; rw [nextL_no HN.out] at ho; rw [nextR_no HN.out, HN.out]; have HB_ := Aside0.mk (below_step HB.out hbl); clear HB; have HB := HB_; clear HB_; clear hbl; obtain ⟨A4, c4', e4⟩ := Kd.R_slice ho; subst e4; clear ho h3 hc2) | ((with_reducible refine gate_dst (N := 72) rfl ?_); (try (refine gate_guard (by rfl) ?_; dsimp only)); refine goesL_ (some 72) rfl rfl Try.func30 (by kernel_rfl) rfl #[] rfl (by (try simp only [List.map_toArray, List.map_cons, List.map_nil]); first | done | rfl | (simp only [List.length_drop, List.length_take]; rfl)) ?_; refine (known2 _).mono ?_; rintro e w7 ⟨rfl, hbl⟩; refine ⟨_, rfl, ?_⟩; have HB_ := Aside0.mk (below_step HB.out hbl); clear HB; have HB := HB_; clear HB_; clear hbl))
            go_ret
            exact ⟨rfl, HB.out⟩
end Go.Proofs.Ytoljpojpncjmoaa.B
