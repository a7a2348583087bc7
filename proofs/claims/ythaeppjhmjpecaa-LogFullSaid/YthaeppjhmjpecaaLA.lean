/- LogFull: the walk. -/
import Derived.Test.YthaeppjhmjpecaaLM3
namespace Go.Proofs.Ythaeppjhmjpecaa.B
open Go.RowKit Go.Proofs.YthaeppjhmjpecaaW.PrintWords Go.Proofs.YthaeppjhmjpecaaW.PrintLast Go.Proofs.YthaeppjhmjpecaaW.PrintMore
attribute [local go_sem] max2_int min2_int max_two min_two max_three min_three max_four min_four
set_option linter.unusedVariables false
set_option linter.unusedSimpArgs false
set_option maxRecDepth 100000 in
set_option maxHeartbeats 4000000 in
theorem lawFull (room : Int) (As : Option Addr) (cs : Nat) (snap : List Int) (Al : Option Addr) (cl : Nat) (l : List (List Int)) (Ab : Option Addr) (cb : Nat) (big : List Int) (w : World) (hrs : Kd.C (Kd.int .u8) w As snap.length snap) (hcs : snap.length ≤ cs) (hbs : IsB snap) (hls : snap.length ≤ 140737488351232) (hrl : Kd.C (Kd.slice 5 (Kd.int .u8)) w Al l.length l) (hcl : l.length ≤ cl) (hbl' : ∀ r ∈ l, ∀ x ∈ r, 0 ≤ x ∧ x < 256) (hrb : Kd.C (Kd.int .u8) w Ab big.length big) (hcb : big.length ≤ cb) (hbb : IsB big) (hlb : big.length ≤ 140737488351232) :
    Calls Try.prog 11 #[.int .i64 room, .slice As snap.length cs, .slice Al l.length cl, .slice Ab big.length cb] w fun e w' => e = .returned (.bool true) ∧ Below w.heap.size w w' := by
  have HB := Aside0.mk (Below.refl w.heap.size w)
  have HCS := Aside0.mk hrs
  have HCL := Aside0.mk hrl
  have HCB := Aside0.mk hrb
  have HAS := Aside0.mk (C_block hrs)
  have HLB := Aside0.mk hbl'
  clear hrs hrl hrb hbl'
  by_cases c0 : room < 0
  · have t0 : decide (room < 0) = true := decide_eq_true c0
    go_enter Try.func11, Try.ntmps11
    go_wp2
    go_ret
    exact ⟨rfl, HB.out⟩
  have t0 : decide (room < 0) = false := decide_eq_false c0
  by_cases c1 : 300 < room
  · have t1 : decide (300 < room) = true := decide_eq_true c1
    go_enter Try.func11, Try.ntmps11
    go_wp2
    go_ret
    exact ⟨rfl, HB.out⟩
  have t1 : decide (300 < room) = false := decide_eq_false c1
  by_cases c2 : 100 < snap.length
  · have t2 : decide (100 < (snap.length : Int)) = true := decide_eq_true (by omega)
    have t2n : decide (100 < snap.length) = true := decide_eq_true c2
    go_enter Try.func11, Try.ntmps11
    go_wp2
    go_ret
    exact ⟨rfl, HB.out⟩
  have t2 : decide (100 < (snap.length : Int)) = false := decide_eq_false (by omega)
  have t2n : decide (100 < snap.length) = false := decide_eq_false c2
  by_cases c3 : 20 < l.length
  · have t3 : decide (20 < (l.length : Int)) = true := decide_eq_true (by omega)
    have t3n : decide (20 < l.length) = true := decide_eq_true c3
    go_enter Try.func11, Try.ntmps11
    go_wp2
    go_ret
    exact ⟨rfl, HB.out⟩
  have t3 : decide (20 < (l.length : Int)) = false := decide_eq_false (by omega)
  have t3n : decide (20 < l.length) = false := decide_eq_false c3
  by_cases c4 : 400 < big.length
  · have t4 : decide (400 < (big.length : Int)) = true := decide_eq_true (by omega)
    have t4n : decide (400 < big.length) = true := decide_eq_true c4
    go_enter Try.func11, Try.ntmps11
    go_wp2
    go_ret
    exact ⟨rfl, HB.out⟩
  have t4 : decide (400 < (big.length : Int)) = false := decide_eq_false (by omega)
  have t4n : decide (400 < big.length) = false := decide_eq_false c4
  have hrm : 0 ≤ room ∧ room ≤ 300 := by omega
  have hs1 : snap.length ≤ 100 := by omega
  have hl1 : l.length ≤ 20 := by omega
  have hb1 : big.length ≤ 400 := by omega
  have HZG := Aside0.mk (zero_G (room := room) (by omega))
  clear c0 c1 c2 c3 c4
  by_cases c5 : room < (snap.length : Int) + 10
  · have t5 : decide (room < (snap.length : Int) + 10) = true := decide_eq_true c5
    have HOP := Aside0.mk (zero_open_no (room := room) (s := snap) (by omega) (by omega))
    clear c5
    go_enter Try.func11, Try.ntmps11
    go_wp2_with (first | ((with_reducible refine gate_dst (N := 45) rfl ?_); (try (refine gate_guard (by rfl) ?_; dsimp only)); refine goesL_ (some 45) rfl rfl Try.func14 (by kernel_rfl) rfl #[.int .i64 room] rfl (by (try simp only [List.map_toArray, List.map_cons, List.map_nil]); first | done | rfl | (simp only [List.length_drop, List.length_take]; rfl)) ?_; refine (tnew room _ hrm.1 (by omega) (fun k => w.heap.size ≤ k) (Nat.le_refl _)).mono ?_; rintro e w1 ⟨rfl, hD, hbl⟩; refine ⟨_, rfl, ?_⟩; have HD := Aside0.mk (show IsD w1 (fun k => w.heap.size ≤ k) w.heap.size (Dk.zero room) from hD); have HB' := Aside0.mk (below_step HB.out hbl); clear HB hbl hD; have HB := HB'; clear HB') | ((with_reducible refine gate_dst (N := 49) rfl ?_); (try (refine gate_guard (by rfl) ?_; dsimp only)); refine goesL_ (some 49) rfl rfl Try.func37 (by kernel_rfl) rfl #[.pointer (some ⟨w.heap.size, 0, none⟩), .slice As snap.length cs] rfl (by (try simp only [List.map_toArray, List.map_cons, List.map_nil]); first | done | rfl | (simp only [List.length_drop, List.length_take]; rfl)) ?_; refine ((lopen w.heap.size (fun k => w.heap.size ≤ k) (Dk.zero room) As cs snap 0 _ HD.out ⟨IsB.nil, IsB.nil⟩ HZG.out (by decide) (Kd.C_below HCS.out HB.out) (by omega) (fun k hk => Nat.le_trans HB.out.size hk) (fun ad e hp hk => by have := HAS.out ad e hp; omega)).mono (fun e w' h => OpenedV.inv_no h (by rw [HOP.out.1]; decide))).mono ?_; rintro e w3 ⟨rfl, hfr, hD⟩; refine ⟨_, rfl, ?_⟩; rw [HOP.out.1]; have HB' := Aside0.mk (hfr.below' HB.out (fun k h => h)); clear HB HD hfr hD; have HB := HB'; clear HB') | ((with_reducible refine gate_dst (N := 66) rfl ?_); (try (refine gate_guard (by rfl) ?_; dsimp only)); refine goesL_ (some 66) rfl rfl Try.func35 (by kernel_rfl) rfl #[] rfl (by (try simp only [List.map_toArray, List.map_cons, List.map_nil]); first | done | rfl | (simp only [List.length_drop, List.length_take]; rfl)) ?_; refine (known6 _).mono ?_; rintro e wk ⟨rfl, hbl⟩; refine ⟨_, rfl, ?_⟩; have HBK := Aside0.mk (below_step HB.out hbl); clear hbl))
    go_ret
    exact ⟨rfl, HBK.out⟩
  have t5 : decide (room < (snap.length : Int) + 10) = false := decide_eq_false c5
  have hrs : 10 + (snap.length : Int) ≤ room := by omega
  have HOP := Aside0.mk (zero_open_yes (room := room) (s := snap) (by omega) hrs)
  clear c5
  go_enter Try.func11, Try.ntmps11
  go_wp2_with (first | ((with_reducible refine gate_dst (N := 45) rfl ?_); (try (refine gate_guard (by rfl) ?_; dsimp only)); refine goesL_ (some 45) rfl rfl Try.func14 (by kernel_rfl) rfl #[.int .i64 room] rfl (by (try simp only [List.map_toArray, List.map_cons, List.map_nil]); first | done | rfl | (simp only [List.length_drop, List.length_take]; rfl)) ?_; refine (tnew room _ hrm.1 (by omega) (fun k => w.heap.size ≤ k) (Nat.le_refl _)).mono ?_; rintro e w1 ⟨rfl, hD, hbl⟩; refine ⟨_, rfl, ?_⟩; have HD := Aside0.mk (show IsD w1 (fun k => w.heap.size ≤ k) w.heap.size (Dk.zero room) from hD); have HB' := Aside0.mk (below_step HB.out hbl); clear HB hbl hD; have HB := HB'; clear HB') | ((with_reducible refine gate_dst (N := 49) rfl ?_); (try (refine gate_guard (by rfl) ?_; dsimp only)); refine goesL_ (some 49) rfl rfl Try.func37 (by kernel_rfl) rfl #[.pointer (some ⟨w.heap.size, 0, none⟩), .slice As snap.length cs] rfl (by (try simp only [List.map_toArray, List.map_cons, List.map_nil]); first | done | rfl | (simp only [List.length_drop, List.length_take]; rfl)) ?_; refine ((lopen w.heap.size (fun k => w.heap.size ≤ k) (Dk.zero room) As cs snap 0 _ HD.out ⟨IsB.nil, IsB.nil⟩ HZG.out (by decide) (Kd.C_below HCS.out HB.out) (by omega) (fun k hk => Nat.le_trans HB.out.size hk) (fun ad e hp hk => by have := HAS.out ad e hp; omega)).mono (fun e w' h => OpenedV.inv h HOP.out.1)).mono ?_; rintro e w3 ⟨gl, M, v1, v2, rfl, hfr, hM, hgl, hD, hL, hv⟩; refine ⟨_, rfl, ?_⟩; have HLT := Aside0.mk (LT.new (w := w) (L := ⟨0, 1, 0, false⟩) (okd := fun k => w.heap.size ≤ k ∧ k < M) (by rw [HOP.out.2.1] at hD; exact hD) (by rw [HOP.out.2.2.2.2] at hL; exact hL) (fun k hk => ⟨hk.1, by have := hk.2; omega⟩) (by have := HB.out.size; omega) (hfr.below' HB.out (fun k h => h))); clear HB HD hfr hM hgl hD hL; obtain ⟨Ax, cx, Ay, cy, ex, ey, hx1, hx2, hx3, hx4⟩ := hv; subst ex ey; clear hx1 hx2 hx3 hx4))
  have HFT := Aside0.mk (show Fit snap [] from ⟨by omega, fun r hr => by cases hr⟩)
  go_loopg [14, 15, 16] l.length (fun kq v14 v15 v16 w' => ∃ (i : Nat) (left : Int), v16 = .int .i64 (i : Int) ∧ v15 = .int .i64 left ∧ i ≤ l.length ∧ 0 ≤ left ∧ left ≤ 300 ∧ Aside0 (kq + i = l.length) ∧ Aside0 (∃ (rows : List (List Int)) (ops : Int), LT w' w w.heap.size gl (Dk.one room (lf 1 snap rows) ops) ⟨0, 1, rows.length, false⟩ rows v14 ∧ 0 ≤ ops ∧ ops ≤ 3 + 2 * (i : Int) ∧ Fit snap rows ∧ IsBs rows ∧ rows.length ≤ i ∧ left = room - (lf 1 snap rows).length))
  case atStart => exact ⟨0, room - (snap.length : Int) - 10, rfl, rfl, Nat.zero_le _, by omega, by omega, ⟨rfl⟩, ⟨[], 3, HLT.out, by decide, by decide, HFT.out, IsBs.nil, Nat.zero_le _, by rw [lf_len HFT.out]; show room - (snap.length : Int) - 10 = room - ((10 + snap.length + 0 : Nat) : Int); omega⟩⟩
  case round =>
    clear HLT HFT
    obtain ⟨i, left, rfl, rfl, hi, hl0, hl3, HK, ⟨rows, ops, hLT, ho0, ho1, hfit, hrb, hri, hleft⟩⟩ := hrel
    have HLT := Aside0.mk hLT
    have HFT := Aside0.mk hfit
    have HRB := Aside0.mk hrb
    have HLF := Aside0.mk hleft
    have hll : ((lf 1 snap rows).length : Int) ≤ room := by omega
    have HG := Aside0.mk (one_G (ops := ops) hll (by omega) ho0)
    have HIB := Aside0.mk (show (Dk.one room (lf 1 snap rows) ops).IB from ⟨lf_bytes hbs hrb, IsB.nil⟩)
    have HLG := Aside0.mk (show Lg.G ⟨0, 1, rows.length, false⟩ 900000 from ⟨.inl rfl, show (1 : Int) ≤ 1 by decide, show (1 : Int) ≤ 4611686018427387904 by decide, show (0 : Int) ≤ (rows.length : Int) by omega, show (rows.length : Int) ≤ 900000 by omega⟩)
    obtain ⟨Ar, cr, er, hcr, hCr⟩ := hLT.rows_slice
    subst er
    clear hLT hfit hrb hleft hCr
    by_cases ci : i < l.length
    · have cib : decide ((i : Int) < (l.length : Int)) = true := decide_eq_true (by exact_mod_cast ci)
      obtain ⟨u, hu⟩ : ∃ u, rd_L1 l (i : Int) = u := ⟨_, rfl⟩
      obtain ⟨ad, A0, c0, e0, hcellw, hc0, hroww⟩ := at_L1 HCL.out (i : Int) (by omega) (by exact_mod_cast ci)
      cases e0
      rw [hu] at hcellw hc0 hroww
      rw [Int.toNat_natCast] at hcellw
      have hub : IsB u := by rw [← hu]; exact (fun x hx => HLB.out _ (by
        unfold rd_L1
        rw [Int.toNat_natCast, List.getD_eq_getElem?_getD, List.getElem?_eq_getElem ci]
        exact List.getElem_mem ci) x hx)
      have hcell0 := Aside0.mk (fun {W : World} (hb : Below w.heap.size w W) => pw_cell_below hb hcellw)
      have HROW := Aside0.mk hroww
      have hcell := hcell0.out HLT.out.base
      clear hcellw hroww hu
      by_cases c6 : 100 < u.length
      · have t6 : decide (100 < (u.length : Int)) = true := decide_eq_true (by omega)
        have t6n : decide (100 < u.length) = true := decide_eq_true c6
        go_wp2
        go_ret
        exact ⟨rfl, HLT.out.base⟩
      have t6 : decide (100 < (u.length : Int)) = false := decide_eq_false (by omega)
      have t6n : decide (100 < u.length) = false := decide_eq_false c6
      have hu1 : u.length ≤ 100 := by omega
      by_cases c7 : (u.length : Int) + 2 ≤ left
      · have t7 : decide ((u.length : Int) + 2 ≤ left) = true := decide_eq_true c7
        have HAD := Aside0.mk (one_add_yes (room := room) (ops := ops) (g := 1) (n := rows.length) HFT.out (show u.length ≤ 60000 by omega) (show ((lf 1 snap rows).length : Int) + (2 + u.length) ≤ room by have := HLF.out; omega))
        clear c6
        go_wp2_with (first | ((with_reducible refine gate_dst (N := 96) rfl ?_); (try (refine gate_guard (by rfl) ?_; dsimp only)); refine goesL_ (some 96) rfl rfl Try.func40 (by kernel_rfl) rfl #[.pointer (some ⟨gl, 0, none⟩), .slice A0 u.length c0] rfl (by (try simp only [List.map_toArray, List.map_cons, List.map_nil]); first | done | rfl | (simp only [List.length_drop, List.length_take]; rfl)) ?_; refine (LT.add HLT.out A0 c0 u ops HG.out (by omega) HLG.out (Kd.C_below HROW.out HLT.out.base) hc0 (by omega)).mono ?_; rintro e w96 ⟨rfl, hLT⟩; refine ⟨_, rfl, ?_⟩; rw [HAD.out.1]; rw [HAD.out.2.1, HAD.out.2.2] at hLT; have HLT' := Aside0.mk hLT; clear HLT hLT; have HLT := HLT'; clear HLT'; have hcell1 := hcell0.out HLT.out.base; clear hcell) | ((with_reducible refine gate_dst (N := 124) rfl ?_); go_must (obtain ⟨okr, hRR, hokr, hRF⟩ := HLT.out.rows_R; refine Kd.R_append (KR w) (w0 := w) w.heap.size rfl _ _ 37 22 (.slice none 0 0) 24 rfl Try.underlying37 info22 rfl (show 0 < 1 by decide) (by decide) (.slice Ar rows.length cr) rows u [.slice A0 u.length c0] (fun k => okr k ∨ w96.heap.size ≤ k) (fun _ => False) rfl rfl ⟨A0, c0, rfl, hc0, HROW.out⟩ (fun _ h => h.elim) (fun _ h => .inr h) (Kd.R_mono hRR (fun _ => .inl)) HLT.out.base HLT.out.base.size (by omega) ?_; intro v1 w1 ho hb hg_ hnew_; have HLT' := Aside0.mk (hRF w1 v1 _ ho hb hg_); clear HLT ho hb hg_ hnew_ hRR hokr hRF hcell1; have HLT := (show Aside0 (LT w1 w w.heap.size gl (Dk.one room (lf 1 snap (rows ++ [u])) (ops + 2)) ⟨0, 1, ((rows ++ [u]).length : Nat), false⟩ (rows ++ [u]) v1) from ⟨by have h := HLT'.out; rw [show (((rows ++ [u]).length : Nat) : Int) = (rows.length : Int) + 1 by rw [List.length_append]; rfl]; exact h⟩); clear HLT'; have hcell := hcell0.out HLT.out.base)))
        go_roundg (l.length - (i + 1))
        case measure => have := HK.out; omega
        case rel => exact ⟨i + 1, left - u.length - 2, by go_num, rfl, by omega, by omega, by omega, ⟨by omega⟩, ⟨rows ++ [u], ops + 2, HLT.out, by omega, by omega, ⟨HFT.out.1, fun r hr => by rcases List.mem_append.1 hr with hr | hr; exact HFT.out.2 r hr; rw [List.mem_singleton.1 hr]; omega⟩, HRB.out.append (IsBs.one hub), by rw [List.length_append]; show rows.length + 1 ≤ i + 1; omega, by
          rw [lf_snoc, List.length_append, recp_length (show u.length ≤ 60000 by omega)]
          have := HLF.out
          omega⟩⟩
      · have t7 : decide ((u.length : Int) + 2 ≤ left) = false := decide_eq_false c7
        have HAD := Aside0.mk (one_add_no (room := room) (ops := ops) (g := 1) (n := rows.length) (s := snap) (rows := rows) (row := u) (show u.length ≤ 60000 by omega) (show ¬ ((lf 1 snap rows).length : Int) + (2 + u.length) ≤ room by have := HLF.out; omega))
        clear c6 c7
        go_wp2_with (first | ((with_reducible refine gate_dst (N := 96) rfl ?_); (try (refine gate_guard (by rfl) ?_; dsimp only)); refine goesL_ (some 96) rfl rfl Try.func40 (by kernel_rfl) rfl #[.pointer (some ⟨gl, 0, none⟩), .slice A0 u.length c0] rfl (by (try simp only [List.map_toArray, List.map_cons, List.map_nil]); first | done | rfl | (simp only [List.length_drop, List.length_take]; rfl)) ?_; refine (LT.add HLT.out A0 c0 u ops HG.out (by omega) HLG.out (Kd.C_below HROW.out HLT.out.base) hc0 (by omega)).mono ?_; rintro e w96 ⟨rfl, hLT⟩; refine ⟨_, rfl, ?_⟩; rw [HAD.out.1]; rw [HAD.out.2.1, HAD.out.2.2] at hLT; have HLT' := Aside0.mk hLT; clear HLT hLT; have HLT := HLT'; clear HLT'; have hcell1 := hcell0.out HLT.out.base; clear hcell))
        go_roundg (l.length - (i + 1))
        case measure => have := HK.out; omega
        case rel => exact ⟨i + 1, left, by go_num, rfl, by omega, by omega, by omega, ⟨by omega⟩, ⟨rows, ops, HLT.out, by omega, by omega, HFT.out, HRB.out, by omega, HLF.out⟩⟩
    · have cib : decide ((i : Int) < (l.length : Int)) = false := decide_eq_false (by omega)
      have cibn : decide (i < l.length) = false := decide_eq_false ci
      have HLK := Aside0.mk (one_look (room := room) (ops := ops) (g := 1) HFT.out (by decide))
      have HRL := Aside0.mk (show IsBs rows ∧ rows.length ≤ 140737488351232 from ⟨HRB.out, by omega⟩)
      by_cases c8 : room < (big.length : Int) + 10
      · have t8 : decide (room < (big.length : Int) + 10) = true := decide_eq_true c8
        have t8n : decide ((big.length : Int) + 10 ≤ room) = false := decide_eq_false (by omega)
        have HSV := Aside0.mk (one_save_no (room := room) (ops := ops) (g := 1) (n := rows.length) (b := lf 1 snap rows) (s := big) (by omega) (by omega))
        clear c8
        go_wp2_with (first | ((with_reducible refine gate_dst (N := 141) rfl ?_); (try (refine gate_guard (by rfl) ?_; dsimp only)); refine goesL_ (some 141) rfl rfl Try.func42 (by kernel_rfl) rfl #[.pointer (some ⟨gl, 0, none⟩), .slice Ab big.length cb] rfl (by (try simp only [List.map_toArray, List.map_cons, List.map_nil]); first | done | rfl | (simp only [List.length_drop, List.length_take]; rfl)) ?_; refine (LT.save HLT.out Ab cb big ops HG.out (by omega) HLG.out (Kd.C_below HCB.out HLT.out.base) (by omega)).mono ?_; rintro e w141 ⟨rfl, hLT⟩; refine ⟨_, rfl, ?_⟩; rw [HSV.out.1]; rw [HSV.out.2.1, HSV.out.2.2] at hLT; have HLT' := Aside0.mk hLT; clear HLT hLT; have HLT := HLT'; clear HLT') | ((with_reducible refine gate_dst (N := 146) rfl ?_); (try (refine gate_guard (by rfl) ?_; dsimp only)); refine goesL_ (some 146) rfl rfl Try.func34 (by kernel_rfl) rfl #[.pointer (some ⟨w.heap.size, 0, none⟩)] rfl (by (try simp only [List.map_toArray, List.map_cons, List.map_nil]); first | done | rfl | (simp only [List.length_drop, List.length_take]; rfl)) ?_; refine (LT.look HLT.out (G_len HG.out) HIB.out).mono ?_; rintro e w146 ⟨A1, c1, A2, c2, rfl, hx, hy, hbl⟩; refine ⟨_, rfl, ?_⟩; rw [HLK.out.1, HLK.out.2.1, HLK.out.2.2.1, HLK.out.2.2.2]; rw [HLK.out.2.2.1] at hx; rw [HLK.out.2.2.2] at hy; have hLT := HLT.out.below hbl; have HLT' := Aside0.mk hLT; clear HLT hLT; have HLT := HLT'; clear HLT'; have hs1 := cstr (c := c1) hx; have hs2 := cstr (c := cs) (Kd.C_below HCS.out HLT.out.base); have HR1 := Aside0.mk hy; obtain ⟨q1, q2, q3, q4, q5⟩ := HLT.out.rows_slice; cases q3; have HR2 := Aside0.mk q5; clear hx hy hbl q4 q5) | ((with_reducible refine gate_dst (N := 195) rfl ?_); (try (refine gate_guard (by rfl) ?_; dsimp only)); refine goesL_ (some 195) rfl rfl Try.func39 (by kernel_rfl) rfl #[.slice A2 rows.length c2, .slice Ar rows.length cr] rfl (by (try simp only [List.map_toArray, List.map_cons, List.map_nil]); first | done | rfl | (simp only [List.length_drop, List.length_take]; rfl)) ?_; refine (same5 A2 c2 rows Ar cr rows _ HR1.out HR2.out HRL.out.1 HRL.out.1 HRL.out.2).mono ?_; rintro e wsm ⟨rfl, hdr⟩; refine ⟨_, rfl, ?_⟩; rw [show decide (rows = rows) = true from decide_eq_true rfl]; have hLT := HLT.out.below hdr.below; have HLT' := Aside0.mk hLT; clear HLT hLT; have HLT := HLT'; clear HLT'; clear hdr HR1 HR2) | ((with_reducible refine gate_dst (N := 199) rfl ?_); (try (refine gate_guard (by rfl) ?_; dsimp only)); refine goesL_ (some 199) rfl rfl Try.func44 (by kernel_rfl) rfl #[.pointer (some ⟨gl, 0, none⟩)] rfl (by (try simp only [List.map_toArray, List.map_cons, List.map_nil]); first | done | rfl | (simp only [List.length_drop, List.length_take]; rfl)) ?_; refine (LT.rowsN HLT.out).mono ?_; rintro e wrw ⟨rfl, hbl⟩; refine ⟨_, rfl, ?_⟩; have hLT := HLT.out.below hbl; have HLT' := Aside0.mk hLT; clear HLT hLT; have HLT := HLT'; clear HLT'; clear hbl) | ((with_reducible refine gate_dst (N := 205) rfl ?_); (try (refine gate_guard (by rfl) ?_; dsimp only)); refine goesL_ (some 205) rfl rfl Try.func35 (by kernel_rfl) rfl #[] rfl (by (try simp only [List.map_toArray, List.map_cons, List.map_nil]); first | done | rfl | (simp only [List.length_drop, List.length_take]; rfl)) ?_; refine (known6 _).mono ?_; rintro e wk ⟨rfl, hbl⟩; refine ⟨_, rfl, ?_⟩; have HBK := Aside0.mk (below_step HLT.out.base hbl); clear hbl))
        go_ret
        exact ⟨rfl, HBK.out⟩
      · have t8 : decide (room < (big.length : Int) + 10) = false := decide_eq_false c8
        have t8n : decide ((big.length : Int) + 10 ≤ room) = true := decide_eq_true (by omega)
        have HSV := Aside0.mk (one_save_yes (room := room) (ops := ops) (g := 1) (n := rows.length) (b := lf 1 snap rows) (s := big) (by omega) (by omega) (by decide))
        clear c8
        go_wp2_with (first | ((with_reducible refine gate_dst (N := 146) rfl ?_); (try (refine gate_guard (by rfl) ?_; dsimp only)); refine goesL_ (some 146) rfl rfl Try.func34 (by kernel_rfl) rfl #[.pointer (some ⟨w.heap.size, 0, none⟩)] rfl (by (try simp only [List.map_toArray, List.map_cons, List.map_nil]); first | done | rfl | (simp only [List.length_drop, List.length_take]; rfl)) ?_; refine (LT.look HLT.out (G_len HG.out) HIB.out).mono ?_; rintro e w146 ⟨A1, c1, A2, c2, rfl, hx, hy, hbl⟩; refine ⟨_, rfl, ?_⟩; rw [HLK.out.1, HLK.out.2.1, HLK.out.2.2.1, HLK.out.2.2.2]; rw [HLK.out.2.2.1] at hx; rw [HLK.out.2.2.2] at hy; have hLT := HLT.out.below hbl; have HLT' := Aside0.mk hLT; clear HLT hLT; have HLT := HLT'; clear HLT'; have hs1 := cstr (c := c1) hx; have hs2 := cstr (c := cs) (Kd.C_below HCS.out HLT.out.base); have HR1 := Aside0.mk hy; obtain ⟨q1, q2, q3, q4, q5⟩ := HLT.out.rows_slice; cases q3; have HR2 := Aside0.mk q5; clear hx hy hbl q4 q5) | ((with_reducible refine gate_dst (N := 168) rfl ?_); (try (refine gate_guard (by rfl) ?_; dsimp only)); refine goesL_ (some 168) rfl rfl Try.func39 (by kernel_rfl) rfl #[.slice A2 rows.length c2, .slice Ar rows.length cr] rfl (by (try simp only [List.map_toArray, List.map_cons, List.map_nil]); first | done | rfl | (simp only [List.length_drop, List.length_take]; rfl)) ?_; refine (same5 A2 c2 rows Ar cr rows _ HR1.out HR2.out HRL.out.1 HRL.out.1 HRL.out.2).mono ?_; rintro e wsm ⟨rfl, hdr⟩; refine ⟨_, rfl, ?_⟩; rw [show decide (rows = rows) = true from decide_eq_true rfl]; have hLT := HLT.out.below hdr.below; have HLT' := Aside0.mk hLT; clear HLT hLT; have HLT := HLT'; clear HLT'; clear hdr HR1 HR2) | ((with_reducible refine gate_dst (N := 173) rfl ?_); (try (refine gate_guard (by rfl) ?_; dsimp only)); refine goesL_ (some 173) rfl rfl Try.func42 (by kernel_rfl) rfl #[.pointer (some ⟨gl, 0, none⟩), .slice Ab big.length cb] rfl (by (try simp only [List.map_toArray, List.map_cons, List.map_nil]); first | done | rfl | (simp only [List.length_drop, List.length_take]; rfl)) ?_; refine (LT.save HLT.out Ab cb big ops HG.out (by omega) HLG.out (Kd.C_below HCB.out HLT.out.base) (by omega)).mono ?_; rintro e w173 ⟨rfl, hLT⟩; refine ⟨_, rfl, ?_⟩; rw [HSV.out.1]; rw [HSV.out.2] at hLT; have HLT' := Aside0.mk hLT; clear HLT hLT; have HLT := HLT'; clear HLT') | ((with_reducible refine gate_dst (N := 178) rfl ?_); (try (refine gate_guard (by rfl) ?_; dsimp only)); refine goesL_ (some 178) rfl rfl Try.func44 (by kernel_rfl) rfl #[.pointer (some ⟨gl, 0, none⟩)] rfl (by (try simp only [List.map_toArray, List.map_cons, List.map_nil]); first | done | rfl | (simp only [List.length_drop, List.length_take]; rfl)) ?_; refine (LT.rowsN HLT.out).mono ?_; rintro e wrw ⟨rfl, hbl⟩; refine ⟨_, rfl, ?_⟩; have hLT := HLT.out.below hbl; have HLT' := Aside0.mk hLT; clear HLT hLT; have HLT := HLT'; clear HLT'; clear hbl) | ((with_reducible refine gate_dst (N := 182) rfl ?_); (try (refine gate_guard (by rfl) ?_; dsimp only)); refine goesL_ (some 182) rfl rfl Try.func35 (by kernel_rfl) rfl #[] rfl (by (try simp only [List.map_toArray, List.map_cons, List.map_nil]); first | done | rfl | (simp only [List.length_drop, List.length_take]; rfl)) ?_; refine (known6 _).mono ?_; rintro e wk ⟨rfl, hbl⟩; refine ⟨_, rfl, ?_⟩; have HBK := Aside0.mk (below_step HLT.out.base hbl); clear hbl))
        go_ret
        exact ⟨rfl, HBK.out⟩
end Go.Proofs.Ythaeppjhmjpecaa.B
