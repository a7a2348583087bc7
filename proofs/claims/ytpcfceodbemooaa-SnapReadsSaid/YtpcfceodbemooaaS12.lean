/- Snap: giroref24.Read: the walk. -/
import Derived.Test.YtpcfceodbemooaaS9
import Derived.Test.YtpcfceodbemooaaS3b
import Derived.Deep.RegionHeldLaw
import Derived.Deep.DeepMust
namespace Go.Proofs.Ytpcfceodbemooaa.B
open Go.RowKit Go.Proofs.YtpcfceodbemooaaW.PrintWords Go.Proofs.YtpcfceodbemooaaW.PrintLast Go.Proofs.YtpcfceodbemooaaW.PrintMore Go.Proofs.Ytpcfceodbemooaa.PSnapBytes
attribute [local go_sem] max2_int min2_int max_two min_two max_three min_three max_four min_four
set_option linter.unusedVariables false
set_option linter.unusedSimpArgs false
theorem cstr {W : World} {A : Option Addr} {c : Nat} {x : List Int} (h : Kd.C (Kd.int .u8) W A x.length x) : (convert 31 9 (.slice A x.length c)).run Try.prog W = .ok (.string (strOfNums x)) W := Kd.C_string (P := Try.prog) (c := c) Try.underlying31 Try.underlying5 Try.underlying9 h
theorem keep14 {W0 w1 w2 : World} {gs gr : Nat} {A : Option Addr} {c : Nat} {b : List Int} {v0 v1 v2 v3 v4 v5 v6 v7 v8 v9 v10 x0 x1 : Value} (hb : Below w1.heap.size w1 w2) (h : Aside0 (Below W0.heap.size W0 w1) ∧ Aside0 (Kd.C (Kd.int .u8) w1 A b.length b) ∧ w1.cell? ⟨gs, 0, none⟩ = some v0 ∧ w1.cell? ⟨gs, 1, none⟩ = some v1 ∧ w1.cell? ⟨gs, 2, none⟩ = some v2 ∧ w1.cell? ⟨gs, 3, none⟩ = some v3 ∧ w1.cell? ⟨gs, 4, none⟩ = some v4 ∧ w1.cell? ⟨gs, 5, none⟩ = some v5 ∧ w1.cell? ⟨gs, 6, none⟩ = some v6 ∧ w1.cell? ⟨gs, 7, none⟩ = some v7 ∧ w1.cell? ⟨gs, 8, none⟩ = some v8 ∧ w1.cell? ⟨gs, 9, none⟩ = some v9 ∧ w1.cell? ⟨gs, 10, none⟩ = some v10 ∧ w1.cell? ⟨gr, 0, none⟩ = some x0 ∧ w1.cell? ⟨gr, 1, none⟩ = some x1 ∧ (convert 31 9 (.slice A b.length c)).run Try.prog w1 = .ok (.string (strOfNums b)) w1) : Aside0 (Below W0.heap.size W0 w2) ∧ Aside0 (Kd.C (Kd.int .u8) w2 A b.length b) ∧ w2.cell? ⟨gs, 0, none⟩ = some v0 ∧ w2.cell? ⟨gs, 1, none⟩ = some v1 ∧ w2.cell? ⟨gs, 2, none⟩ = some v2 ∧ w2.cell? ⟨gs, 3, none⟩ = some v3 ∧ w2.cell? ⟨gs, 4, none⟩ = some v4 ∧ w2.cell? ⟨gs, 5, none⟩ = some v5 ∧ w2.cell? ⟨gs, 6, none⟩ = some v6 ∧ w2.cell? ⟨gs, 7, none⟩ = some v7 ∧ w2.cell? ⟨gs, 8, none⟩ = some v8 ∧ w2.cell? ⟨gs, 9, none⟩ = some v9 ∧ w2.cell? ⟨gs, 10, none⟩ = some v10 ∧ w2.cell? ⟨gr, 0, none⟩ = some x0 ∧ w2.cell? ⟨gr, 1, none⟩ = some x1 ∧ (convert 31 9 (.slice A b.length c)).run Try.prog w2 = .ok (.string (strOfNums b)) w2 := by
  obtain ⟨h1, h2, z0, z1, z2, z3, z4, z5, z6, z7, z8, z9, z10, y0, y1, _⟩ := h
  exact ⟨⟨below_step h1.out hb⟩, ⟨Kd.C_below h2.out hb⟩, pw_cell_below hb z0, pw_cell_below hb z1, pw_cell_below hb z2, pw_cell_below hb z3, pw_cell_below hb z4, pw_cell_below hb z5, pw_cell_below hb z6, pw_cell_below hb z7, pw_cell_below hb z8, pw_cell_below hb z9, pw_cell_below hb z10, pw_cell_below hb y0, pw_cell_below hb y1, cstr (Kd.C_below h2.out hb)⟩
theorem refBytes (h : Sh) (s : St) (M : Nat) (w : World) (r : RdS w h s) (hBd : s.Bd M) (hM : M ≤ 100000000000) (hs : (sbytes s).length < 140737488355328) :
    Calls Try.prog 10 #[.agg #[.int .i64 s.tick, .slice h.A1 s.accts.length h.c1, .slice h.A2 s.bil.length h.c2, .slice h.A3 s.mul.length h.c3, .slice h.A4 s.pos.length h.c4, .slice h.A5 s.prices.length h.c5, .slice h.A6 s.holds.length h.c6, .slice h.A7 s.pays.length h.c7, .slice h.A8 s.ids.length h.c8, .int .i64 s.total, .bool s.over]] w fun e w' => ∃ v : Value, e = .returned v ∧ Kd.R (Kd.int .u8) 5 w' w.heap.size (fun _ => True) v (sbytes s) ∧ Below w.heap.size w w' :=
  giroref24_Bytes.calls (13 * M + 301) s.tick h.A1 h.c1 s.accts h.A2 h.c2 s.bil h.A3 h.c3 s.mul h.A4 h.c4 s.pos h.A5 h.c5 s.prices h.A6 h.c6 s.holds h.A7 h.c7 s.pays h.A8 h.c8 s.ids s.total s.over (sbytes s) w r.r1 r.l1 r.r2 r.l2 r.r3 r.l3 r.r4 r.l4 r.r5 r.l5 r.r6 r.l6 r.r7 r.l7 r.r8 r.l8 (bytes24_f M s hBd (by omega) _ (by omega) hs)
set_option maxHeartbeats 8000000 in
set_option maxRecDepth 100000 in
theorem refRead (A : Option Addr) (c : Nat) (b : List Int) (w : World) (hr : Kd.C (Kd.int .u8) w A b.length b) (hc : b.length ≤ c) (hb : IsB b) (hl : b.length ≤ 10000000000) :
    Calls Try.prog 14 #[.slice A b.length c] w fun e w' => ∃ h : Sh, e = .returned (.tuple #[.agg #[.int .i64 (sRead b).tick, .slice h.A1 (sRead b).accts.length h.c1, .slice h.A2 (sRead b).bil.length h.c2, .slice h.A3 (sRead b).mul.length h.c3, .slice h.A4 (sRead b).pos.length h.c4, .slice h.A5 (sRead b).prices.length h.c5, .slice h.A6 (sRead b).holds.length h.c6, .slice h.A7 (sRead b).pays.length h.c7, .slice h.A8 (sRead b).ids.length h.c8, .int .i64 (sRead b).total, .bool (sRead b).over], .bool (sOk b)]) ∧ RdS w' h (sRead b) ∧ Below w.heap.size w w' := by
  have HC := Aside0.mk hr
  have HI := Aside0.mk hb
  have HK := Aside0.mk hc
  have HL := Aside0.mk hl
  clear hr hb hc
  go_enter Try.func14, Try.ntmps14
  go_upto_region 2 with fail
  have HZ := Aside0.mk (blk_alloc (blk_new w (.cells #[.int .i64 0, .slice none 0 0, .slice none 0 0, .slice none 0 0, .slice none 0 0, .slice none 0 0, .slice none 0 0, .slice none 0 0, .slice none 0 0, .int .i64 0, .bool false] 29)) (.cells #[.slice A b.length c, .bool true] 61))
  have HB := Aside0.mk (below_alloc (below_alloc (Below.refl w.heap.size w) (.cells #[.int .i64 0, .slice none 0 0, .slice none 0 0, .slice none 0 0, .slice none 0 0, .slice none 0 0, .slice none 0 0, .slice none 0 0, .slice none 0 0, .int .i64 0, .bool false] 29)) (.cells #[.slice A b.length c, .bool true] 61))
  have HG := blk_new (w.alloc (.cells #[.int .i64 0, .slice none 0 0, .slice none 0 0, .slice none 0 0, .slice none 0 0, .slice none 0 0, .slice none 0 0, .slice none 0 0, .slice none 0 0, .int .i64 0, .bool false] 29)) (.cells #[.slice A b.length c, .bool true] 61)
  rw [show (w.alloc (.cells #[.int .i64 0, .slice none 0 0, .slice none 0 0, .slice none 0 0, .slice none 0 0, .slice none 0 0, .slice none 0 0, .slice none 0 0, .slice none 0 0, .int .i64 0, .bool false] 29)).heap.size = w.heap.size + 1 by simp] at HG
  have HRB := Aside0.mk (show RB 61 w _ (w.heap.size + 1) b (!false) from ⟨⟨A, c, HG, HC.out, HK.out⟩, HI.out, by omega, Nat.le_succ _, HB.out⟩)
  clear HG
  have HSZ := Aside0.mk (show w.heap.size + 2 = ((w.alloc (.cells #[.int .i64 0, .slice none 0 0, .slice none 0 0, .slice none 0 0, .slice none 0 0, .slice none 0 0, .slice none 0 0, .slice none 0 0, .slice none 0 0, .int .i64 0, .bool false] 29)).alloc (.cells #[.slice A b.length c, .bool true] 61)).heap.size by simp)
  generalize (w.alloc (.cells #[.int .i64 0, .slice none 0 0, .slice none 0 0, .slice none 0 0, .slice none 0 0, .slice none 0 0, .slice none 0 0, .slice none 0 0, .slice none 0 0, .int .i64 0, .bool false] 29)).alloc (.cells #[.slice A b.length c, .bool true] 61) = W1 at *
  generalize hgr : w.heap.size + 1 = gr at *
  go_upto_region 3 with (first | ((with_reducible refine gate_dst (N := 15) rfl ?_); (try (refine gate_guard (by rfl) ?_; dsimp only)); refine goesL_ (some 15) rfl rfl Try.func31 (by kernel_rfl) rfl #[.pointer (some ⟨gr, 0, none⟩), .int .i64 9] rfl (by (try simp only [List.map_toArray, List.map_cons, List.map_nil]); first | done | rfl | (simp only [List.length_drop, List.length_take]; rfl)) ?_; refine (xJust w gr b false 9 _ HRB.out (by decide)).mono ?_; rintro e w2 ⟨v2, rfl, ho, hR, hF⟩; refine ⟨_, rfl, ?_⟩; have HO := Aside0.mk ho; have HR2 := Aside0.mk hR; have HF := Aside0.mk hF; clear ho hR hF HRB; obtain ⟨gh, ch, e2, _, hlt9, _⟩ := Kd.R_form HO.out (by rw [jsL_len]; decide); subst e2))

  have q9 : 9 ≤ (jsL 9 b).length ∧ (jsL 9 b).length ≤ 9 := by rw [jsL_len]; exact ⟨Nat.le_refl _, Nat.le_refl _⟩
  obtain ⟨H, hH⟩ : ∃ H, jsL 9 b = H := ⟨_, rfl⟩
  rw [hH] at HO q9 ⊢
  have HH := Aside0.mk (show hd b = H from hH)
  clear hH
  have HK3 := Aside0.mk (show w2.cell? ⟨gh, 0, none⟩ = some (.int .i64 (rd H 0)) ∧ w2.cell? ⟨gh, 1, none⟩ = some (.int .i64 (rd H 1)) ∧ w2.cell? ⟨gh, 2, none⟩ = some (.int .i64 (rd H 2)) from ⟨(Kd.R_celln 0 HO.out 0 (by decide) (by omega)).1, (Kd.R_celln 0 HO.out 1 (by decide) (by omega)).1, (Kd.R_celln 0 HO.out 2 (by decide) (by omega)).1⟩)
  have i0 : (0 : Nat) < H.length := by omega
  have i1 : 1 < H.length := by omega
  have i2 : 2 < H.length := by omega
  have e1 : (1 : Int) < (H.length : Int) := by omega
  have e2 : (2 : Int) < (H.length : Int) := by omega
  have hsz1 : w.heap.size + 2 = W1.heap.size := HSZ.out
  have HF9 := Aside0.mk (show Below w.heap.size w w2 from Fr.below' HF.out HB.out (fun k hk => by rw [hk, ← hgr]; omega))
  have HZ9 := Aside0.mk ((HF.out.2.2.2.2 w.heap.size (by omega) (by omega)).trans HZ.out)
  have HSI := Aside0.mk (fun tk tt ov => (si_start (w := w) (W1 := W1) (W2 := w2) (gr := gr) (gz := w.heap.size) (v0 := .slice (some ⟨gh, 0, none⟩) H.length ch) (H := H) tk tt ov HZ9.out HF9.out HO.out (by omega) (by omega) (by omega) (Nat.le_refl _) (by omega) HF.out.size))
  go_cut [6] (fun v6 wx => ∃ gs : Nat, v6 = .pointer (some ⟨gs, 0, none⟩) ∧ Aside0 (SI w wx gs gr w.heap.size (.slice (some ⟨gh, 0, none⟩) H.length ch) (.slice none 0 0) (.slice none 0 0) (.slice none 0 0) (.slice none 0 0) (.slice none 0 0) (.slice none 0 0) (.slice none 0 0) (.slice none 0 0) H ⟨rd H 0, [], [], [], [], [], [], [], [], rd H 1, rd H 2 == 1⟩) ∧ Aside0 (RB 61 w wx gr (nextR b) (!(jsB 9 b false))))
  case first =>
    go_region_held (fun w' => w'.cell? ⟨gh, 0, none⟩ = some (.int .i64 (rd H 0)) ∧ w'.cell? ⟨gh, 1, none⟩ = some (.int .i64 (rd H 1)) ∧ w'.cell? ⟨gh, 2, none⟩ = some (.int .i64 (rd H 2))) (first | exact keep3 (by repeat (first | exact Below.refl _ _ | refine below_drew ?_ | refine below_alloc ?_ _ | refine pw_below_drewN ?_ _)) HK3.out) (first | fail)
    all_goals (go_wp2_with fail; go_meet; exact ⟨_, rfl, ⟨HSI.out _ _ _⟩, ⟨HR2.out.below (below_drew (below_alloc (Below.refl _ _) _))⟩⟩)
  case rest =>
    obtain ⟨gs, rfl, HX, HRB⟩ := hcut
    clear HSI HZ9 HF9 HK3 HO HR2 HF HZ HB

    have HP1 := Aside0.mk (show (p1 b) = (nextR b, jsB 9 b false) from rfl)
    obtain ⟨P1, hP1⟩ : ∃ P, p1 b = P := ⟨_, rfl⟩
    rw [show RB 61 w wc gr (nextR b) (!(jsB 9 b false)) = RB 61 w wc gr P1.1 (!P1.2) by rw [← hP1]; rfl] at HRB
    have hP1l : P1.1.length ≤ b.length := by rw [← hP1]; exact p1_le b
    have HP1 := Aside0.mk hP1
    clear hP1
    obtain ⟨L1, hL1⟩ : ∃ L, itA (rd H 3) P1 = L := ⟨_, rfl⟩
    have HL1 := Aside0.mk hL1
    have HL1q := Aside0.mk hL1
    have HZ1 := Aside0.mk (show Fz (P1.1.length + 2) P1.1 P1.2 from ⟨by omega, fun _ => Nat.le_refl _⟩)
    have HPAL := Aside0.mk (show L1.2.1.length ≤ b.length by rw [← hL1]; exact Nat.le_trans (its_left _ _ _ _ _ _).1 hP1l)
    clear hL1
    have i3 : 3 < H.length := by omega
    have HBD := Aside0.mk (show ∀ i : Int, -9223372036854775808 ≤ rd H i ∧ rd H i < 9223372036854775808 from fun i => by rw [← HH.out]; exact hd_bd b i)
    have k3 := (Kd.R_celln 0 HX.out.f0 3 (by decide) (by omega)).1
    rw [show ((3 : Int)).toNat = 3 from rfl] at k3
    go_upto_block 0 with fail
    go_cut [] (fun wx => ∃ v1 : Value, Aside0 (SI w wx gs gr w.heap.size (.slice (some ⟨gh, 0, none⟩) H.length ch) v1 (.slice none 0 0) (.slice none 0 0) (.slice none 0 0) (.slice none 0 0) (.slice none 0 0) (.slice none 0 0) (.slice none 0 0) H ⟨rd H 0, L1.1, [], [], [], [], [], [], [], rd H 1, rd H 2 == 1⟩) ∧ Aside0 (RB 61 w wx gr L1.2.1 (!L1.2.2)))
    case first =>
      go_wp2
      go_loopg [7, 8] (P1.1.length + 2) (fun kq v7 v8 w' => ∃ (m : Int) (b' : List Int) (bad' : Bool) (acc : List S41) (v1 : Value), v7 = .int .i64 (rd H 3 - m) ∧ Aside0 (-9223372036854775808 ≤ m ∧ m < 9223372036854775808 ∧ rd H 3 - m = (acc.length : Int)) ∧ acc.length + kq ≤ b.length + 2 ∧ Aside0 (Fz kq b' bad') ∧ Aside0 (acc ++ (its mkA (jsB 3) kq m b' bad').1 = L1.1 ∧ (its mkA (jsB 3) kq m b' bad').2 = L1.2) ∧ Aside0 (RB 61 w w' gr b' (!bad')) ∧ Aside0 (SI w w' gs gr w.heap.size (.slice (some ⟨gh, 0, none⟩) H.length ch) v1 (.slice none 0 0) (.slice none 0 0) (.slice none 0 0) (.slice none 0 0) (.slice none 0 0) (.slice none 0 0) (.slice none 0 0) H ⟨rd H 0, acc, [], [], [], [], [], [], [], rd H 1, rd H 2 == 1⟩))
      case atStart => exact ⟨rd H 3, P1.1, P1.2, [], .slice none 0 0, by simp, ⟨(HBD.out 3).1, (HBD.out 3).2, by simp⟩, by simp; omega, HZ1, ⟨HL1.out ▸ rfl, HL1.out ▸ rfl⟩, HRB, HX⟩
      case round =>
        clear HRB HX HL1 HZ1 k3
        obtain ⟨m, b', bad', acc, v1, rfl, HM, hacc, HZ, HL1, HRB, HX⟩ := hrel
        have e3_ : (3 : Int) < (H.length : Int) := by omega
        have k3 := (show _ = some (Value.int .i64 (rd H 3)) from (Kd.R_celln 0 HX.out.f0 3 (by decide) (by omega)).1)
        rw [show ((3 : Int)).toNat = 3 from rfl] at k3
        obtain ⟨f, hf⟩ : ∃ f, gk = f + 1 := ⟨gk - 1, by have := HZ.out.1; omega⟩
        obtain ⟨A1, c1, hG, _⟩ := HRB.out.blk
        obtain ⟨z0, z1, zf0, zf1⟩ := cells2 hG
        clear hG
        by_cases cgo : 0 < m ∧ bad' = false
        · obtain ⟨cm, cbf⟩ := cgo
          subst cbf
          have cmb : decide (rd H 3 - m < rd H 3) = true := decide_eq_true (by omega)
          have hwr : wrap64 (rd H 3 - m + 1) = rd H 3 - (m - 1) := by have := HM.out; unfold wrap64; omega
          have HL2 := HL1.out
          rw [hf, its_go mkA (jsB 3) cm rfl] at HL2
          have HLN := Aside0.mk (show (acc ++ [mkA b']) ++ (its mkA (jsB 3) f (m - 1) (nextR b') (jsB 3 b' false)).1 = L1.1 ∧ (its mkA (jsB 3) f (m - 1) (nextR b') (jsB 3 b' false)).2 = L1.2 from ⟨by rw [← HL2.1, List.append_assoc]; rfl, HL2.2⟩)
          have HZN := Aside0.mk (Fz.step (bad' := jsB 3 b' false) (by rw [← hf]; exact HZ.out) rfl jsB_ok)
          clear HL2 HL1 HZ
          go_upto_region 8 with (first | ((with_reducible refine gate_dst (N := 41) rfl ?_); (try (refine gate_guard (by rfl) ?_; dsimp only)); refine goesL_ (some 41) rfl rfl Try.func31 (by kernel_rfl) rfl #[.pointer (some ⟨gr, 0, none⟩), .int .i64 3] rfl (by (try simp only [List.map_toArray, List.map_cons, List.map_nil]); first | done | rfl | (simp only [List.length_drop, List.length_take]; rfl)) ?_; refine (xJust w gr b' false 3 _ HRB.out (by decide)).mono ?_; rintro e w2 ⟨v2, rfl, ho, hR, hF⟩; refine ⟨_, rfl, ?_⟩; have HO := Aside0.mk ho; have HX_ := Aside0.mk (HX.out.fg hF); have HX9 := Aside0.mk (HX.out.new HRB.out.lt ho); clear HX HRB hF z0 z1 zf0 zf1; have HX := HX_; have HRB := Aside0.mk hR; clear ho hR HX_; obtain ⟨ga, ca, e2, _, hlta, _⟩ := Kd.R_form HO.out (by rw [jsL_len]; decide); subst e2))
          have q3 : 3 ≤ (jsL 3 b').length ∧ (jsL 3 b').length ≤ 3 := by rw [jsL_len]; exact ⟨Nat.le_refl _, Nat.le_refl _⟩
          have HMK := Aside0.mk (show mkA b' = ⟨rd (jsL 3 b') 0, rd (jsL 3 b') 1, rd (jsL 3 b') 2⟩ from rfl)
          generalize jsL 3 b' = X at *
          have HK3 := Aside0.mk (show w2.cell? ⟨ga, 0, none⟩ = some (.int .i64 (rd X 0)) ∧ w2.cell? ⟨ga, 1, none⟩ = some (.int .i64 (rd X 1)) ∧ w2.cell? ⟨ga, 2, none⟩ = some (.int .i64 (rd X 2)) from ⟨(Kd.R_celln 0 HO.out 0 (by decide) (by omega)).1, (Kd.R_celln 0 HO.out 1 (by decide) (by omega)).1, (Kd.R_celln 0 HO.out 2 (by decide) (by omega)).1⟩)
          have j0 : (0 : Nat) < X.length := by omega
          have j1 : 1 < X.length := by omega
          have j2 : 2 < X.length := by omega
          have e1 : (1 : Int) < (X.length : Int) := by omega
          have e2 : (2 : Int) < (X.length : Int) := by omega
          have y1 : w2.cell? ⟨gs, 1, none⟩ = some v1 := (blk_cell HX.out.blk 1).trans rfl
          have yo : ∀ o : Obj, (w2.alloc o).cell? ⟨gs, 1, none⟩ = some v1 := fun o => pw_cell_below (below_alloc (Below.refl _ _) o) y1
          have yd : ∀ o : Obj, (w2.alloc o).drew.cell? ⟨gs, 1, none⟩ = some v1 := yo
          have HMB := Aside0.mk (show acc.length + 1 ≤ 20000000000 by omega)
          obtain ⟨ac2, hac2⟩ : ∃ Z, acc ++ [(⟨rd X 0, rd X 1, rd X 2⟩ : S41)] = Z := ⟨_, rfl⟩
          have HAC := Aside0.mk hac2
          clear hac2
          refine wp_region_held_drew (S := fun w' => w'.cell? ⟨ga, 0, none⟩ = some (.int .i64 (rd X 0)) ∧ w'.cell? ⟨ga, 1, none⟩ = some (.int .i64 (rd X 1)) ∧ w'.cell? ⟨ga, 2, none⟩ = some (.int .i64 (rd X 2))) (by kernel_rfl) (keep3 (by repeat (first | exact Below.refl _ _ | refine below_drew ?_ | refine below_alloc ?_ _ | refine pw_below_drewN ?_ _)) HK3.out) (fun hHeld => ?_)
          refine wpAnyH_take (i := 0) (v := ?v1) rfl (by kernel_rfl) (by kernel_rfl) (by kernel_rfl) (fun _ _ _ h => h) (Or.inl ⟨by rfl, ?hy1⟩) (by assumption) ?rest1
          case hy1 => (intro w' hSw; (try dsimp only at hSw); go_simp; try with_reducible rfl)
          try simp only [Act.put, List.setIfInBounds_toArray, List.set_cons_zero, List.set_cons_succ]
          refine wpAnyH_take (i := 1) (v := ?v2) rfl (by kernel_rfl) (by kernel_rfl) (by kernel_rfl) (fun _ _ _ h => h) (Or.inl ⟨by rfl, ?hy2⟩) (by assumption) ?rest2
          case hy2 => (intro w' hSw; (try dsimp only at hSw); go_simp; try with_reducible rfl)
          try simp only [Act.put, List.setIfInBounds_toArray, List.set_cons_zero, List.set_cons_succ]
          refine wpAnyH_take (i := 3) (v := ?v3) rfl (by kernel_rfl) (by kernel_rfl) (by kernel_rfl) (fun _ _ _ h => h) (Or.inl ⟨by rfl, ?hy3⟩) (by assumption) ?rest3
          case hy3 => (intro w' hSw; (try dsimp only at hSw); go_simp; try with_reducible rfl)
          try simp only [Act.put, List.setIfInBounds_toArray, List.set_cons_zero, List.set_cons_succ]
          refine wpAnyH_take (i := 4) (v := ?v4) rfl (by kernel_rfl) (by kernel_rfl) (by kernel_rfl) (fun _ _ _ h => h) (Or.inl ⟨by rfl, ?hy4⟩) (by assumption) ?rest4
          case hy4 => (intro w' hSw; (try dsimp only at hSw); go_simp; try with_reducible rfl)
          try simp only [Act.put, List.setIfInBounds_toArray, List.set_cons_zero, List.set_cons_succ]
          refine wpAnyH_take (i := 5) (v := ?v5) rfl (by kernel_rfl) (by kernel_rfl) (by kernel_rfl) (fun _ _ _ h => h) (Or.inl ⟨by rfl, ?hy5⟩) (by assumption) ?rest5
          case hy5 => (intro w' hSw; (try dsimp only at hSw); go_simp; try with_reducible rfl)
          try simp only [Act.put, List.setIfInBounds_toArray, List.set_cons_zero, List.set_cons_succ]
          refine wpAnyH_take (i := 6) (v := ?v6) rfl (by kernel_rfl) (by kernel_rfl) (by kernel_rfl) (fun _ _ _ h => h) (Or.inl ⟨by rfl, ?hy6⟩) (by assumption) ?rest6
          case hy6 => (intro w' hSw; (try dsimp only at hSw); go_simp; try with_reducible rfl)
          try simp only [Act.put, List.setIfInBounds_toArray, List.set_cons_zero, List.set_cons_succ]
          refine wpAnyH_take (i := 7) (v := ?v7) rfl (by kernel_rfl) (by kernel_rfl) (by kernel_rfl) (fun _ _ _ h => h) (Or.inl ⟨by rfl, ?hy7⟩) (by assumption) ?rest7
          case hy7 => (intro w' hSw; (try dsimp only at hSw); go_simp; try with_reducible rfl)
          try simp only [Act.put, List.setIfInBounds_toArray, List.set_cons_zero, List.set_cons_succ]
          refine wpAnyH_take (i := 8) (v := ?v8) rfl (by kernel_rfl) (by kernel_rfl) (by kernel_rfl) (fun _ _ _ h => h) (Or.inl ⟨by rfl, ?hy8⟩) (by assumption) ?rest8
          case hy8 => (intro w' hSw; (try dsimp only at hSw); go_simp; try with_reducible rfl)
          try simp only [Act.put, List.setIfInBounds_toArray, List.set_cons_zero, List.set_cons_succ]
          refine wpAnyH_take (i := 9) (v := ?v9) rfl (by kernel_rfl) (by kernel_rfl) (by kernel_rfl) (fun _ _ _ h => h) (Or.inl ⟨by rfl, ?hy9⟩) (by assumption) ?rest9
          case hy9 => (intro w' hSw; (try dsimp only at hSw); go_simp; try with_reducible rfl)
          try simp only [Act.put, List.setIfInBounds_toArray, List.set_cons_zero, List.set_cons_succ]
          refine wpAnyH_take (i := 10) (v := ?v10) rfl (by kernel_rfl) (by kernel_rfl) (by kernel_rfl) (fun _ _ _ h => h) (Or.inl ⟨by rfl, ?hy10⟩) (by assumption) ?rest10
          case hy10 => (intro w' hSw; (try dsimp only at hSw); go_simp; try with_reducible rfl)
          try simp only [Act.put, List.setIfInBounds_toArray, List.set_cons_zero, List.set_cons_succ]
          refine wpAnyH_take (i := 11) (v := ?v11) rfl (by kernel_rfl) (by kernel_rfl) (by kernel_rfl) (fun _ _ _ h => h) (Or.inl ⟨by rfl, ?hy11⟩) (by assumption) ?rest11
          case hy11 => (intro w' hSw; (try dsimp only at hSw); go_simp; try with_reducible rfl)
          try simp only [Act.put, List.setIfInBounds_toArray, List.set_cons_zero, List.set_cons_succ]
          refine wpAnyH_take (i := 12) (v := ?v12) rfl (by kernel_rfl) (by kernel_rfl) (by kernel_rfl) (fun _ _ _ h => h) (Or.inl ⟨by rfl, ?hy12⟩) (by assumption) ?rest12
          case hy12 => (intro w' hSw; (try dsimp only at hSw); go_simp; try with_reducible rfl)
          try simp only [Act.put, List.setIfInBounds_toArray, List.set_cons_zero, List.set_cons_succ]
          refine wpAnyH_ready (rs := [2, 13]) (by kernel_rfl) (by simp) (AllReadyH.cons rfl (fun K hK => ?_) (AllReadyH.cons rfl (fun K hK => ?_) AllReadyH.nil))
          · go_simp
            refine hK.out _ _ (by exact keep3 (by repeat (first | exact Below.refl _ _ | refine below_drew ?_ | refine below_alloc ?_ _ | refine pw_below_drewN ?_ _)) HK3.out) (fun hHeld => ?_)
            clear hK K
            refine wpAnyH_ready (rs := [13]) (by kernel_rfl) (by simp) (AllReadyH.cons rfl (fun K hK => ?_) AllReadyH.nil)
            go_simp
            refine hK.out _ _ (by exact keep3 (by repeat (first | exact Below.refl _ _ | refine below_drew ?_ | refine below_alloc ?_ _ | refine pw_below_drewN ?_ _)) HK3.out) (fun hHeld => ?_)
            clear hK K
            refine wpAnyH_ready (rs := [14]) (by kernel_rfl) (by simp) (AllReadyH.cons rfl (fun K hK => ?_) AllReadyH.nil)
            (refine acct_step (w := w) (gs := gs) (gr := gr) (gz := w.heap.size) (g := w2.heap.size) (by rfl) (.tmp 44) (.tmp 55) rfl v1 acc ⟨rd X 0, rd X 1, rd X 2⟩ rfl rfl (by first | exact blk_drew (blk_new w2 _) | exact blk_new w2 _) (Kd.R_below HX.out.f1 (by repeat (first | exact Below.refl _ _ | refine below_drew ?_ | refine below_alloc ?_ _))) (below_step HX.out.base (by repeat (first | exact Below.refl _ _ | refine below_drew ?_ | refine below_alloc ?_ _))) (by have := blk_lt HX.out.blk; simp; omega) (by have := HRB.out.lt; simp; omega) (by have := blk_lt HX.out.z; simp; omega) (by have := HMB.out; omega) ?_; intro v6 w6 ho6 hb6 hg6; rw [HAC.out] at ho6; obtain ⟨A6, c6, e6⟩ := Kd.R_slice ho6; subst e6; have HXW := HX.out.below (W1 := _) (by first | exact (show Below w2.heap.size w2 _ from below_drew (below_alloc (Below.refl _ _) (.cells #[.int .i64 (rd X 0), .int .i64 (rd X 1), .int .i64 (rd X 2)] 41)))); have HBK6 := Aside0.mk (HXW.far1 hg6); have y6 := (blk_cell HBK6.out 1).trans (show _ = some v1 from rfl); have y6f := blk_frozen HBK6.out 1; have HS6 := Aside0.mk (fun (W2 : World) (hg2 : W2.heap[gs]? = some (.cells #[.int .i64 (rd H 0), .slice A6 ac2.length c6, .slice none 0 0, .slice none 0 0, .slice none 0 0, .slice none 0 0, .slice none 0 0, .slice none 0 0, .slice none 0 0, .int .i64 (rd H 1), .bool (rd H 2 == 1)] 29 (0, 0))) (ho : Only gs w6 W2) => And.intro (HXW.app1 ho6 hb6 hg6 hg2 ho) (HXW.rb1 (HRB.out.below (show Below w2.heap.size w2 _ from below_drew (below_alloc (Below.refl _ _) (.cells #[.int .i64 (rd X 0), .int .i64 (rd X 1), .int .i64 (rd X 2)] 41)))) (by decide) hg6 ho)); have HK6 := Aside0.mk (fun (W2 : World) (ho : Only gs w6 W2) => (show W2.cell? ⟨ga, 0, none⟩ = some (.int .i64 (rd X 0)) ∧ W2.cell? ⟨ga, 1, none⟩ = some (.int .i64 (rd X 1)) ∧ W2.cell? ⟨ga, 2, none⟩ = some (.int .i64 (rd X 2)) from ⟨far_cells (Kd.R_below HX9.out (show Below w2.heap.size w2 _ from below_drew (below_alloc (Below.refl _ _) (.cells #[.int .i64 (rd X 0), .int .i64 (rd X 1), .int .i64 (rd X 2)] 41)))) HXW.f1 (by decide) hg6 ho 0 j0, far_cells (Kd.R_below HX9.out (show Below w2.heap.size w2 _ from below_drew (below_alloc (Below.refl _ _) (.cells #[.int .i64 (rd X 0), .int .i64 (rd X 1), .int .i64 (rd X 2)] 41)))) HXW.f1 (by decide) hg6 ho 1 j1, far_cells (Kd.R_below HX9.out (show Below w2.heap.size w2 _ from below_drew (below_alloc (Below.refl _ _) (.cells #[.int .i64 (rd X 0), .int .i64 (rd X 1), .int .i64 (rd X 2)] 41)))) HXW.f1 (by decide) hg6 ho 2 j2⟩)); clear HXW ho6 hb6 hg6)
            refine hK.out _ _ (HK6.out _ (Only.refl _ _)) (fun hHeld => ?_)
            clear hK K
            refine wpAnyH_take (i := 15) (v := ?v13) rfl (by kernel_rfl) (by kernel_rfl) (by kernel_rfl) (fun _ _ _ h => h) (Or.inl ⟨by rfl, ?hy13⟩) (by assumption) ?rest13
            case hy13 => (intro w' hSw; (try dsimp only at hSw); go_simp; try with_reducible rfl)
            try simp only [Act.put, List.setIfInBounds_toArray, List.set_cons_zero, List.set_cons_succ]
            refine wpAnyH_take (i := 16) (v := ?v14) rfl (by kernel_rfl) (by kernel_rfl) (by kernel_rfl) (fun _ _ _ h => h) (Or.inl ⟨by rfl, ?hy14⟩) (by assumption) ?rest14
            case hy14 => (intro w' hSw; (try dsimp only at hSw); go_simp; try with_reducible rfl)
            try simp only [Act.put, List.setIfInBounds_toArray, List.set_cons_zero, List.set_cons_succ]
            refine wpAnyH_ready (rs := [17]) (by kernel_rfl) (by simp) (AllReadyH.cons rfl (fun K hK => ?_) AllReadyH.nil)
            go_simp
            refine hK.out _ _ (by first | exact HK6.out _ (Only.set _ _ _ _) | exact HK6.out _ (Only.trans (Only.set _ _ _ _) (Only.drew _ _))) (fun hHeld => ?_)
            clear hK K
            refine wpAnyH_done (by kernel_rfl) ?_ _
            go_wp2_with fail
            go_roundg f
            case measure => omega
            case rel => exact ⟨m - 1, nextR b', jsB 3 b' false, ac2, .slice A6 ac2.length c6, by first | rw [hwr] | (simp only [hwr]; done) | go_num, ⟨by have := HM.out; omega, by have := HM.out; omega, by have := HM.out; rw [← HAC.out, List.length_append]; simp; omega⟩, by rw [← HAC.out, List.length_append]; simp; omega, HZN, ⟨by rw [← HAC.out, ← HMK.out]; exact HLN.out.1, HLN.out.2⟩, ⟨(HS6.out _ (by first | exact blk_drew (by rw [blk_set HBK6.out 1 _]; rfl) | (rw [blk_set HBK6.out 1 _]; rfl)) (by first | exact Only.set _ _ _ _ | exact Only.trans (Only.set _ _ _ _) (Only.drew _ _))).2⟩, ⟨(HS6.out _ (by first | exact blk_drew (by rw [blk_set HBK6.out 1 _]; rfl) | (rw [blk_set HBK6.out 1 _]; rfl)) (by first | exact Only.set _ _ _ _ | exact Only.trans (Only.set _ _ _ _) (Only.drew _ _))).1⟩⟩
          · go_simp
            refine hK.out _ _ (by exact keep3 (by repeat (first | exact Below.refl _ _ | refine below_drew ?_ | refine below_alloc ?_ _ | refine pw_below_drewN ?_ _)) HK3.out) (fun hHeld => ?_)
            clear hK K
            refine wpAnyH_ready (rs := [2]) (by kernel_rfl) (by simp) (AllReadyH.cons rfl (fun K hK => ?_) AllReadyH.nil)
            go_simp
            refine hK.out _ _ (by exact keep3 (by repeat (first | exact Below.refl _ _ | refine below_drew ?_ | refine below_alloc ?_ _ | refine pw_below_drewN ?_ _)) HK3.out) (fun hHeld => ?_)
            clear hK K
            refine wpAnyH_ready (rs := [14]) (by kernel_rfl) (by simp) (AllReadyH.cons rfl (fun K hK => ?_) AllReadyH.nil)
            (refine acct_step (w := w) (gs := gs) (gr := gr) (gz := w.heap.size) (g := w2.heap.size) (by rfl) (.tmp 44) (.tmp 55) rfl v1 acc ⟨rd X 0, rd X 1, rd X 2⟩ rfl rfl (by first | exact blk_drew (blk_new w2 _) | exact blk_new w2 _) (Kd.R_below HX.out.f1 (by repeat (first | exact Below.refl _ _ | refine below_drew ?_ | refine below_alloc ?_ _))) (below_step HX.out.base (by repeat (first | exact Below.refl _ _ | refine below_drew ?_ | refine below_alloc ?_ _))) (by have := blk_lt HX.out.blk; simp; omega) (by have := HRB.out.lt; simp; omega) (by have := blk_lt HX.out.z; simp; omega) (by have := HMB.out; omega) ?_; intro v6 w6 ho6 hb6 hg6; rw [HAC.out] at ho6; obtain ⟨A6, c6, e6⟩ := Kd.R_slice ho6; subst e6; have HXW := HX.out.below (W1 := _) (by first | exact (show Below w2.heap.size w2 _ from below_drew (below_alloc (Below.refl _ _) (.cells #[.int .i64 (rd X 0), .int .i64 (rd X 1), .int .i64 (rd X 2)] 41)))); have HBK6 := Aside0.mk (HXW.far1 hg6); have y6 := (blk_cell HBK6.out 1).trans (show _ = some v1 from rfl); have y6f := blk_frozen HBK6.out 1; have HS6 := Aside0.mk (fun (W2 : World) (hg2 : W2.heap[gs]? = some (.cells #[.int .i64 (rd H 0), .slice A6 ac2.length c6, .slice none 0 0, .slice none 0 0, .slice none 0 0, .slice none 0 0, .slice none 0 0, .slice none 0 0, .slice none 0 0, .int .i64 (rd H 1), .bool (rd H 2 == 1)] 29 (0, 0))) (ho : Only gs w6 W2) => And.intro (HXW.app1 ho6 hb6 hg6 hg2 ho) (HXW.rb1 (HRB.out.below (show Below w2.heap.size w2 _ from below_drew (below_alloc (Below.refl _ _) (.cells #[.int .i64 (rd X 0), .int .i64 (rd X 1), .int .i64 (rd X 2)] 41)))) (by decide) hg6 ho)); have HK6 := Aside0.mk (fun (W2 : World) (ho : Only gs w6 W2) => (show W2.cell? ⟨ga, 0, none⟩ = some (.int .i64 (rd X 0)) ∧ W2.cell? ⟨ga, 1, none⟩ = some (.int .i64 (rd X 1)) ∧ W2.cell? ⟨ga, 2, none⟩ = some (.int .i64 (rd X 2)) from ⟨far_cells (Kd.R_below HX9.out (show Below w2.heap.size w2 _ from below_drew (below_alloc (Below.refl _ _) (.cells #[.int .i64 (rd X 0), .int .i64 (rd X 1), .int .i64 (rd X 2)] 41)))) HXW.f1 (by decide) hg6 ho 0 j0, far_cells (Kd.R_below HX9.out (show Below w2.heap.size w2 _ from below_drew (below_alloc (Below.refl _ _) (.cells #[.int .i64 (rd X 0), .int .i64 (rd X 1), .int .i64 (rd X 2)] 41)))) HXW.f1 (by decide) hg6 ho 1 j1, far_cells (Kd.R_below HX9.out (show Below w2.heap.size w2 _ from below_drew (below_alloc (Below.refl _ _) (.cells #[.int .i64 (rd X 0), .int .i64 (rd X 1), .int .i64 (rd X 2)] 41)))) HXW.f1 (by decide) hg6 ho 2 j2⟩)); clear HXW ho6 hb6 hg6)
            refine hK.out _ _ (HK6.out _ (Only.refl _ _)) (fun hHeld => ?_)
            clear hK K
            refine wpAnyH_take (i := 15) (v := ?v15) rfl (by kernel_rfl) (by kernel_rfl) (by kernel_rfl) (fun _ _ _ h => h) (Or.inl ⟨by rfl, ?hy15⟩) (by assumption) ?rest15
            case hy15 => (intro w' hSw; (try dsimp only at hSw); go_simp; try with_reducible rfl)
            try simp only [Act.put, List.setIfInBounds_toArray, List.set_cons_zero, List.set_cons_succ]
            refine wpAnyH_take (i := 16) (v := ?v16) rfl (by kernel_rfl) (by kernel_rfl) (by kernel_rfl) (fun _ _ _ h => h) (Or.inl ⟨by rfl, ?hy16⟩) (by assumption) ?rest16
            case hy16 => (intro w' hSw; (try dsimp only at hSw); go_simp; try with_reducible rfl)
            try simp only [Act.put, List.setIfInBounds_toArray, List.set_cons_zero, List.set_cons_succ]
            refine wpAnyH_ready (rs := [17]) (by kernel_rfl) (by simp) (AllReadyH.cons rfl (fun K hK => ?_) AllReadyH.nil)
            go_simp
            refine hK.out _ _ (by first | exact HK6.out _ (Only.set _ _ _ _) | exact HK6.out _ (Only.trans (Only.set _ _ _ _) (Only.drew _ _))) (fun hHeld => ?_)
            clear hK K
            refine wpAnyH_done (by kernel_rfl) ?_ _
            go_wp2_with fail
            go_roundg f
            case measure => omega
            case rel => exact ⟨m - 1, nextR b', jsB 3 b' false, ac2, .slice A6 ac2.length c6, by first | rw [hwr] | (simp only [hwr]; done) | go_num, ⟨by have := HM.out; omega, by have := HM.out; omega, by have := HM.out; rw [← HAC.out, List.length_append]; simp; omega⟩, by rw [← HAC.out, List.length_append]; simp; omega, HZN, ⟨by rw [← HAC.out, ← HMK.out]; exact HLN.out.1, HLN.out.2⟩, ⟨(HS6.out _ (by first | exact blk_drew (by rw [blk_set HBK6.out 1 _]; rfl) | (rw [blk_set HBK6.out 1 _]; rfl)) (by first | exact Only.set _ _ _ _ | exact Only.trans (Only.set _ _ _ _) (Only.drew _ _))).2⟩, ⟨(HS6.out _ (by first | exact blk_drew (by rw [blk_set HBK6.out 1 _]; rfl) | (rw [blk_set HBK6.out 1 _]; rfl)) (by first | exact Only.set _ _ _ _ | exact Only.trans (Only.set _ _ _ _) (Only.drew _ _))).1⟩⟩
        · have HL2 := HL1.out
          rw [hf, its_end mkA (jsB 3) cgo] at HL2
          have hacc : acc = L1.1 := by rw [← HL2.1]; simp
          have hpb : (b', bad') = L1.2 := HL2.2
          have HE := Aside0.mk (And.intro hacc hpb)
          clear HL2 HL1 HZ hacc hpb
          by_cases cm : 0 < m
          · have cmb : decide (rd H 3 - m < rd H 3) = true := decide_eq_true (by omega)
            cases bad' with
            | false => exact absurd ⟨cm, rfl⟩ cgo
            | true =>
              go_wp2_with fail
              go_meet
              exact ⟨v1, by rw [← HE.out.1]; exact HX, by rw [← HE.out.2]; exact HRB⟩
          · have cmb : decide (rd H 3 - m < rd H 3) = false := decide_eq_false (by omega)
            go_wp2_with fail
            go_meet
            exact ⟨v1, by rw [← HE.out.1]; exact HX, by rw [← HE.out.2]; exact HRB⟩
    case rest =>
      clear HX HRB HL1 HZ1 k3
      obtain ⟨v1, HX, HRB⟩ := hcut
      have hL1l := HPAL.out
      obtain ⟨L2, hL2⟩ : ∃ L, itR (rd H 4) L1.2 = L := ⟨_, rfl⟩
      have HL2 := Aside0.mk (show its nextL rowB (L1.2.1.length + 2) (rd H 4) L1.2.1 L1.2.2 = L2 from hL2)
      have hL2l : L2.2.1.length ≤ b.length := by rw [← hL2]; exact Nat.le_trans (its_left _ _ _ _ _ _).1 (by omega)
      have HL2q := Aside0.mk hL2
      clear hL2
      have i4 : 4 < H.length := by omega
      have e4 : (4 : Int) < (H.length : Int) := by omega
      have k4 := (show _ = some (Value.int .i64 (rd H 4)) from (Kd.R_celln 0 HX.out.f0 4 (by decide) (by omega)).1)
      rw [show ((4 : Int)).toNat = 4 from rfl] at k4
      go_upto_region 10 with (first | ((with_reducible refine gate_dst (N := 63) rfl ?_); (try (refine gate_guard (by rfl) ?_; dsimp only)); refine goesL_ (some 63) rfl rfl Try.func32 (by kernel_rfl) rfl #[.pointer (some ⟨gr, 0, none⟩), .int .i64 (rd H 4)] rfl (by (try simp only [List.map_toArray, List.map_cons, List.map_nil]); first | done | rfl | (simp only [List.length_drop, List.length_take]; rfl)) ?_; refine (xMany w gr L1.2.1 L1.2.2 (rd H 4) _ HRB.out (by omega) (HBD.out 4).1 (HBD.out 4).2).mono ?_; rintro e w2 ⟨v2, rfl, ho, hR, hF⟩; refine ⟨_, rfl, ?_⟩; rw [show its nextL rowB (L1.2.1.length + 2) (rd H 4) L1.2.1 L1.2.2 = L2 from HL2.out] at ho hR; have HX_ := Aside0.mk (HX.out.fg hF); have HU := Aside0.mk (HX.out.new HRB.out.lt ho); clear HX HRB hF; have HX := HX_; have HRB := Aside0.mk hR; clear ho hR HX_; obtain ⟨B2, d2, e2⟩ := Kd.R_slice HU.out; subst e2) | ((with_reducible refine gate_none rfl ?_); refine store_only rfl 23 (.tmp 65) (.tmp 63) rfl gs 2 (.slice B2 L2.1.length d2) rfl rfl 29 _ #[.int .i64 (rd H 0), v1, .slice B2 L2.1.length d2, .slice none 0 0, .slice none 0 0, .slice none 0 0, .slice none 0 0, .slice none 0 0, .slice none 0 0, .int .i64 (rd H 1), .bool (rd H 2 == 1)] HX.out.blk (by kernel_rfl) (show 2 < 11 by decide) rfl rfl rfl ?_; intro w3 hg3 ho3; have HX_ := Aside0.mk (HX.out.set2 HU.out hg3 ho3); have HRB_ := Aside0.mk (HX.out.rb HRB.out ho3); clear HX HRB HU hg3 ho3; have HX := HX_; have HRB := HRB_; clear HX_ HRB_))
      clear k4
      obtain ⟨X3, hX3⟩ : ∃ X, nextL L2.2.1 = X := ⟨_, rfl⟩
      have HX3 := Aside0.mk hX3
      obtain ⟨P3, hP3⟩ : ∃ Q, nx L2.2 = Q := ⟨_, rfl⟩
      have HP3 := Aside0.mk hP3
      have hP3l : P3.1.length ≤ b.length := by rw [← hP3]; exact Nat.le_trans (nextR_len _) (by omega)
      go_upto_region 11 with (first | ((with_reducible refine gate_dst (N := 67) rfl ?_); (try (refine gate_guard (by rfl) ?_; dsimp only)); refine goesL_ (some 67) rfl rfl Try.func33 (by kernel_rfl) rfl #[.pointer (some ⟨gr, 0, none⟩)] rfl (by (try simp only [List.map_toArray, List.map_cons, List.map_nil]); first | done | rfl | (simp only [List.length_drop, List.length_take]; rfl)) ?_; refine (xRow w gr L2.2.1 L2.2.2 _ HRB.out).mono ?_; rintro e w2 ⟨v2, rfl, ho, hR, hF⟩; refine ⟨_, rfl, ?_⟩; rw [HX3.out] at ho; have HX_ := Aside0.mk (HX.out.fg hF); have HU := Aside0.mk (HX.out.new HRB.out.lt ho); clear HX HRB hF; have HX := HX_; have HRB := Aside0.mk hR; clear ho hR HX_; obtain ⟨B3, d3, e2⟩ := Kd.R_slice HU.out; subst e2) | ((with_reducible refine gate_none rfl ?_); refine store_only rfl 24 (.tmp 69) (.tmp 67) rfl gs 3 (.slice B3 X3.length d3) rfl rfl 29 _ #[.int .i64 (rd H 0), v1, .slice B2 L2.1.length d2, .slice B3 X3.length d3, .slice none 0 0, .slice none 0 0, .slice none 0 0, .slice none 0 0, .slice none 0 0, .int .i64 (rd H 1), .bool (rd H 2 == 1)] HX.out.blk (by kernel_rfl) (show 3 < 11 by decide) rfl rfl rfl ?_; intro w3 hg3 ho3; have HX_ := Aside0.mk (HX.out.set3 HU.out hg3 ho3); have HRB_ := Aside0.mk (HX.out.rb HRB.out ho3); clear HX HRB HU hg3 ho3; have HX := HX_; have HRB := HRB_; clear HX_ HRB_))
      rw [show (nextR L2.2.1) = P3.1 by rw [← hP3]; rfl, show (rowB L2.2.1 L2.2.2) = P3.2 by rw [← hP3]; rfl] at HRB
      clear hX3 hP3
      obtain ⟨L4, hL4⟩ : ∃ L, itR (rd H 6) P3 = L := ⟨_, rfl⟩
      have HL4 := Aside0.mk (show its nextL rowB (P3.1.length + 2) (rd H 6) P3.1 P3.2 = L4 from hL4)
      have hL4l : L4.2.1.length ≤ b.length := by rw [← hL4]; exact Nat.le_trans (its_left _ _ _ _ _ _).1 (by omega)
      have HL4q := Aside0.mk hL4
      clear hL4
      have i6 : 6 < H.length := by omega
      have e6 : (6 : Int) < (H.length : Int) := by omega
      have k6 := (show _ = some (Value.int .i64 (rd H 6)) from (Kd.R_celln 0 HX.out.f0 6 (by decide) (by omega)).1)
      rw [show ((6 : Int)).toNat = 6 from rfl] at k6
      go_upto_region 12 with (first | ((with_reducible refine gate_dst (N := 74) rfl ?_); (try (refine gate_guard (by rfl) ?_; dsimp only)); refine goesL_ (some 74) rfl rfl Try.func32 (by kernel_rfl) rfl #[.pointer (some ⟨gr, 0, none⟩), .int .i64 (rd H 6)] rfl (by (try simp only [List.map_toArray, List.map_cons, List.map_nil]); first | done | rfl | (simp only [List.length_drop, List.length_take]; rfl)) ?_; refine (xMany w gr P3.1 P3.2 (rd H 6) _ HRB.out (by omega) (HBD.out 6).1 (HBD.out 6).2).mono ?_; rintro e w2 ⟨v2, rfl, ho, hR, hF⟩; refine ⟨_, rfl, ?_⟩; rw [show its nextL rowB (P3.1.length + 2) (rd H 6) P3.1 P3.2 = L4 from HL4.out] at ho hR; have HX_ := Aside0.mk (HX.out.fg hF); have HU := Aside0.mk (HX.out.new HRB.out.lt ho); clear HX HRB hF; have HX := HX_; have HRB := Aside0.mk hR; clear ho hR HX_; obtain ⟨B4, d4, e2⟩ := Kd.R_slice HU.out; subst e2) | ((with_reducible refine gate_none rfl ?_); refine store_only rfl 23 (.tmp 76) (.tmp 74) rfl gs 4 (.slice B4 L4.1.length d4) rfl rfl 29 _ #[.int .i64 (rd H 0), v1, .slice B2 L2.1.length d2, .slice B3 X3.length d3, .slice B4 L4.1.length d4, .slice none 0 0, .slice none 0 0, .slice none 0 0, .slice none 0 0, .int .i64 (rd H 1), .bool (rd H 2 == 1)] HX.out.blk (by kernel_rfl) (show 4 < 11 by decide) rfl rfl rfl ?_; intro w3 hg3 ho3; have HX_ := Aside0.mk (HX.out.set4 HU.out hg3 ho3); have HRB_ := Aside0.mk (HX.out.rb HRB.out ho3); clear HX HRB HU hg3 ho3; have HX := HX_; have HRB := HRB_; clear HX_ HRB_))
      clear k6
      obtain ⟨X5, hX5⟩ : ∃ X, nextL L4.2.1 = X := ⟨_, rfl⟩
      have HX5 := Aside0.mk hX5
      obtain ⟨P5, hP5⟩ : ∃ Q, nx L4.2 = Q := ⟨_, rfl⟩
      have HP5 := Aside0.mk hP5
      have hP5l : P5.1.length ≤ b.length := by rw [← hP5]; exact Nat.le_trans (nextR_len _) (by omega)
      go_upto_region 13 with (first | ((with_reducible refine gate_dst (N := 78) rfl ?_); (try (refine gate_guard (by rfl) ?_; dsimp only)); refine goesL_ (some 78) rfl rfl Try.func33 (by kernel_rfl) rfl #[.pointer (some ⟨gr, 0, none⟩)] rfl (by (try simp only [List.map_toArray, List.map_cons, List.map_nil]); first | done | rfl | (simp only [List.length_drop, List.length_take]; rfl)) ?_; refine (xRow w gr L4.2.1 L4.2.2 _ HRB.out).mono ?_; rintro e w2 ⟨v2, rfl, ho, hR, hF⟩; refine ⟨_, rfl, ?_⟩; rw [HX5.out] at ho; have HX_ := Aside0.mk (HX.out.fg hF); have HU := Aside0.mk (HX.out.new HRB.out.lt ho); clear HX HRB hF; have HX := HX_; have HRB := Aside0.mk hR; clear ho hR HX_; obtain ⟨B5, d5, e2⟩ := Kd.R_slice HU.out; subst e2) | ((with_reducible refine gate_none rfl ?_); refine store_only rfl 24 (.tmp 79) (.tmp 78) rfl gs 5 (.slice B5 X5.length d5) rfl rfl 29 _ #[.int .i64 (rd H 0), v1, .slice B2 L2.1.length d2, .slice B3 X3.length d3, .slice B4 L4.1.length d4, .slice B5 X5.length d5, .slice none 0 0, .slice none 0 0, .slice none 0 0, .int .i64 (rd H 1), .bool (rd H 2 == 1)] HX.out.blk (by kernel_rfl) (show 5 < 11 by decide) rfl rfl rfl ?_; intro w3 hg3 ho3; have HX_ := Aside0.mk (HX.out.set5 HU.out hg3 ho3); have HRB_ := Aside0.mk (HX.out.rb HRB.out ho3); clear HX HRB HU hg3 ho3; have HX := HX_; have HRB := HRB_; clear HX_ HRB_))
      rw [show (nextR L4.2.1) = P5.1 by rw [← hP5]; rfl, show (rowB L4.2.1 L4.2.2) = P5.2 by rw [← hP5]; rfl] at HRB
      clear hX5 hP5
      obtain ⟨L6, hL6⟩ : ∃ L, itR (rd H 7) P5 = L := ⟨_, rfl⟩
      have HL6 := Aside0.mk (show its nextL rowB (P5.1.length + 2) (rd H 7) P5.1 P5.2 = L6 from hL6)
      have hL6l : L6.2.1.length ≤ b.length := by rw [← hL6]; exact Nat.le_trans (its_left _ _ _ _ _ _).1 (by omega)
      have HL6q := Aside0.mk hL6
      clear hL6
      have i7 : 7 < H.length := by omega
      have e7 : (7 : Int) < (H.length : Int) := by omega
      have k7 := (show _ = some (Value.int .i64 (rd H 7)) from (Kd.R_celln 0 HX.out.f0 7 (by decide) (by omega)).1)
      rw [show ((7 : Int)).toNat = 7 from rfl] at k7
      go_upto_region 14 with (first | ((with_reducible refine gate_dst (N := 84) rfl ?_); (try (refine gate_guard (by rfl) ?_; dsimp only)); refine goesL_ (some 84) rfl rfl Try.func32 (by kernel_rfl) rfl #[.pointer (some ⟨gr, 0, none⟩), .int .i64 (rd H 7)] rfl (by (try simp only [List.map_toArray, List.map_cons, List.map_nil]); first | done | rfl | (simp only [List.length_drop, List.length_take]; rfl)) ?_; refine (xMany w gr P5.1 P5.2 (rd H 7) _ HRB.out (by omega) (HBD.out 7).1 (HBD.out 7).2).mono ?_; rintro e w2 ⟨v2, rfl, ho, hR, hF⟩; refine ⟨_, rfl, ?_⟩; rw [show its nextL rowB (P5.1.length + 2) (rd H 7) P5.1 P5.2 = L6 from HL6.out] at ho hR; have HX_ := Aside0.mk (HX.out.fg hF); have HU := Aside0.mk (HX.out.new HRB.out.lt ho); clear HX HRB hF; have HX := HX_; have HRB := Aside0.mk hR; clear ho hR HX_; obtain ⟨B6, d6, e2⟩ := Kd.R_slice HU.out; subst e2) | ((with_reducible refine gate_none rfl ?_); refine store_only rfl 23 (.tmp 85) (.tmp 84) rfl gs 6 (.slice B6 L6.1.length d6) rfl rfl 29 _ #[.int .i64 (rd H 0), v1, .slice B2 L2.1.length d2, .slice B3 X3.length d3, .slice B4 L4.1.length d4, .slice B5 X5.length d5, .slice B6 L6.1.length d6, .slice none 0 0, .slice none 0 0, .int .i64 (rd H 1), .bool (rd H 2 == 1)] HX.out.blk (by kernel_rfl) (show 6 < 11 by decide) rfl rfl rfl ?_; intro w3 hg3 ho3; have HX_ := Aside0.mk (HX.out.set6 HU.out hg3 ho3); have HRB_ := Aside0.mk (HX.out.rb HRB.out ho3); clear HX HRB HU hg3 ho3; have HX := HX_; have HRB := HRB_; clear HX_ HRB_))
      clear k7
      have i8 : 8 < H.length := by omega
      have e8 : (8 : Int) < (H.length : Int) := by omega
      have k8 := (show _ = some (Value.int .i64 (rd H 8)) from (Kd.R_celln 0 HX.out.f0 8 (by decide) (by omega)).1)
      rw [show ((8 : Int)).toNat = 8 from rfl] at k8
      go_upto_block 2 with fail
      have HX_ := Aside0.mk (show SI w _ gs gr w.heap.size (.slice (some ⟨gh, 0, none⟩) H.length ch) v1 (.slice B2 L2.1.length d2) (.slice B3 X3.length d3) (.slice B4 L4.1.length d4) (.slice B5 X5.length d5) (.slice B6 L6.1.length d6) (.slice none 0 0) (.slice none 0 0) H ⟨rd H 0, L1.1, L2.1, X3, L4.1, X5, L6.1, [], [], rd H 1, rd H 2 == 1⟩ from HX.out)
      clear HX
      have HX := HX_
      clear HX_
      obtain ⟨L7, hL7⟩ : ∃ L, itP (rd H 8) L6.2 = L := ⟨_, rfl⟩
      have HL7 := Aside0.mk hL7
      have HL7q := Aside0.mk hL7
      have HPAL7 := Aside0.mk (show L7.2.1.length ≤ b.length by rw [← hL7]; exact Nat.le_trans (its_left _ _ _ _ _ _).1 hL6l)
      have HZ7 := Aside0.mk (show Fz (L6.2.1.length + 2) L6.2.1 L6.2.2 from ⟨by omega, fun _ => Nat.le_refl _⟩)
      clear hL7
      go_cut [] (fun wx => ∃ v7 : Value, Aside0 (SI w wx gs gr w.heap.size (.slice (some ⟨gh, 0, none⟩) H.length ch) v1 (.slice B2 L2.1.length d2) (.slice B3 X3.length d3) (.slice B4 L4.1.length d4) (.slice B5 X5.length d5) (.slice B6 L6.1.length d6) v7 (.slice none 0 0) H ⟨rd H 0, L1.1, L2.1, X3, L4.1, X5, L6.1, L7.1, [], rd H 1, rd H 2 == 1⟩) ∧ Aside0 (RB 61 w wx gr L7.2.1 (!L7.2.2)))
      case first =>
        go_wp2
        go_loopg [9, 10] (L6.2.1.length + 2) (fun kq v9 v10 w' => ∃ (m : Int) (b' : List Int) (bad' : Bool) (acc : List S43) (v7 : Value), v9 = .int .i64 (rd H 8 - m) ∧ Aside0 (-9223372036854775808 ≤ m ∧ m < 9223372036854775808 ∧ rd H 8 - m = (acc.length : Int)) ∧ acc.length + kq ≤ b.length + 2 ∧ Aside0 (Fz kq b' bad') ∧ Aside0 (acc ++ (its mkP (jsB 7) kq m b' bad').1 = L7.1 ∧ (its mkP (jsB 7) kq m b' bad').2 = L7.2) ∧ Aside0 (RB 61 w w' gr b' (!bad')) ∧ Aside0 (SI w w' gs gr w.heap.size (.slice (some ⟨gh, 0, none⟩) H.length ch) v1 (.slice B2 L2.1.length d2) (.slice B3 X3.length d3) (.slice B4 L4.1.length d4) (.slice B5 X5.length d5) (.slice B6 L6.1.length d6) v7 (.slice none 0 0) H ⟨rd H 0, L1.1, L2.1, X3, L4.1, X5, L6.1, acc, [], rd H 1, rd H 2 == 1⟩))
        case atStart => exact ⟨rd H 8, L6.2.1, L6.2.2, [], .slice none 0 0, by simp, ⟨(HBD.out 8).1, (HBD.out 8).2, by simp⟩, by simp; omega, HZ7, ⟨HL7.out ▸ rfl, HL7.out ▸ rfl⟩, HRB, HX⟩
        case round =>
          clear HRB HX HL7 HZ7 k8
          obtain ⟨m, b', bad', acc, v7, rfl, HM, hacc, HZ, HL1, HRB, HX⟩ := hrel
          have e8_ : (8 : Int) < (H.length : Int) := by omega
          have k8 := (show _ = some (Value.int .i64 (rd H 8)) from (Kd.R_celln 0 HX.out.f0 8 (by decide) (by omega)).1)
          rw [show ((8 : Int)).toNat = 8 from rfl] at k8
          obtain ⟨f, hf⟩ : ∃ f, gk = f + 1 := ⟨gk - 1, by have := HZ.out.1; omega⟩
          obtain ⟨A1, c1, hG, _⟩ := HRB.out.blk
          obtain ⟨z0, z1, zf0, zf1⟩ := cells2 hG
          clear hG
          by_cases cgo : 0 < m ∧ bad' = false
          · obtain ⟨cm, cbf⟩ := cgo
            subst cbf
            have cmb : decide (rd H 8 - m < rd H 8) = true := decide_eq_true (by omega)
            have hwr : wrap64 (rd H 8 - m + 1) = rd H 8 - (m - 1) := by have := HM.out; unfold wrap64; omega
            have HL2 := HL1.out
            rw [hf, its_go mkP (jsB 7) cm rfl] at HL2
            have HLN := Aside0.mk (show (acc ++ [mkP b']) ++ (its mkP (jsB 7) f (m - 1) (nextR b') (jsB 7 b' false)).1 = L7.1 ∧ (its mkP (jsB 7) f (m - 1) (nextR b') (jsB 7 b' false)).2 = L7.2 from ⟨by rw [← HL2.1, List.append_assoc]; rfl, HL2.2⟩)
            have HZN := Aside0.mk (Fz.step (bad' := jsB 7 b' false) (by rw [← hf]; exact HZ.out) rfl jsB_ok)
            clear HL2 HL1 HZ
            go_upto_region 18 with (first | ((with_reducible refine gate_dst (N := 100) rfl ?_); (try (refine gate_guard (by rfl) ?_; dsimp only)); refine goesL_ (some 100) rfl rfl Try.func31 (by kernel_rfl) rfl #[.pointer (some ⟨gr, 0, none⟩), .int .i64 7] rfl (by (try simp only [List.map_toArray, List.map_cons, List.map_nil]); first | done | rfl | (simp only [List.length_drop, List.length_take]; rfl)) ?_; refine (xJust w gr b' false 7 _ HRB.out (by decide)).mono ?_; rintro e w2 ⟨v2, rfl, ho, hR, hF⟩; refine ⟨_, rfl, ?_⟩; have HO := Aside0.mk ho; have HX_ := Aside0.mk (HX.out.fg hF); have HX9 := Aside0.mk (HX.out.new HRB.out.lt ho); clear HX HRB hF z0 z1 zf0 zf1; have HX := HX_; have HRB := Aside0.mk hR; clear ho hR HX_; obtain ⟨ga, ca, e2, _, hlta, _⟩ := Kd.R_form HO.out (by rw [jsL_len]; decide); subst e2))
            have q3 : 7 ≤ (jsL 7 b').length ∧ (jsL 7 b').length ≤ 7 := by rw [jsL_len]; exact ⟨Nat.le_refl _, Nat.le_refl _⟩
            have HMK := Aside0.mk (show mkP b' = ⟨rd (jsL 7 b') 0, rd (jsL 7 b') 1, rd (jsL 7 b') 2, rd (jsL 7 b') 3, rd (jsL 7 b') 4, rd (jsL 7 b') 5, rd (jsL 7 b') 6⟩ from rfl)
            generalize jsL 7 b' = X at *
            have HK3 := Aside0.mk (show w2.cell? ⟨ga, 0, none⟩ = some (.int .i64 (rd X 0)) ∧ w2.cell? ⟨ga, 1, none⟩ = some (.int .i64 (rd X 1)) ∧ w2.cell? ⟨ga, 2, none⟩ = some (.int .i64 (rd X 2)) ∧ w2.cell? ⟨ga, 3, none⟩ = some (.int .i64 (rd X 3)) ∧ w2.cell? ⟨ga, 4, none⟩ = some (.int .i64 (rd X 4)) ∧ w2.cell? ⟨ga, 5, none⟩ = some (.int .i64 (rd X 5)) ∧ w2.cell? ⟨ga, 6, none⟩ = some (.int .i64 (rd X 6)) from ⟨(Kd.R_celln 0 HO.out 0 (by decide) (by omega)).1, (Kd.R_celln 0 HO.out 1 (by decide) (by omega)).1, (Kd.R_celln 0 HO.out 2 (by decide) (by omega)).1, (Kd.R_celln 0 HO.out 3 (by decide) (by omega)).1, (Kd.R_celln 0 HO.out 4 (by decide) (by omega)).1, (Kd.R_celln 0 HO.out 5 (by decide) (by omega)).1, (Kd.R_celln 0 HO.out 6 (by decide) (by omega)).1⟩)
            have j0 : (0 : Nat) < X.length := by omega
            have j1 : 1 < X.length := by omega
            have j2 : 2 < X.length := by omega
            have e1 : (1 : Int) < (X.length : Int) := by omega
            have e2 : (2 : Int) < (X.length : Int) := by omega
            have j3 : 3 < X.length := by omega
            have e3 : (3 : Int) < (X.length : Int) := by omega
            have j4 : 4 < X.length := by omega
            have e4 : (4 : Int) < (X.length : Int) := by omega
            have j5 : 5 < X.length := by omega
            have e5 : (5 : Int) < (X.length : Int) := by omega
            have j6 : 6 < X.length := by omega
            have e6 : (6 : Int) < (X.length : Int) := by omega
            have y1 : w2.cell? ⟨gs, 7, none⟩ = some v7 := (blk_cell HX.out.blk 7).trans rfl
            have yo : ∀ o : Obj, (w2.alloc o).cell? ⟨gs, 7, none⟩ = some v7 := fun o => pw_cell_below (below_alloc (Below.refl _ _) o) y1
            have yd : ∀ o : Obj, (w2.alloc o).drew.cell? ⟨gs, 7, none⟩ = some v7 := yo
            have HMB := Aside0.mk (show acc.length + 1 ≤ 20000000000 by omega)
            obtain ⟨ac2, hac2⟩ : ∃ Z, acc ++ [(⟨rd X 0, rd X 1, rd X 2, rd X 3, rd X 4, rd X 5, rd X 6⟩ : S43)] = Z := ⟨_, rfl⟩
            have HAC := Aside0.mk hac2
            clear hac2
            refine wp_region_held_drew (S := fun w' => w'.cell? ⟨ga, 0, none⟩ = some (.int .i64 (rd X 0)) ∧ w'.cell? ⟨ga, 1, none⟩ = some (.int .i64 (rd X 1)) ∧ w'.cell? ⟨ga, 2, none⟩ = some (.int .i64 (rd X 2)) ∧ w'.cell? ⟨ga, 3, none⟩ = some (.int .i64 (rd X 3)) ∧ w'.cell? ⟨ga, 4, none⟩ = some (.int .i64 (rd X 4)) ∧ w'.cell? ⟨ga, 5, none⟩ = some (.int .i64 (rd X 5)) ∧ w'.cell? ⟨ga, 6, none⟩ = some (.int .i64 (rd X 6))) (by kernel_rfl) (keep7 (by repeat (first | exact Below.refl _ _ | refine below_drew ?_ | refine below_alloc ?_ _ | refine pw_below_drewN ?_ _)) HK3.out) (fun hHeld => ?_)
            refine wpAnyH_take (i := 0) (v := ?v17) rfl (by kernel_rfl) (by kernel_rfl) (by kernel_rfl) (fun _ _ _ h => h) (Or.inl ⟨by rfl, ?hy17⟩) (by assumption) ?rest17
            case hy17 => (intro w' hSw; (try dsimp only at hSw); go_simp; try with_reducible rfl)
            try simp only [Act.put, List.setIfInBounds_toArray, List.set_cons_zero, List.set_cons_succ]
            refine wpAnyH_take (i := 2) (v := ?v18) rfl (by kernel_rfl) (by kernel_rfl) (by kernel_rfl) (fun _ _ _ h => h) (Or.inl ⟨by rfl, ?hy18⟩) (by assumption) ?rest18
            case hy18 => (intro w' hSw; (try dsimp only at hSw); go_simp; try with_reducible rfl)
            try simp only [Act.put, List.setIfInBounds_toArray, List.set_cons_zero, List.set_cons_succ]
            refine wpAnyH_take (i := 3) (v := ?v19) rfl (by kernel_rfl) (by kernel_rfl) (by kernel_rfl) (fun _ _ _ h => h) (Or.inl ⟨by rfl, ?hy19⟩) (by assumption) ?rest19
            case hy19 => (intro w' hSw; (try dsimp only at hSw); go_simp; try with_reducible rfl)
            try simp only [Act.put, List.setIfInBounds_toArray, List.set_cons_zero, List.set_cons_succ]
            refine wpAnyH_take (i := 4) (v := ?v20) rfl (by kernel_rfl) (by kernel_rfl) (by kernel_rfl) (fun _ _ _ h => h) (Or.inl ⟨by rfl, ?hy20⟩) (by assumption) ?rest20
            case hy20 => (intro w' hSw; (try dsimp only at hSw); go_simp; try with_reducible rfl)
            try simp only [Act.put, List.setIfInBounds_toArray, List.set_cons_zero, List.set_cons_succ]
            refine wpAnyH_take (i := 5) (v := ?v21) rfl (by kernel_rfl) (by kernel_rfl) (by kernel_rfl) (fun _ _ _ h => h) (Or.inl ⟨by rfl, ?hy21⟩) (by assumption) ?rest21
            case hy21 => (intro w' hSw; (try dsimp only at hSw); go_simp; try with_reducible rfl)
            try simp only [Act.put, List.setIfInBounds_toArray, List.set_cons_zero, List.set_cons_succ]
            refine wpAnyH_take (i := 6) (v := ?v22) rfl (by kernel_rfl) (by kernel_rfl) (by kernel_rfl) (fun _ _ _ h => h) (Or.inl ⟨by rfl, ?hy22⟩) (by assumption) ?rest22
            case hy22 => (intro w' hSw; (try dsimp only at hSw); go_simp; try with_reducible rfl)
            try simp only [Act.put, List.setIfInBounds_toArray, List.set_cons_zero, List.set_cons_succ]
            refine wpAnyH_take (i := 7) (v := ?v23) rfl (by kernel_rfl) (by kernel_rfl) (by kernel_rfl) (fun _ _ _ h => h) (Or.inl ⟨by rfl, ?hy23⟩) (by assumption) ?rest23
            case hy23 => (intro w' hSw; (try dsimp only at hSw); go_simp; try with_reducible rfl)
            try simp only [Act.put, List.setIfInBounds_toArray, List.set_cons_zero, List.set_cons_succ]
            refine wpAnyH_take (i := 8) (v := ?v24) rfl (by kernel_rfl) (by kernel_rfl) (by kernel_rfl) (fun _ _ _ h => h) (Or.inl ⟨by rfl, ?hy24⟩) (by assumption) ?rest24
            case hy24 => (intro w' hSw; (try dsimp only at hSw); go_simp; try with_reducible rfl)
            try simp only [Act.put, List.setIfInBounds_toArray, List.set_cons_zero, List.set_cons_succ]
            refine wpAnyH_take (i := 9) (v := ?v25) rfl (by kernel_rfl) (by kernel_rfl) (by kernel_rfl) (fun _ _ _ h => h) (Or.inl ⟨by rfl, ?hy25⟩) (by assumption) ?rest25
            case hy25 => (intro w' hSw; (try dsimp only at hSw); go_simp; try with_reducible rfl)
            try simp only [Act.put, List.setIfInBounds_toArray, List.set_cons_zero, List.set_cons_succ]
            refine wpAnyH_take (i := 10) (v := ?v26) rfl (by kernel_rfl) (by kernel_rfl) (by kernel_rfl) (fun _ _ _ h => h) (Or.inl ⟨by rfl, ?hy26⟩) (by assumption) ?rest26
            case hy26 => (intro w' hSw; (try dsimp only at hSw); go_simp; try with_reducible rfl)
            try simp only [Act.put, List.setIfInBounds_toArray, List.set_cons_zero, List.set_cons_succ]
            refine wpAnyH_take (i := 11) (v := ?v27) rfl (by kernel_rfl) (by kernel_rfl) (by kernel_rfl) (fun _ _ _ h => h) (Or.inl ⟨by rfl, ?hy27⟩) (by assumption) ?rest27
            case hy27 => (intro w' hSw; (try dsimp only at hSw); go_simp; try with_reducible rfl)
            try simp only [Act.put, List.setIfInBounds_toArray, List.set_cons_zero, List.set_cons_succ]
            refine wpAnyH_take (i := 12) (v := ?v28) rfl (by kernel_rfl) (by kernel_rfl) (by kernel_rfl) (fun _ _ _ h => h) (Or.inl ⟨by rfl, ?hy28⟩) (by assumption) ?rest28
            case hy28 => (intro w' hSw; (try dsimp only at hSw); go_simp; try with_reducible rfl)
            try simp only [Act.put, List.setIfInBounds_toArray, List.set_cons_zero, List.set_cons_succ]
            refine wpAnyH_take (i := 13) (v := ?v29) rfl (by kernel_rfl) (by kernel_rfl) (by kernel_rfl) (fun _ _ _ h => h) (Or.inl ⟨by rfl, ?hy29⟩) (by assumption) ?rest29
            case hy29 => (intro w' hSw; (try dsimp only at hSw); go_simp; try with_reducible rfl)
            try simp only [Act.put, List.setIfInBounds_toArray, List.set_cons_zero, List.set_cons_succ]
            refine wpAnyH_take (i := 14) (v := ?v30) rfl (by kernel_rfl) (by kernel_rfl) (by kernel_rfl) (fun _ _ _ h => h) (Or.inl ⟨by rfl, ?hy30⟩) (by assumption) ?rest30
            case hy30 => (intro w' hSw; (try dsimp only at hSw); go_simp; try with_reducible rfl)
            try simp only [Act.put, List.setIfInBounds_toArray, List.set_cons_zero, List.set_cons_succ]
            refine wpAnyH_take (i := 15) (v := ?v31) rfl (by kernel_rfl) (by kernel_rfl) (by kernel_rfl) (fun _ _ _ h => h) (Or.inl ⟨by rfl, ?hy31⟩) (by assumption) ?rest31
            case hy31 => (intro w' hSw; (try dsimp only at hSw); go_simp; try with_reducible rfl)
            try simp only [Act.put, List.setIfInBounds_toArray, List.set_cons_zero, List.set_cons_succ]
            refine wpAnyH_take (i := 16) (v := ?v32) rfl (by kernel_rfl) (by kernel_rfl) (by kernel_rfl) (fun _ _ _ h => h) (Or.inl ⟨by rfl, ?hy32⟩) (by assumption) ?rest32
            case hy32 => (intro w' hSw; (try dsimp only at hSw); go_simp; try with_reducible rfl)
            try simp only [Act.put, List.setIfInBounds_toArray, List.set_cons_zero, List.set_cons_succ]
            refine wpAnyH_take (i := 17) (v := ?v33) rfl (by kernel_rfl) (by kernel_rfl) (by kernel_rfl) (fun _ _ _ h => h) (Or.inl ⟨by rfl, ?hy33⟩) (by assumption) ?rest33
            case hy33 => (intro w' hSw; (try dsimp only at hSw); go_simp; try with_reducible rfl)
            try simp only [Act.put, List.setIfInBounds_toArray, List.set_cons_zero, List.set_cons_succ]
            refine wpAnyH_take (i := 18) (v := ?v34) rfl (by kernel_rfl) (by kernel_rfl) (by kernel_rfl) (fun _ _ _ h => h) (Or.inl ⟨by rfl, ?hy34⟩) (by assumption) ?rest34
            case hy34 => (intro w' hSw; (try dsimp only at hSw); go_simp; try with_reducible rfl)
            try simp only [Act.put, List.setIfInBounds_toArray, List.set_cons_zero, List.set_cons_succ]
            refine wpAnyH_take (i := 19) (v := ?v35) rfl (by kernel_rfl) (by kernel_rfl) (by kernel_rfl) (fun _ _ _ h => h) (Or.inl ⟨by rfl, ?hy35⟩) (by assumption) ?rest35
            case hy35 => (intro w' hSw; (try dsimp only at hSw); go_simp; try with_reducible rfl)
            try simp only [Act.put, List.setIfInBounds_toArray, List.set_cons_zero, List.set_cons_succ]
            refine wpAnyH_take (i := 20) (v := ?v36) rfl (by kernel_rfl) (by kernel_rfl) (by kernel_rfl) (fun _ _ _ h => h) (Or.inl ⟨by rfl, ?hy36⟩) (by assumption) ?rest36
            case hy36 => (intro w' hSw; (try dsimp only at hSw); go_simp; try with_reducible rfl)
            try simp only [Act.put, List.setIfInBounds_toArray, List.set_cons_zero, List.set_cons_succ]
            refine wpAnyH_take (i := 21) (v := ?v37) rfl (by kernel_rfl) (by kernel_rfl) (by kernel_rfl) (fun _ _ _ h => h) (Or.inl ⟨by rfl, ?hy37⟩) (by assumption) ?rest37
            case hy37 => (intro w' hSw; (try dsimp only at hSw); go_simp; try with_reducible rfl)
            try simp only [Act.put, List.setIfInBounds_toArray, List.set_cons_zero, List.set_cons_succ]
            refine wpAnyH_take (i := 22) (v := ?v38) rfl (by kernel_rfl) (by kernel_rfl) (by kernel_rfl) (fun _ _ _ h => h) (Or.inl ⟨by rfl, ?hy38⟩) (by assumption) ?rest38
            case hy38 => (intro w' hSw; (try dsimp only at hSw); go_simp; try with_reducible rfl)
            try simp only [Act.put, List.setIfInBounds_toArray, List.set_cons_zero, List.set_cons_succ]
            refine wpAnyH_take (i := 23) (v := ?v39) rfl (by kernel_rfl) (by kernel_rfl) (by kernel_rfl) (fun _ _ _ h => h) (Or.inl ⟨by rfl, ?hy39⟩) (by assumption) ?rest39
            case hy39 => (intro w' hSw; (try dsimp only at hSw); go_simp; try with_reducible rfl)
            try simp only [Act.put, List.setIfInBounds_toArray, List.set_cons_zero, List.set_cons_succ]
            refine wpAnyH_ready (rs := [1, 24]) (by kernel_rfl) (by simp) (AllReadyH.cons rfl (fun K hK => ?_) (AllReadyH.cons rfl (fun K hK => ?_) AllReadyH.nil))
            · go_simp
              refine hK.out _ _ (by exact keep7 (by repeat (first | exact Below.refl _ _ | refine below_drew ?_ | refine below_alloc ?_ _ | refine pw_below_drewN ?_ _)) HK3.out) (fun hHeld => ?_)
              clear hK K
              refine wpAnyH_ready (rs := [24]) (by kernel_rfl) (by simp) (AllReadyH.cons rfl (fun K hK => ?_) AllReadyH.nil)
              go_simp
              refine hK.out _ _ (by exact keep7 (by repeat (first | exact Below.refl _ _ | refine below_drew ?_ | refine below_alloc ?_ _ | refine pw_below_drewN ?_ _)) HK3.out) (fun hHeld => ?_)
              clear hK K
              refine wpAnyH_ready (rs := [25]) (by kernel_rfl) (by simp) (AllReadyH.cons rfl (fun K hK => ?_) AllReadyH.nil)
              (refine pay_step (w := w) (gs := gs) (gr := gr) (gz := w.heap.size) (g := w2.heap.size) (by rfl) (.tmp 102) (.tmp 125) rfl v7 acc ⟨rd X 0, rd X 1, rd X 2, rd X 3, rd X 4, rd X 5, rd X 6⟩ rfl rfl (by first | exact blk_drew (blk_new w2 _) | exact blk_new w2 _) (Kd.R_below HX.out.f7 (by repeat (first | exact Below.refl _ _ | refine below_drew ?_ | refine below_alloc ?_ _))) (below_step HX.out.base (by repeat (first | exact Below.refl _ _ | refine below_drew ?_ | refine below_alloc ?_ _))) (by have := blk_lt HX.out.blk; simp; omega) (by have := HRB.out.lt; simp; omega) (by have := blk_lt HX.out.z; simp; omega) (by have := HMB.out; omega) ?_; intro v6 w6 ho6 hb6 hg6; rw [HAC.out] at ho6; obtain ⟨A6, c6, e6⟩ := Kd.R_slice ho6; subst e6; have HXW := HX.out.below (W1 := _) (show Below w2.heap.size w2 _ from below_drew (below_alloc (Below.refl _ _) (.cells #[.int .i64 (rd X 0), .int .i64 (rd X 1), .int .i64 (rd X 2), .int .i64 (rd X 3), .int .i64 (rd X 4), .int .i64 (rd X 5), .int .i64 (rd X 6)] 43))); have HBK6 := Aside0.mk (HXW.far7 hg6); have y6 := (blk_cell HBK6.out 7).trans (show _ = some v7 from rfl); have y6f := blk_frozen HBK6.out 7; have HS6 := Aside0.mk (fun (W2 : World) (hg2 : W2.heap[gs]? = some (.cells #[.int .i64 (rd H 0), v1, .slice B2 L2.1.length d2, .slice B3 X3.length d3, .slice B4 L4.1.length d4, .slice B5 X5.length d5, .slice B6 L6.1.length d6, .slice A6 ac2.length c6, .slice none 0 0, .int .i64 (rd H 1), .bool (rd H 2 == 1)] 29 (0, 0))) (ho : Only gs w6 W2) => And.intro (HXW.app7 ho6 hb6 hg6 hg2 ho) (HXW.rb7 (HRB.out.below (show Below w2.heap.size w2 _ from below_drew (below_alloc (Below.refl _ _) (.cells #[.int .i64 (rd X 0), .int .i64 (rd X 1), .int .i64 (rd X 2), .int .i64 (rd X 3), .int .i64 (rd X 4), .int .i64 (rd X 5), .int .i64 (rd X 6)] 43)))) (by decide) hg6 ho)); have HK6 := Aside0.mk (fun (W2 : World) (ho : Only gs w6 W2) => (show W2.cell? ⟨ga, 0, none⟩ = some (.int .i64 (rd X 0)) ∧ W2.cell? ⟨ga, 1, none⟩ = some (.int .i64 (rd X 1)) ∧ W2.cell? ⟨ga, 2, none⟩ = some (.int .i64 (rd X 2)) ∧ W2.cell? ⟨ga, 3, none⟩ = some (.int .i64 (rd X 3)) ∧ W2.cell? ⟨ga, 4, none⟩ = some (.int .i64 (rd X 4)) ∧ W2.cell? ⟨ga, 5, none⟩ = some (.int .i64 (rd X 5)) ∧ W2.cell? ⟨ga, 6, none⟩ = some (.int .i64 (rd X 6)) from ⟨far_cells (Kd.R_below HX9.out (show Below w2.heap.size w2 _ from below_drew (below_alloc (Below.refl _ _) (.cells #[.int .i64 (rd X 0), .int .i64 (rd X 1), .int .i64 (rd X 2), .int .i64 (rd X 3), .int .i64 (rd X 4), .int .i64 (rd X 5), .int .i64 (rd X 6)] 43)))) HXW.f7 (by decide) hg6 ho 0 j0, far_cells (Kd.R_below HX9.out (show Below w2.heap.size w2 _ from below_drew (below_alloc (Below.refl _ _) (.cells #[.int .i64 (rd X 0), .int .i64 (rd X 1), .int .i64 (rd X 2), .int .i64 (rd X 3), .int .i64 (rd X 4), .int .i64 (rd X 5), .int .i64 (rd X 6)] 43)))) HXW.f7 (by decide) hg6 ho 1 j1, far_cells (Kd.R_below HX9.out (show Below w2.heap.size w2 _ from below_drew (below_alloc (Below.refl _ _) (.cells #[.int .i64 (rd X 0), .int .i64 (rd X 1), .int .i64 (rd X 2), .int .i64 (rd X 3), .int .i64 (rd X 4), .int .i64 (rd X 5), .int .i64 (rd X 6)] 43)))) HXW.f7 (by decide) hg6 ho 2 j2, far_cells (Kd.R_below HX9.out (show Below w2.heap.size w2 _ from below_drew (below_alloc (Below.refl _ _) (.cells #[.int .i64 (rd X 0), .int .i64 (rd X 1), .int .i64 (rd X 2), .int .i64 (rd X 3), .int .i64 (rd X 4), .int .i64 (rd X 5), .int .i64 (rd X 6)] 43)))) HXW.f7 (by decide) hg6 ho 3 j3, far_cells (Kd.R_below HX9.out (show Below w2.heap.size w2 _ from below_drew (below_alloc (Below.refl _ _) (.cells #[.int .i64 (rd X 0), .int .i64 (rd X 1), .int .i64 (rd X 2), .int .i64 (rd X 3), .int .i64 (rd X 4), .int .i64 (rd X 5), .int .i64 (rd X 6)] 43)))) HXW.f7 (by decide) hg6 ho 4 j4, far_cells (Kd.R_below HX9.out (show Below w2.heap.size w2 _ from below_drew (below_alloc (Below.refl _ _) (.cells #[.int .i64 (rd X 0), .int .i64 (rd X 1), .int .i64 (rd X 2), .int .i64 (rd X 3), .int .i64 (rd X 4), .int .i64 (rd X 5), .int .i64 (rd X 6)] 43)))) HXW.f7 (by decide) hg6 ho 5 j5, far_cells (Kd.R_below HX9.out (show Below w2.heap.size w2 _ from below_drew (below_alloc (Below.refl _ _) (.cells #[.int .i64 (rd X 0), .int .i64 (rd X 1), .int .i64 (rd X 2), .int .i64 (rd X 3), .int .i64 (rd X 4), .int .i64 (rd X 5), .int .i64 (rd X 6)] 43)))) HXW.f7 (by decide) hg6 ho 6 j6⟩)); clear HXW ho6 hb6 hg6)
              refine hK.out _ _ (HK6.out _ (Only.refl _ _)) (fun hHeld => ?_)
              clear hK K
              refine wpAnyH_take (i := 26) (v := ?v40) rfl (by kernel_rfl) (by kernel_rfl) (by kernel_rfl) (fun _ _ _ h => h) (Or.inl ⟨by rfl, ?hy40⟩) (by assumption) ?rest40
              case hy40 => (intro w' hSw; (try dsimp only at hSw); go_simp; try with_reducible rfl)
              try simp only [Act.put, List.setIfInBounds_toArray, List.set_cons_zero, List.set_cons_succ]
              refine wpAnyH_ready (rs := [27]) (by kernel_rfl) (by simp) (AllReadyH.cons rfl (fun K hK => ?_) AllReadyH.nil)
              go_simp
              refine hK.out _ _ (by first | exact HK6.out _ (Only.set _ _ _ _) | exact HK6.out _ (Only.trans (Only.set _ _ _ _) (Only.drew _ _))) (fun hHeld => ?_)
              clear hK K
              refine wpAnyH_done (by kernel_rfl) ?_ _
              go_wp2_with fail
              go_roundg f
              case measure => omega
              case rel => exact ⟨m - 1, nextR b', jsB 7 b' false, ac2, .slice A6 ac2.length c6, by first | rw [hwr] | (simp only [hwr]; done) | go_num, ⟨by have := HM.out; omega, by have := HM.out; omega, by have := HM.out; rw [← HAC.out, List.length_append]; simp; omega⟩, by rw [← HAC.out, List.length_append]; simp; omega, HZN, ⟨by rw [← HAC.out, ← HMK.out]; exact HLN.out.1, HLN.out.2⟩, ⟨(HS6.out _ (by first | exact blk_drew (by rw [blk_set HBK6.out 7 _]; rfl) | (rw [blk_set HBK6.out 7 _]; rfl)) (by first | exact Only.set _ _ _ _ | exact Only.trans (Only.set _ _ _ _) (Only.drew _ _))).2⟩, ⟨(HS6.out _ (by first | exact blk_drew (by rw [blk_set HBK6.out 7 _]; rfl) | (rw [blk_set HBK6.out 7 _]; rfl)) (by first | exact Only.set _ _ _ _ | exact Only.trans (Only.set _ _ _ _) (Only.drew _ _))).1⟩⟩
            · go_simp
              refine hK.out _ _ (by exact keep7 (by repeat (first | exact Below.refl _ _ | refine below_drew ?_ | refine below_alloc ?_ _ | refine pw_below_drewN ?_ _)) HK3.out) (fun hHeld => ?_)
              clear hK K
              refine wpAnyH_ready (rs := [1]) (by kernel_rfl) (by simp) (AllReadyH.cons rfl (fun K hK => ?_) AllReadyH.nil)
              go_simp
              refine hK.out _ _ (by exact keep7 (by repeat (first | exact Below.refl _ _ | refine below_drew ?_ | refine below_alloc ?_ _ | refine pw_below_drewN ?_ _)) HK3.out) (fun hHeld => ?_)
              clear hK K
              refine wpAnyH_ready (rs := [25]) (by kernel_rfl) (by simp) (AllReadyH.cons rfl (fun K hK => ?_) AllReadyH.nil)
              (refine pay_step (w := w) (gs := gs) (gr := gr) (gz := w.heap.size) (g := w2.heap.size) (by rfl) (.tmp 102) (.tmp 125) rfl v7 acc ⟨rd X 0, rd X 1, rd X 2, rd X 3, rd X 4, rd X 5, rd X 6⟩ rfl rfl (by first | exact blk_drew (blk_new w2 _) | exact blk_new w2 _) (Kd.R_below HX.out.f7 (by repeat (first | exact Below.refl _ _ | refine below_drew ?_ | refine below_alloc ?_ _))) (below_step HX.out.base (by repeat (first | exact Below.refl _ _ | refine below_drew ?_ | refine below_alloc ?_ _))) (by have := blk_lt HX.out.blk; simp; omega) (by have := HRB.out.lt; simp; omega) (by have := blk_lt HX.out.z; simp; omega) (by have := HMB.out; omega) ?_; intro v6 w6 ho6 hb6 hg6; rw [HAC.out] at ho6; obtain ⟨A6, c6, e6⟩ := Kd.R_slice ho6; subst e6; have HXW := HX.out.below (W1 := _) (show Below w2.heap.size w2 _ from below_drew (below_alloc (Below.refl _ _) (.cells #[.int .i64 (rd X 0), .int .i64 (rd X 1), .int .i64 (rd X 2), .int .i64 (rd X 3), .int .i64 (rd X 4), .int .i64 (rd X 5), .int .i64 (rd X 6)] 43))); have HBK6 := Aside0.mk (HXW.far7 hg6); have y6 := (blk_cell HBK6.out 7).trans (show _ = some v7 from rfl); have y6f := blk_frozen HBK6.out 7; have HS6 := Aside0.mk (fun (W2 : World) (hg2 : W2.heap[gs]? = some (.cells #[.int .i64 (rd H 0), v1, .slice B2 L2.1.length d2, .slice B3 X3.length d3, .slice B4 L4.1.length d4, .slice B5 X5.length d5, .slice B6 L6.1.length d6, .slice A6 ac2.length c6, .slice none 0 0, .int .i64 (rd H 1), .bool (rd H 2 == 1)] 29 (0, 0))) (ho : Only gs w6 W2) => And.intro (HXW.app7 ho6 hb6 hg6 hg2 ho) (HXW.rb7 (HRB.out.below (show Below w2.heap.size w2 _ from below_drew (below_alloc (Below.refl _ _) (.cells #[.int .i64 (rd X 0), .int .i64 (rd X 1), .int .i64 (rd X 2), .int .i64 (rd X 3), .int .i64 (rd X 4), .int .i64 (rd X 5), .int .i64 (rd X 6)] 43)))) (by decide) hg6 ho)); have HK6 := Aside0.mk (fun (W2 : World) (ho : Only gs w6 W2) => (show W2.cell? ⟨ga, 0, none⟩ = some (.int .i64 (rd X 0)) ∧ W2.cell? ⟨ga, 1, none⟩ = some (.int .i64 (rd X 1)) ∧ W2.cell? ⟨ga, 2, none⟩ = some (.int .i64 (rd X 2)) ∧ W2.cell? ⟨ga, 3, none⟩ = some (.int .i64 (rd X 3)) ∧ W2.cell? ⟨ga, 4, none⟩ = some (.int .i64 (rd X 4)) ∧ W2.cell? ⟨ga, 5, none⟩ = some (.int .i64 (rd X 5)) ∧ W2.cell? ⟨ga, 6, none⟩ = some (.int .i64 (rd X 6)) from ⟨far_cells (Kd.R_below HX9.out (show Below w2.heap.size w2 _ from below_drew (below_alloc (Below.refl _ _) (.cells #[.int .i64 (rd X 0), .int .i64 (rd X 1), .int .i64 (rd X 2), .int .i64 (rd X 3), .int .i64 (rd X 4), .int .i64 (rd X 5), .int .i64 (rd X 6)] 43)))) HXW.f7 (by decide) hg6 ho 0 j0, far_cells (Kd.R_below HX9.out (show Below w2.heap.size w2 _ from below_drew (below_alloc (Below.refl _ _) (.cells #[.int .i64 (rd X 0), .int .i64 (rd X 1), .int .i64 (rd X 2), .int .i64 (rd X 3), .int .i64 (rd X 4), .int .i64 (rd X 5), .int .i64 (rd X 6)] 43)))) HXW.f7 (by decide) hg6 ho 1 j1, far_cells (Kd.R_below HX9.out (show Below w2.heap.size w2 _ from below_drew (below_alloc (Below.refl _ _) (.cells #[.int .i64 (rd X 0), .int .i64 (rd X 1), .int .i64 (rd X 2), .int .i64 (rd X 3), .int .i64 (rd X 4), .int .i64 (rd X 5), .int .i64 (rd X 6)] 43)))) HXW.f7 (by decide) hg6 ho 2 j2, far_cells (Kd.R_below HX9.out (show Below w2.heap.size w2 _ from below_drew (below_alloc (Below.refl _ _) (.cells #[.int .i64 (rd X 0), .int .i64 (rd X 1), .int .i64 (rd X 2), .int .i64 (rd X 3), .int .i64 (rd X 4), .int .i64 (rd X 5), .int .i64 (rd X 6)] 43)))) HXW.f7 (by decide) hg6 ho 3 j3, far_cells (Kd.R_below HX9.out (show Below w2.heap.size w2 _ from below_drew (below_alloc (Below.refl _ _) (.cells #[.int .i64 (rd X 0), .int .i64 (rd X 1), .int .i64 (rd X 2), .int .i64 (rd X 3), .int .i64 (rd X 4), .int .i64 (rd X 5), .int .i64 (rd X 6)] 43)))) HXW.f7 (by decide) hg6 ho 4 j4, far_cells (Kd.R_below HX9.out (show Below w2.heap.size w2 _ from below_drew (below_alloc (Below.refl _ _) (.cells #[.int .i64 (rd X 0), .int .i64 (rd X 1), .int .i64 (rd X 2), .int .i64 (rd X 3), .int .i64 (rd X 4), .int .i64 (rd X 5), .int .i64 (rd X 6)] 43)))) HXW.f7 (by decide) hg6 ho 5 j5, far_cells (Kd.R_below HX9.out (show Below w2.heap.size w2 _ from below_drew (below_alloc (Below.refl _ _) (.cells #[.int .i64 (rd X 0), .int .i64 (rd X 1), .int .i64 (rd X 2), .int .i64 (rd X 3), .int .i64 (rd X 4), .int .i64 (rd X 5), .int .i64 (rd X 6)] 43)))) HXW.f7 (by decide) hg6 ho 6 j6⟩)); clear HXW ho6 hb6 hg6)
              refine hK.out _ _ (HK6.out _ (Only.refl _ _)) (fun hHeld => ?_)
              clear hK K
              refine wpAnyH_take (i := 26) (v := ?v41) rfl (by kernel_rfl) (by kernel_rfl) (by kernel_rfl) (fun _ _ _ h => h) (Or.inl ⟨by rfl, ?hy41⟩) (by assumption) ?rest41
              case hy41 => (intro w' hSw; (try dsimp only at hSw); go_simp; try with_reducible rfl)
              try simp only [Act.put, List.setIfInBounds_toArray, List.set_cons_zero, List.set_cons_succ]
              refine wpAnyH_ready (rs := [27]) (by kernel_rfl) (by simp) (AllReadyH.cons rfl (fun K hK => ?_) AllReadyH.nil)
              go_simp
              refine hK.out _ _ (by first | exact HK6.out _ (Only.set _ _ _ _) | exact HK6.out _ (Only.trans (Only.set _ _ _ _) (Only.drew _ _))) (fun hHeld => ?_)
              clear hK K
              refine wpAnyH_done (by kernel_rfl) ?_ _
              go_wp2_with fail
              go_roundg f
              case measure => omega
              case rel => exact ⟨m - 1, nextR b', jsB 7 b' false, ac2, .slice A6 ac2.length c6, by first | rw [hwr] | (simp only [hwr]; done) | go_num, ⟨by have := HM.out; omega, by have := HM.out; omega, by have := HM.out; rw [← HAC.out, List.length_append]; simp; omega⟩, by rw [← HAC.out, List.length_append]; simp; omega, HZN, ⟨by rw [← HAC.out, ← HMK.out]; exact HLN.out.1, HLN.out.2⟩, ⟨(HS6.out _ (by first | exact blk_drew (by rw [blk_set HBK6.out 7 _]; rfl) | (rw [blk_set HBK6.out 7 _]; rfl)) (by first | exact Only.set _ _ _ _ | exact Only.trans (Only.set _ _ _ _) (Only.drew _ _))).2⟩, ⟨(HS6.out _ (by first | exact blk_drew (by rw [blk_set HBK6.out 7 _]; rfl) | (rw [blk_set HBK6.out 7 _]; rfl)) (by first | exact Only.set _ _ _ _ | exact Only.trans (Only.set _ _ _ _) (Only.drew _ _))).1⟩⟩
          · have HL2 := HL1.out
            rw [hf, its_end mkP (jsB 7) cgo] at HL2
            have hacc : acc = L7.1 := by rw [← HL2.1]; simp
            have hpb : (b', bad') = L7.2 := HL2.2
            have HE := Aside0.mk (And.intro hacc hpb)
            clear HL2 HL1 HZ hacc hpb
            by_cases cm : 0 < m
            · have cmb : decide (rd H 8 - m < rd H 8) = true := decide_eq_true (by omega)
              cases bad' with
              | false => exact absurd ⟨cm, rfl⟩ cgo
              | true =>
                go_wp2_with fail
                go_meet
                exact ⟨v7, by rw [← HE.out.1]; exact HX, by rw [← HE.out.2]; exact HRB⟩
            · have cmb : decide (rd H 8 - m < rd H 8) = false := decide_eq_false (by omega)
              go_wp2_with fail
              go_meet
              exact ⟨v7, by rw [← HE.out.1]; exact HX, by rw [← HE.out.2]; exact HRB⟩
      case rest =>
        clear HX HRB HL7 HZ7 k8
        obtain ⟨v7, HX, HRB⟩ := hcut
        have hL7l := HPAL7.out
        obtain ⟨X8, hX8⟩ : ∃ X, nextL L7.2.1 = X := ⟨_, rfl⟩
        have HX8 := Aside0.mk hX8
        obtain ⟨P8, hP8⟩ : ∃ Q, nx L7.2 = Q := ⟨_, rfl⟩
        have HP8 := Aside0.mk hP8
        have hP8l : P8.1.length ≤ b.length := by rw [← hP8]; exact Nat.le_trans (nextR_len _) (by omega)
        go_upto_region 20 with (first | ((with_reducible refine gate_dst (N := 129) rfl ?_); (try (refine gate_guard (by rfl) ?_; dsimp only)); refine goesL_ (some 129) rfl rfl Try.func33 (by kernel_rfl) rfl #[.pointer (some ⟨gr, 0, none⟩)] rfl (by (try simp only [List.map_toArray, List.map_cons, List.map_nil]); first | done | rfl | (simp only [List.length_drop, List.length_take]; rfl)) ?_; refine (xRow w gr L7.2.1 L7.2.2 _ HRB.out).mono ?_; rintro e w2 ⟨v2, rfl, ho, hR, hF⟩; refine ⟨_, rfl, ?_⟩; rw [HX8.out] at ho; have HX_ := Aside0.mk (HX.out.fg hF); have HU := Aside0.mk (HX.out.new HRB.out.lt ho); clear HX HRB hF; have HX := HX_; have HRB := Aside0.mk hR; clear ho hR HX_; obtain ⟨B8, d8, e2⟩ := Kd.R_slice HU.out; subst e2) | ((with_reducible refine gate_none rfl ?_); refine store_only rfl 24 (.tmp 130) (.tmp 129) rfl gs 8 (.slice B8 X8.length d8) rfl rfl 29 _ #[.int .i64 (rd H 0), v1, .slice B2 L2.1.length d2, .slice B3 X3.length d3, .slice B4 L4.1.length d4, .slice B5 X5.length d5, .slice B6 L6.1.length d6, v7, .slice B8 X8.length d8, .int .i64 (rd H 1), .bool (rd H 2 == 1)] HX.out.blk (by kernel_rfl) (show 8 < 11 by decide) rfl rfl rfl ?_; intro w3 hg3 ho3; have HX_ := Aside0.mk (HX.out.set8 HU.out hg3 ho3); have HRB_ := Aside0.mk (HX.out.rb HRB.out ho3); clear HX HRB HU hg3 ho3; have HX := HX_; have HRB := HRB_; clear HX_ HRB_))
        rw [show (nextR L7.2.1) = P8.1 by rw [← hP8]; rfl, show (rowB L7.2.1 L7.2.2) = P8.2 by rw [← hP8]; rfl] at HRB
        clear hX8 hP8
        have hS : sSt b = (⟨rd H 0, L1.1, L2.1, X3, L4.1, X5, L6.1, L7.1, X8, rd H 1, rd H 2 == 1⟩ : St) ∧ pI b = P8 := by
          have eA : itA (rd (hd b) 3) (p1 b) = L1 := by rw [HH.out, HP1.out]; exact HL1q.out
          have eA2 : pA b = L1.2 := by unfold pA; rw [eA]
          have eB : itR (rd (hd b) 4) (pA b) = L2 := by rw [HH.out, eA2]; exact HL2q.out
          have eB2 : pB b = L2.2 := by unfold pB; rw [eB]
          have e3 : nextL (pB b).1 = X3 := by rw [eB2]; exact HX3.out
          have eM : pM b = P3 := by unfold pM; rw [eB2]; exact HP3.out
          have eS : itR (rd (hd b) 6) (pM b) = L4 := by rw [HH.out, eM]; exact HL4q.out
          have eS2 : pS b = L4.2 := by unfold pS; rw [eS]
          have e5 : nextL (pS b).1 = X5 := by rw [eS2]; exact HX5.out
          have eC : pC b = P5 := by unfold pC; rw [eS2]; exact HP5.out
          have eH : itR (rd (hd b) 7) (pC b) = L6 := by rw [HH.out, eC]; exact HL6q.out
          have eH2 : pH b = L6.2 := by unfold pH; rw [eH]
          have eP : itP (rd (hd b) 8) (pH b) = L7 := by rw [HH.out, eH2]; exact HL7q.out
          have eP2 : pP b = L7.2 := by unfold pP; rw [eP]
          have e8 : nextL (pP b).1 = X8 := by rw [eP2]; exact HX8.out
          have eI : pI b = P8 := by unfold pI; rw [eP2]; exact HP8.out
          exact ⟨by unfold sSt; rw [eA, eB, e3, eS, e5, eH, eP, e8, HH.out], eI⟩
        have HS := Aside0.mk hS
        have HBd := Aside0.mk (show St.Bd (b.length + 2) (⟨rd H 0, L1.1, L2.1, X3, L4.1, X5, L6.1, L7.1, X8, rd H 1, rd H 2 == 1⟩ : St) by rw [← hS.1]; exact sSt_bd b)
        clear hS
        have HX_ := Aside0.mk (show SI w _ gs gr w.heap.size (.slice (some ⟨gh, 0, none⟩) H.length ch) v1 (.slice B2 L2.1.length d2) (.slice B3 X3.length d3) (.slice B4 L4.1.length d4) (.slice B5 X5.length d5) (.slice B6 L6.1.length d6) v7 (.slice B8 X8.length d8) H ⟨rd H 0, L1.1, L2.1, X3, L4.1, X5, L6.1, L7.1, X8, rd H 1, rd H 2 == 1⟩ from HX.out)
        clear HX
        have HX := HX_
        clear HX_
        obtain ⟨B1, d1, e1_⟩ := Kd.R_slice HX.out.f1
        subst e1_
        obtain ⟨B7, d7, e7_⟩ := Kd.R_slice HX.out.f7
        subst e7_
        have hz11 := bk11 HX.out.blk
        obtain ⟨t0, t1, t2, t3, t4, t5, t6, t7, t8, t9, t10⟩ := hz11
        obtain ⟨A9, c9, hG9, _⟩ := HRB.out.blk
        obtain ⟨z0, z1, zf0, zf1⟩ := cells2 hG9
        clear hG9
        obtain ⟨SB, hSB⟩ : ∃ x, sbytes (⟨rd H 0, L1.1, L2.1, X3, L4.1, X5, L6.1, L7.1, X8, rd H 1, rd H 2 == 1⟩ : St) = x := ⟨_, rfl⟩
        have HSB := Aside0.mk hSB
        have HSI8 := Aside0.mk (show IsB SB by rw [← hSB]; exact sbytes_bytes _)
        clear hSB
        cases hf8 : P8.2 with
        | true =>
          have HNO := Aside0.mk (show sOk b = false by unfold sOk; rw [HS.out.2, hf8]; rfl)
          rw [hf8, Bool.not_true] at z1
          clear hf8
          have HS0 := Aside0.mk (show Aside0 (Below w3.heap.size w3 w3) ∧ Aside0 (Kd.C (Kd.int .u8) w3 A b.length b) ∧ w3.cell? ⟨gs, 0, none⟩ = some (.int .i64 (rd H 0)) ∧ w3.cell? ⟨gs, 1, none⟩ = some (.slice B1 L1.1.length d1) ∧ w3.cell? ⟨gs, 2, none⟩ = some (.slice B2 L2.1.length d2) ∧ w3.cell? ⟨gs, 3, none⟩ = some (.slice B3 X3.length d3) ∧ w3.cell? ⟨gs, 4, none⟩ = some (.slice B4 L4.1.length d4) ∧ w3.cell? ⟨gs, 5, none⟩ = some (.slice B5 X5.length d5) ∧ w3.cell? ⟨gs, 6, none⟩ = some (.slice B6 L6.1.length d6) ∧ w3.cell? ⟨gs, 7, none⟩ = some (.slice B7 L7.1.length d7) ∧ w3.cell? ⟨gs, 8, none⟩ = some (.slice B8 X8.length d8) ∧ w3.cell? ⟨gs, 9, none⟩ = some (.int .i64 (rd H 1)) ∧ w3.cell? ⟨gs, 10, none⟩ = some (.bool (rd H 2 == 1)) ∧ w3.cell? ⟨gr, 0, none⟩ = some (.slice A9 P8.1.length c9) ∧ w3.cell? ⟨gr, 1, none⟩ = some (.bool false) ∧ (convert 31 9 (.slice A b.length c)).run Try.prog w3 = .ok (.string (strOfNums b)) w3 from ⟨⟨Below.refl _ _⟩, ⟨Kd.C_below HC.out HX.out.base⟩, t0, t1, t2, t3, t4, t5, t6, t7, t8, t9, t10, z0, z1, cstr (Kd.C_below HC.out HX.out.base)⟩)
          clear t0 t1 t2 t3 t4 t5 t6 t7 t8 t9 t10 z0 z1 zf0 zf1
          refine wp_region_held_drew (S := fun w' => Aside0 (Below w3.heap.size w3 w') ∧ Aside0 (Kd.C (Kd.int .u8) w' A b.length b) ∧ w'.cell? ⟨gs, 0, none⟩ = some (.int .i64 (rd H 0)) ∧ w'.cell? ⟨gs, 1, none⟩ = some (.slice B1 L1.1.length d1) ∧ w'.cell? ⟨gs, 2, none⟩ = some (.slice B2 L2.1.length d2) ∧ w'.cell? ⟨gs, 3, none⟩ = some (.slice B3 X3.length d3) ∧ w'.cell? ⟨gs, 4, none⟩ = some (.slice B4 L4.1.length d4) ∧ w'.cell? ⟨gs, 5, none⟩ = some (.slice B5 X5.length d5) ∧ w'.cell? ⟨gs, 6, none⟩ = some (.slice B6 L6.1.length d6) ∧ w'.cell? ⟨gs, 7, none⟩ = some (.slice B7 L7.1.length d7) ∧ w'.cell? ⟨gs, 8, none⟩ = some (.slice B8 X8.length d8) ∧ w'.cell? ⟨gs, 9, none⟩ = some (.int .i64 (rd H 1)) ∧ w'.cell? ⟨gs, 10, none⟩ = some (.bool (rd H 2 == 1)) ∧ w'.cell? ⟨gr, 0, none⟩ = some (.slice A9 P8.1.length c9) ∧ w'.cell? ⟨gr, 1, none⟩ = some (.bool false) ∧ (convert 31 9 (.slice A b.length c)).run Try.prog w' = .ok (.string (strOfNums b)) w') (by kernel_rfl) (keep14 (below_drew (Below.refl _ _)) HS0.out) (fun hHeld => ?_)
          refine wpAnyH_take (i := 0) (v := ?w1) rfl (by kernel_rfl) (by kernel_rfl) (by kernel_rfl) (fun _ _ _ h => h) (Or.inl ⟨by rfl, ?hz1⟩) (by assumption) ?resw1
          case hz1 => (intro w' hSw; (try dsimp only at hSw); go_simp; try with_reducible rfl)
          simp only [Act.put, List.getElem_toArray, List.getElem_cons_zero, List.getElem_cons_succ, List.setIfInBounds_toArray, List.set_cons_zero, List.set_cons_succ]
          refine wpAnyH_take (i := 1) (v := ?w2) rfl (by kernel_rfl) (by kernel_rfl) (by kernel_rfl) (fun _ _ _ h => h) (Or.inl ⟨by rfl, ?hz2⟩) (by assumption) ?resw2
          case hz2 => (intro w' hSw; (try dsimp only at hSw); go_simp; try with_reducible rfl)
          simp only [Act.put, List.getElem_toArray, List.getElem_cons_zero, List.getElem_cons_succ, List.setIfInBounds_toArray, List.set_cons_zero, List.set_cons_succ]
          refine wpAnyH_take (i := 2) (v := ?w3) rfl (by kernel_rfl) (by kernel_rfl) (by kernel_rfl) (fun _ _ _ h => h) (Or.inl ⟨by rfl, ?hz3⟩) (by assumption) ?resw3
          case hz3 => (intro w' hSw; (try dsimp only at hSw); go_simp; try with_reducible rfl)
          simp only [Act.put, List.getElem_toArray, List.getElem_cons_zero, List.getElem_cons_succ, List.setIfInBounds_toArray, List.set_cons_zero, List.set_cons_succ]
          refine wpAnyH_take (i := 3) (v := ?w4) rfl (by kernel_rfl) (by kernel_rfl) (by kernel_rfl) (fun _ _ _ h => h) (Or.inl ⟨by rfl, ?hz4⟩) (by assumption) ?resw4
          case hz4 => (intro w' hSw; (try dsimp only at hSw); go_simp; try with_reducible rfl)
          simp only [Act.put, List.getElem_toArray, List.getElem_cons_zero, List.getElem_cons_succ, List.setIfInBounds_toArray, List.set_cons_zero, List.set_cons_succ]
          refine wpAnyH_take (i := 4) (v := ?w5) rfl (by kernel_rfl) (by kernel_rfl) (by kernel_rfl) (fun _ _ _ h => h) (Or.inl ⟨by rfl, ?hz5⟩) (by assumption) ?resw5
          case hz5 => (intro w' hSw; (try dsimp only at hSw); go_simp; try with_reducible rfl)
          simp only [Act.put, List.getElem_toArray, List.getElem_cons_zero, List.getElem_cons_succ, List.setIfInBounds_toArray, List.set_cons_zero, List.set_cons_succ]
          refine wpAnyH_take (i := 5) (v := ?w6) rfl (by kernel_rfl) (by kernel_rfl) (by kernel_rfl) (fun _ _ _ h => h) (Or.inl ⟨by rfl, ?hz6⟩) (by assumption) ?resw6
          case hz6 => (intro w' hSw; (try dsimp only at hSw); go_simp; try with_reducible rfl)
          simp only [Act.put, List.getElem_toArray, List.getElem_cons_zero, List.getElem_cons_succ, List.setIfInBounds_toArray, List.set_cons_zero, List.set_cons_succ]
          refine wpAnyH_take (i := 6) (v := undef) rfl (by kernel_rfl) (by kernel_rfl) (by kernel_rfl) (fun _ _ _ h => h) (Or.inr ⟨by go_simp <;> omega, rfl⟩) (by assumption) ?resw7
          simp only [Act.put, List.getElem_toArray, List.getElem_cons_zero, List.getElem_cons_succ, List.setIfInBounds_toArray, List.set_cons_zero, List.set_cons_succ]
          refine wpAnyH_take (i := 7) (v := undef) rfl (by kernel_rfl) (by kernel_rfl) (by kernel_rfl) (fun _ _ _ h => h) (Or.inr ⟨by go_simp <;> omega, rfl⟩) (by assumption) ?resw8
          simp only [Act.put, List.getElem_toArray, List.getElem_cons_zero, List.getElem_cons_succ, List.setIfInBounds_toArray, List.set_cons_zero, List.set_cons_succ]
          refine wpAnyH_take (i := 8) (v := undef) rfl (by kernel_rfl) (by kernel_rfl) (by kernel_rfl) (fun _ _ _ h => h) (Or.inr ⟨by go_simp <;> omega, rfl⟩) (by assumption) ?resw9
          simp only [Act.put, List.getElem_toArray, List.getElem_cons_zero, List.getElem_cons_succ, List.setIfInBounds_toArray, List.set_cons_zero, List.set_cons_succ]
          refine wpAnyH_take (i := 9) (v := undef) rfl (by kernel_rfl) (by kernel_rfl) (by kernel_rfl) (fun _ _ _ h => h) (Or.inr ⟨by go_simp <;> omega, rfl⟩) (by assumption) ?resw10
          simp only [Act.put, List.getElem_toArray, List.getElem_cons_zero, List.getElem_cons_succ, List.setIfInBounds_toArray, List.set_cons_zero, List.set_cons_succ]
          refine wpAnyH_take (i := 10) (v := undef) rfl (by kernel_rfl) (by kernel_rfl) (by kernel_rfl) (fun _ _ _ h => h) (Or.inr ⟨by go_simp <;> omega, rfl⟩) (by assumption) ?resw11
          simp only [Act.put, List.getElem_toArray, List.getElem_cons_zero, List.getElem_cons_succ, List.setIfInBounds_toArray, List.set_cons_zero, List.set_cons_succ]
          refine wpAnyH_take (i := 11) (v := undef) rfl (by kernel_rfl) (by kernel_rfl) (by kernel_rfl) (fun _ _ _ h => h) (Or.inr ⟨by go_simp <;> omega, rfl⟩) (by assumption) ?resw12
          simp only [Act.put, List.getElem_toArray, List.getElem_cons_zero, List.getElem_cons_succ, List.setIfInBounds_toArray, List.set_cons_zero, List.set_cons_succ]
          refine wpAnyH_take (i := 12) (v := ?w13) rfl (by kernel_rfl) (by kernel_rfl) (by kernel_rfl) (fun _ _ _ h => h) (Or.inl ⟨by (go_simp <;> omega), ?hz13⟩) (by assumption) ?resw13
          case hz13 => (intro w' hSw; (try dsimp only at hSw); go_simp; try with_reducible rfl)
          simp only [Act.put, List.getElem_toArray, List.getElem_cons_zero, List.getElem_cons_succ, List.setIfInBounds_toArray, List.set_cons_zero, List.set_cons_succ]
          refine wpAnyH_take (i := 13) (v := ?w14) rfl (by kernel_rfl) (by kernel_rfl) (by kernel_rfl) (fun _ _ _ h => h) (Or.inl ⟨by (go_simp <;> omega), ?hz14⟩) (by assumption) ?resw14
          case hz14 => (intro w' hSw; (try dsimp only at hSw); go_simp; try with_reducible rfl)
          simp only [Act.put, List.getElem_toArray, List.getElem_cons_zero, List.getElem_cons_succ, List.setIfInBounds_toArray, List.set_cons_zero, List.set_cons_succ]
          refine wpAnyH_take (i := 14) (v := undef) rfl (by kernel_rfl) (by kernel_rfl) (by kernel_rfl) (fun _ _ _ h => h) (Or.inr ⟨by go_simp <;> omega, rfl⟩) (by assumption) ?resw15
          simp only [Act.put, List.getElem_toArray, List.getElem_cons_zero, List.getElem_cons_succ, List.setIfInBounds_toArray, List.set_cons_zero, List.set_cons_succ]
          refine wpAnyH_take (i := 15) (v := undef) rfl (by kernel_rfl) (by kernel_rfl) (by kernel_rfl) (fun _ _ _ h => h) (Or.inr ⟨by go_simp <;> omega, rfl⟩) (by assumption) ?resw16
          simp only [Act.put, List.getElem_toArray, List.getElem_cons_zero, List.getElem_cons_succ, List.setIfInBounds_toArray, List.set_cons_zero, List.set_cons_succ]
          refine wpAnyH_take (i := 16) (v := undef) rfl (by kernel_rfl) (by kernel_rfl) (by kernel_rfl) (fun _ _ _ h => h) (Or.inr ⟨by go_simp <;> omega, rfl⟩) (by assumption) ?resw17
          simp only [Act.put, List.getElem_toArray, List.getElem_cons_zero, List.getElem_cons_succ, List.setIfInBounds_toArray, List.set_cons_zero, List.set_cons_succ]
          refine wpAnyH_take (i := 17) (v := undef) rfl (by kernel_rfl) (by kernel_rfl) (by kernel_rfl) (fun _ _ _ h => h) (Or.inr ⟨by go_simp <;> omega, rfl⟩) (by assumption) ?resw18
          simp only [Act.put, List.getElem_toArray, List.getElem_cons_zero, List.getElem_cons_succ, List.setIfInBounds_toArray, List.set_cons_zero, List.set_cons_succ]
          refine wpAnyH_take (i := 18) (v := undef) rfl (by kernel_rfl) (by kernel_rfl) (by kernel_rfl) (fun _ _ _ h => h) (Or.inr ⟨by go_simp <;> omega, rfl⟩) (by assumption) ?resw19
          simp only [Act.put, List.getElem_toArray, List.getElem_cons_zero, List.getElem_cons_succ, List.setIfInBounds_toArray, List.set_cons_zero, List.set_cons_succ]
          refine wpAnyH_take (i := 19) (v := undef) rfl (by kernel_rfl) (by kernel_rfl) (by kernel_rfl) (fun _ _ _ h => h) (Or.inr ⟨by go_simp <;> omega, rfl⟩) (by assumption) ?resw20
          simp only [Act.put, List.getElem_toArray, List.getElem_cons_zero, List.getElem_cons_succ, List.setIfInBounds_toArray, List.set_cons_zero, List.set_cons_succ]
          refine wpAnyH_take (i := 20) (v := ?w21) rfl (by kernel_rfl) (by kernel_rfl) (by kernel_rfl) (fun _ _ _ h => h) (Or.inl ⟨by (go_simp <;> omega), ?hz21⟩) (by assumption) ?resw21
          case hz21 => (intro w' hSw; (try dsimp only at hSw); go_simp; try with_reducible rfl)
          simp only [Act.put, List.getElem_toArray, List.getElem_cons_zero, List.getElem_cons_succ, List.setIfInBounds_toArray, List.set_cons_zero, List.set_cons_succ]
          refine wpAnyH_done (by kernel_rfl) ?_ _
          have HX_ := Aside0.mk (HX.out.below (by have hh := ‹Aside0 (Below w3.heap.size w3 _) ∧ _›; exact hh.1.out))
          clear HX HS0
          have HX := HX_
          clear HX_
          try clear hHeld
          try clear hHeld3
          try clear hHeld2
          try clear hs1 hbl
          clear HRB
          go_wp2_with (first | ((with_reducible refine gate_none rfl ?_); refine store_blk rfl 29 (.tmp 2) (.tmp 152) rfl w.heap.size #[.int .i64 0, .slice none 0 0, .slice none 0 0, .slice none 0 0, .slice none 0 0, .slice none 0 0, .slice none 0 0, .slice none 0 0, .slice none 0 0, .int .i64 0, .bool false] rfl rfl 29 _ HX.out.z (by kernel_rfl) rfl (by first | rfl | (simp [Value.oneCell']; done)) ?_; intro w8 hg8 ho8; have HG8 := Aside0.mk hg8; have HB8 := Aside0.mk ((Only.fr (ok := fun k => k = w.heap.size) ho8 rfl).below' HX.out.base (fun k hk => by rw [hk]; exact Nat.le_refl _)); clear hg8 ho8 HX))
          refine bodyPost_ret (results_ct rfl _ _ w.heap.size 29 _ (0, 0) _ rfl HG8.out Try.underlying29 rfl (by kernel_rfl)) rfl ?_
          exact ⟨⟨none, 0, none, 0, none, 0, none, 0, none, 0, none, 0, none, 0, none, 0⟩, by unfold sRead; rw [HNO.out]; rfl, by unfold sRead; rw [HNO.out]; exact no_bytes _, HB8.out⟩
        | false =>
          have HF8 := Aside0.mk hf8
          rw [hf8, Bool.not_false] at z1
          clear hf8
          have HLN := Aside0.mk (show b.length = SB.length + P8.1.length by have := read_len (b := b) (by rw [HS.out.2]; exact HF8.out); rw [HS.out.1, HS.out.2, HSB.out] at this; exact this)
          by_cases hn : P8.1.length = 0
          · rw [hn] at z0
            by_cases hq : SB = b
            · have HEQ := Aside0.mk (decide_eq_true hq)
              have hqs : ((strOfNums SB).toList == (strOfNums b).toList) = true := by rw [str_beq HSI8.out HI.out]; exact HEQ.out
              have HYES := Aside0.mk (show sOk b = true by unfold sOk; rw [HS.out.2, HF8.out, HS.out.1, HSB.out]; exact decide_eq_true hq)
              clear hq hn
              have HS0 := Aside0.mk (show Aside0 (Below w3.heap.size w3 w3) ∧ Aside0 (Kd.C (Kd.int .u8) w3 A b.length b) ∧ w3.cell? ⟨gs, 0, none⟩ = some (.int .i64 (rd H 0)) ∧ w3.cell? ⟨gs, 1, none⟩ = some (.slice B1 L1.1.length d1) ∧ w3.cell? ⟨gs, 2, none⟩ = some (.slice B2 L2.1.length d2) ∧ w3.cell? ⟨gs, 3, none⟩ = some (.slice B3 X3.length d3) ∧ w3.cell? ⟨gs, 4, none⟩ = some (.slice B4 L4.1.length d4) ∧ w3.cell? ⟨gs, 5, none⟩ = some (.slice B5 X5.length d5) ∧ w3.cell? ⟨gs, 6, none⟩ = some (.slice B6 L6.1.length d6) ∧ w3.cell? ⟨gs, 7, none⟩ = some (.slice B7 L7.1.length d7) ∧ w3.cell? ⟨gs, 8, none⟩ = some (.slice B8 X8.length d8) ∧ w3.cell? ⟨gs, 9, none⟩ = some (.int .i64 (rd H 1)) ∧ w3.cell? ⟨gs, 10, none⟩ = some (.bool (rd H 2 == 1)) ∧ w3.cell? ⟨gr, 0, none⟩ = some (.slice A9 0 c9) ∧ w3.cell? ⟨gr, 1, none⟩ = some (.bool true) ∧ (convert 31 9 (.slice A b.length c)).run Try.prog w3 = .ok (.string (strOfNums b)) w3 from ⟨⟨Below.refl _ _⟩, ⟨Kd.C_below HC.out HX.out.base⟩, t0, t1, t2, t3, t4, t5, t6, t7, t8, t9, t10, z0, z1, cstr (Kd.C_below HC.out HX.out.base)⟩)
              clear t0 t1 t2 t3 t4 t5 t6 t7 t8 t9 t10 z0 z1 zf0 zf1
              refine wp_region_held_drew (S := fun w' => Aside0 (Below w3.heap.size w3 w') ∧ Aside0 (Kd.C (Kd.int .u8) w' A b.length b) ∧ w'.cell? ⟨gs, 0, none⟩ = some (.int .i64 (rd H 0)) ∧ w'.cell? ⟨gs, 1, none⟩ = some (.slice B1 L1.1.length d1) ∧ w'.cell? ⟨gs, 2, none⟩ = some (.slice B2 L2.1.length d2) ∧ w'.cell? ⟨gs, 3, none⟩ = some (.slice B3 X3.length d3) ∧ w'.cell? ⟨gs, 4, none⟩ = some (.slice B4 L4.1.length d4) ∧ w'.cell? ⟨gs, 5, none⟩ = some (.slice B5 X5.length d5) ∧ w'.cell? ⟨gs, 6, none⟩ = some (.slice B6 L6.1.length d6) ∧ w'.cell? ⟨gs, 7, none⟩ = some (.slice B7 L7.1.length d7) ∧ w'.cell? ⟨gs, 8, none⟩ = some (.slice B8 X8.length d8) ∧ w'.cell? ⟨gs, 9, none⟩ = some (.int .i64 (rd H 1)) ∧ w'.cell? ⟨gs, 10, none⟩ = some (.bool (rd H 2 == 1)) ∧ w'.cell? ⟨gr, 0, none⟩ = some (.slice A9 0 c9) ∧ w'.cell? ⟨gr, 1, none⟩ = some (.bool true) ∧ (convert 31 9 (.slice A b.length c)).run Try.prog w' = .ok (.string (strOfNums b)) w') (by kernel_rfl) (keep14 (below_drew (Below.refl _ _)) HS0.out) (fun hHeld => ?_)
              refine wpAnyH_take (i := 0) (v := ?w22) rfl (by kernel_rfl) (by kernel_rfl) (by kernel_rfl) (fun _ _ _ h => h) (Or.inl ⟨by rfl, ?hz22⟩) (by assumption) ?resw22
              case hz22 => (intro w' hSw; (try dsimp only at hSw); go_simp; try with_reducible rfl)
              simp only [Act.put, List.getElem_toArray, List.getElem_cons_zero, List.getElem_cons_succ, List.setIfInBounds_toArray, List.set_cons_zero, List.set_cons_succ]
              refine wpAnyH_take (i := 1) (v := ?w23) rfl (by kernel_rfl) (by kernel_rfl) (by kernel_rfl) (fun _ _ _ h => h) (Or.inl ⟨by rfl, ?hz23⟩) (by assumption) ?resw23
              case hz23 => (intro w' hSw; (try dsimp only at hSw); go_simp; try with_reducible rfl)
              simp only [Act.put, List.getElem_toArray, List.getElem_cons_zero, List.getElem_cons_succ, List.setIfInBounds_toArray, List.set_cons_zero, List.set_cons_succ]
              refine wpAnyH_take (i := 2) (v := ?w24) rfl (by kernel_rfl) (by kernel_rfl) (by kernel_rfl) (fun _ _ _ h => h) (Or.inl ⟨by rfl, ?hz24⟩) (by assumption) ?resw24
              case hz24 => (intro w' hSw; (try dsimp only at hSw); go_simp; try with_reducible rfl)
              simp only [Act.put, List.getElem_toArray, List.getElem_cons_zero, List.getElem_cons_succ, List.setIfInBounds_toArray, List.set_cons_zero, List.set_cons_succ]
              refine wpAnyH_take (i := 3) (v := ?w25) rfl (by kernel_rfl) (by kernel_rfl) (by kernel_rfl) (fun _ _ _ h => h) (Or.inl ⟨by rfl, ?hz25⟩) (by assumption) ?resw25
              case hz25 => (intro w' hSw; (try dsimp only at hSw); go_simp; try with_reducible rfl)
              simp only [Act.put, List.getElem_toArray, List.getElem_cons_zero, List.getElem_cons_succ, List.setIfInBounds_toArray, List.set_cons_zero, List.set_cons_succ]
              refine wpAnyH_take (i := 4) (v := ?w26) rfl (by kernel_rfl) (by kernel_rfl) (by kernel_rfl) (fun _ _ _ h => h) (Or.inl ⟨by rfl, ?hz26⟩) (by assumption) ?resw26
              case hz26 => (intro w' hSw; (try dsimp only at hSw); go_simp; try with_reducible rfl)
              simp only [Act.put, List.getElem_toArray, List.getElem_cons_zero, List.getElem_cons_succ, List.setIfInBounds_toArray, List.set_cons_zero, List.set_cons_succ]
              refine wpAnyH_take (i := 5) (v := ?w27) rfl (by kernel_rfl) (by kernel_rfl) (by kernel_rfl) (fun _ _ _ h => h) (Or.inl ⟨by rfl, ?hz27⟩) (by assumption) ?resw27
              case hz27 => (intro w' hSw; (try dsimp only at hSw); go_simp; try with_reducible rfl)
              simp only [Act.put, List.getElem_toArray, List.getElem_cons_zero, List.getElem_cons_succ, List.setIfInBounds_toArray, List.set_cons_zero, List.set_cons_succ]
              refine wpAnyH_take (i := 6) (v := ?w28) rfl (by kernel_rfl) (by kernel_rfl) (by kernel_rfl) (fun _ _ _ h => h) (Or.inl ⟨by (go_simp <;> omega), ?hz28⟩) (by assumption) ?resw28
              case hz28 => (intro w' hSw; (try dsimp only at hSw); go_simp; try with_reducible rfl)
              simp only [Act.put, List.getElem_toArray, List.getElem_cons_zero, List.getElem_cons_succ, List.setIfInBounds_toArray, List.set_cons_zero, List.set_cons_succ]
              refine wpAnyH_take (i := 7) (v := ?w29) rfl (by kernel_rfl) (by kernel_rfl) (by kernel_rfl) (fun _ _ _ h => h) (Or.inl ⟨by (go_simp <;> omega), ?hz29⟩) (by assumption) ?resw29
              case hz29 => (intro w' hSw; (try dsimp only at hSw); go_simp; try with_reducible rfl)
              simp only [Act.put, List.getElem_toArray, List.getElem_cons_zero, List.getElem_cons_succ, List.setIfInBounds_toArray, List.set_cons_zero, List.set_cons_succ]
              refine wpAnyH_take (i := 8) (v := ?w30) rfl (by kernel_rfl) (by kernel_rfl) (by kernel_rfl) (fun _ _ _ h => h) (Or.inl ⟨by (go_simp <;> omega), ?hz30⟩) (by assumption) ?resw30
              case hz30 => (intro w' hSw; (try dsimp only at hSw); go_simp; try with_reducible rfl)
              simp only [Act.put, List.getElem_toArray, List.getElem_cons_zero, List.getElem_cons_succ, List.setIfInBounds_toArray, List.set_cons_zero, List.set_cons_succ]
              refine wpAnyH_take (i := 9) (v := ?w31) rfl (by kernel_rfl) (by kernel_rfl) (by kernel_rfl) (fun _ _ _ h => h) (Or.inl ⟨by (go_simp <;> omega), ?hz31⟩) (by assumption) ?resw31
              case hz31 => (intro w' hSw; (try dsimp only at hSw); go_simp; try with_reducible rfl)
              simp only [Act.put, List.getElem_toArray, List.getElem_cons_zero, List.getElem_cons_succ, List.setIfInBounds_toArray, List.set_cons_zero, List.set_cons_succ]
              refine wpAnyH_take (i := 10) (v := ?w32) rfl (by kernel_rfl) (by kernel_rfl) (by kernel_rfl) (fun _ _ _ h => h) (Or.inl ⟨by (go_simp <;> omega), ?hz32⟩) (by assumption) ?resw32
              case hz32 => (intro w' hSw; (try dsimp only at hSw); go_simp; try with_reducible rfl)
              simp only [Act.put, List.getElem_toArray, List.getElem_cons_zero, List.getElem_cons_succ, List.setIfInBounds_toArray, List.set_cons_zero, List.set_cons_succ]
              refine wpAnyH_take (i := 11) (v := ?w33) rfl (by kernel_rfl) (by kernel_rfl) (by kernel_rfl) (fun _ _ _ h => h) (Or.inl ⟨by (go_simp <;> omega), ?hz33⟩) (by assumption) ?resw33
              case hz33 => (intro w' hSw; (try dsimp only at hSw); go_simp; try with_reducible rfl)
              simp only [Act.put, List.getElem_toArray, List.getElem_cons_zero, List.getElem_cons_succ, List.setIfInBounds_toArray, List.set_cons_zero, List.set_cons_succ]
              refine wpAnyH_take (i := 12) (v := ?w34) rfl (by kernel_rfl) (by kernel_rfl) (by kernel_rfl) (fun _ _ _ h => h) (Or.inl ⟨by (go_simp <;> omega), ?hz34⟩) (by assumption) ?resw34
              case hz34 => (intro w' hSw; (try dsimp only at hSw); go_simp; try with_reducible rfl)
              simp only [Act.put, List.getElem_toArray, List.getElem_cons_zero, List.getElem_cons_succ, List.setIfInBounds_toArray, List.set_cons_zero, List.set_cons_succ]
              refine wpAnyH_take (i := 13) (v := ?w35) rfl (by kernel_rfl) (by kernel_rfl) (by kernel_rfl) (fun _ _ _ h => h) (Or.inl ⟨by (go_simp <;> omega), ?hz35⟩) (by assumption) ?resw35
              case hz35 => (intro w' hSw; (try dsimp only at hSw); go_simp; try with_reducible rfl)
              simp only [Act.put, List.getElem_toArray, List.getElem_cons_zero, List.getElem_cons_succ, List.setIfInBounds_toArray, List.set_cons_zero, List.set_cons_succ]
              refine wpAnyH_take (i := 14) (v := ?w36) rfl (by kernel_rfl) (by kernel_rfl) (by kernel_rfl) (fun _ _ _ h => h) (Or.inl ⟨by (go_simp <;> omega), ?hz36⟩) (by assumption) ?resw36
              case hz36 => (intro w' hSw; (try dsimp only at hSw); go_simp; try with_reducible rfl)
              simp only [Act.put, List.getElem_toArray, List.getElem_cons_zero, List.getElem_cons_succ, List.setIfInBounds_toArray, List.set_cons_zero, List.set_cons_succ]
              refine wpAnyH_take (i := 17) (v := ?w37) rfl (by kernel_rfl) (by kernel_rfl) (by kernel_rfl) (fun _ _ _ h => h) (Or.inl ⟨by (go_simp <;> omega), ?hz37⟩) (by assumption) ?resw37
              case hz37 => (intro w' hSw; (try dsimp only at hSw); go_simp; try with_reducible rfl)
              simp only [Act.put, List.getElem_toArray, List.getElem_cons_zero, List.getElem_cons_succ, List.setIfInBounds_toArray, List.set_cons_zero, List.set_cons_succ]
              refine wpAnyH_take (i := 18) (v := ?w38) rfl (by kernel_rfl) (by kernel_rfl) (by kernel_rfl) (fun _ _ _ h => h) (Or.inl ⟨by (go_simp <;> omega), ?hz38⟩) (by assumption) ?resw38
              case hz38 => (intro w' hSw; (try dsimp only at hSw); go_simp; try with_reducible rfl)
              simp only [Act.put, List.getElem_toArray, List.getElem_cons_zero, List.getElem_cons_succ, List.setIfInBounds_toArray, List.set_cons_zero, List.set_cons_succ]
              refine wpAnyH_ready (rs := [15]) (by kernel_rfl) (by simp) (AllReadyH.cons rfl (fun K hK => ?_) AllReadyH.nil)
              go_simp
              go_wp2_with (go_at_call 10; (with_reducible refine (refBytes ⟨B1, d1, B2, d2, B3, d3, B4, d4, B5, d5, B6, d6, B7, d7, B8, d8⟩ (⟨rd H 0, L1.1, L2.1, X3, L4.1, X5, L6.1, L7.1, X8, rd H 1, rd H 2 == 1⟩ : St) (b.length + 2) _ (HX.out.below (by have hh := ‹Aside0 (Below w3.heap.size w3 _) ∧ _›; exact hh.1.out)).reads HBd.out (by omega) (by rw [HSB.out]; have := HLN.out; omega)).mono ?_); rintro e w4 ⟨v2, rfl, ho, hbl⟩; rw [HSB.out] at ho; obtain ⟨A5, c5, e5⟩ := Kd.R_slice ho; subst e5; have hs1 := cstr (c := c5) (Kd.R_reads' ho).2.2; clear ho)
              refine hK.out _ _ (keep14 hbl hHeld) (fun hHeld2 => ?_)
              clear hK K hHeld
              refine wpAnyH_ready (rs := [16]) (by kernel_rfl) (by simp) (AllReadyH.cons rfl (fun K hK => ?_) AllReadyH.nil)
              go_simp
              refine hK.out _ _ (by assumption) (fun hHeld3 => ?_)
              clear hK K
              refine wpAnyH_take (i := 19) (v := ?w39) rfl (by kernel_rfl) (by kernel_rfl) (by kernel_rfl) (fun _ _ _ h => h) (Or.inl ⟨by (go_simp <;> omega), ?hz39⟩) (by assumption) ?resw39
              case hz39 => (intro w' hSw; (try dsimp only at hSw); go_simp; try with_reducible rfl)
              simp only [Act.put, List.getElem_toArray, List.getElem_cons_zero, List.getElem_cons_succ, List.setIfInBounds_toArray, List.set_cons_zero, List.set_cons_succ]
              refine wpAnyH_take (i := 20) (v := ?w40) rfl (by kernel_rfl) (by kernel_rfl) (by kernel_rfl) (fun _ _ _ h => h) (Or.inl ⟨by (go_simp <;> omega), ?hz40⟩) (by assumption) ?resw40
              case hz40 => (intro w' hSw; (try dsimp only at hSw); go_simp; try with_reducible rfl)
              simp only [Act.put, List.getElem_toArray, List.getElem_cons_zero, List.getElem_cons_succ, List.setIfInBounds_toArray, List.set_cons_zero, List.set_cons_succ]
              refine wpAnyH_done (by kernel_rfl) ?_ _
              have HX_ := Aside0.mk (HX.out.below (by have hh := ‹Aside0 (Below w3.heap.size w3 _) ∧ _›; exact hh.1.out))
              clear HX HS0
              have HX := HX_
              clear HX_
              try clear hHeld
              try clear hHeld3
              try clear hHeld2
              try clear hs1 hbl
              clear HRB
              obtain ⟨t0, t1, t2, t3, t4, t5, t6, t7, t8, t9, t10⟩ := bk11 HX.out.blk
              go_wp2_with (first | ((with_reducible refine gate_none rfl ?_); refine store_blk rfl 29 (.tmp 2) (.tmp 153) rfl w.heap.size #[.int .i64 (rd H 0), .slice B1 L1.1.length d1, .slice B2 L2.1.length d2, .slice B3 X3.length d3, .slice B4 L4.1.length d4, .slice B5 X5.length d5, .slice B6 L6.1.length d6, .slice B7 L7.1.length d7, .slice B8 X8.length d8, .int .i64 (rd H 1), .bool (rd H 2 == 1)] rfl rfl 29 _ HX.out.z (by kernel_rfl) rfl (by first | rfl | (simp [Value.oneCell']; done)) ?_; intro w8 hg8 ho8; have HG8 := Aside0.mk hg8; have HB8 := Aside0.mk ((Only.fr (ok := fun k => k = w.heap.size) ho8 rfl).below' HX.out.base (fun k hk => by rw [hk]; exact Nat.le_refl _)); have HR8 := Aside0.mk (HX.out.reads8 hg8 ho8); clear hg8 ho8 HX))
              refine bodyPost_ret (results_ct rfl _ _ w.heap.size 29 _ (0, 0) _ rfl HG8.out Try.underlying29 rfl (by kernel_rfl)) rfl ?_
              exact ⟨⟨B1, d1, B2, d2, B3, d3, B4, d4, B5, d5, B6, d6, B7, d7, B8, d8⟩, by unfold sRead; rw [HYES.out, if_pos rfl, HS.out.1]; rfl, by unfold sRead; rw [HYES.out, if_pos rfl, HS.out.1]; exact HR8.out, HB8.out⟩
            · have HEQ := Aside0.mk (decide_eq_false hq)
              have hqs : ((strOfNums SB).toList == (strOfNums b).toList) = false := by rw [str_beq HSI8.out HI.out]; exact HEQ.out
              have HNO := Aside0.mk (show sOk b = false by unfold sOk; rw [HS.out.2, HF8.out, HS.out.1, HSB.out]; exact decide_eq_false hq)
              clear hq hn
              have HS0 := Aside0.mk (show Aside0 (Below w3.heap.size w3 w3) ∧ Aside0 (Kd.C (Kd.int .u8) w3 A b.length b) ∧ w3.cell? ⟨gs, 0, none⟩ = some (.int .i64 (rd H 0)) ∧ w3.cell? ⟨gs, 1, none⟩ = some (.slice B1 L1.1.length d1) ∧ w3.cell? ⟨gs, 2, none⟩ = some (.slice B2 L2.1.length d2) ∧ w3.cell? ⟨gs, 3, none⟩ = some (.slice B3 X3.length d3) ∧ w3.cell? ⟨gs, 4, none⟩ = some (.slice B4 L4.1.length d4) ∧ w3.cell? ⟨gs, 5, none⟩ = some (.slice B5 X5.length d5) ∧ w3.cell? ⟨gs, 6, none⟩ = some (.slice B6 L6.1.length d6) ∧ w3.cell? ⟨gs, 7, none⟩ = some (.slice B7 L7.1.length d7) ∧ w3.cell? ⟨gs, 8, none⟩ = some (.slice B8 X8.length d8) ∧ w3.cell? ⟨gs, 9, none⟩ = some (.int .i64 (rd H 1)) ∧ w3.cell? ⟨gs, 10, none⟩ = some (.bool (rd H 2 == 1)) ∧ w3.cell? ⟨gr, 0, none⟩ = some (.slice A9 0 c9) ∧ w3.cell? ⟨gr, 1, none⟩ = some (.bool true) ∧ (convert 31 9 (.slice A b.length c)).run Try.prog w3 = .ok (.string (strOfNums b)) w3 from ⟨⟨Below.refl _ _⟩, ⟨Kd.C_below HC.out HX.out.base⟩, t0, t1, t2, t3, t4, t5, t6, t7, t8, t9, t10, z0, z1, cstr (Kd.C_below HC.out HX.out.base)⟩)
              clear t0 t1 t2 t3 t4 t5 t6 t7 t8 t9 t10 z0 z1 zf0 zf1
              refine wp_region_held_drew (S := fun w' => Aside0 (Below w3.heap.size w3 w') ∧ Aside0 (Kd.C (Kd.int .u8) w' A b.length b) ∧ w'.cell? ⟨gs, 0, none⟩ = some (.int .i64 (rd H 0)) ∧ w'.cell? ⟨gs, 1, none⟩ = some (.slice B1 L1.1.length d1) ∧ w'.cell? ⟨gs, 2, none⟩ = some (.slice B2 L2.1.length d2) ∧ w'.cell? ⟨gs, 3, none⟩ = some (.slice B3 X3.length d3) ∧ w'.cell? ⟨gs, 4, none⟩ = some (.slice B4 L4.1.length d4) ∧ w'.cell? ⟨gs, 5, none⟩ = some (.slice B5 X5.length d5) ∧ w'.cell? ⟨gs, 6, none⟩ = some (.slice B6 L6.1.length d6) ∧ w'.cell? ⟨gs, 7, none⟩ = some (.slice B7 L7.1.length d7) ∧ w'.cell? ⟨gs, 8, none⟩ = some (.slice B8 X8.length d8) ∧ w'.cell? ⟨gs, 9, none⟩ = some (.int .i64 (rd H 1)) ∧ w'.cell? ⟨gs, 10, none⟩ = some (.bool (rd H 2 == 1)) ∧ w'.cell? ⟨gr, 0, none⟩ = some (.slice A9 0 c9) ∧ w'.cell? ⟨gr, 1, none⟩ = some (.bool true) ∧ (convert 31 9 (.slice A b.length c)).run Try.prog w' = .ok (.string (strOfNums b)) w') (by kernel_rfl) (keep14 (below_drew (Below.refl _ _)) HS0.out) (fun hHeld => ?_)
              refine wpAnyH_take (i := 0) (v := ?w41) rfl (by kernel_rfl) (by kernel_rfl) (by kernel_rfl) (fun _ _ _ h => h) (Or.inl ⟨by rfl, ?hz41⟩) (by assumption) ?resw41
              case hz41 => (intro w' hSw; (try dsimp only at hSw); go_simp; try with_reducible rfl)
              simp only [Act.put, List.getElem_toArray, List.getElem_cons_zero, List.getElem_cons_succ, List.setIfInBounds_toArray, List.set_cons_zero, List.set_cons_succ]
              refine wpAnyH_take (i := 1) (v := ?w42) rfl (by kernel_rfl) (by kernel_rfl) (by kernel_rfl) (fun _ _ _ h => h) (Or.inl ⟨by rfl, ?hz42⟩) (by assumption) ?resw42
              case hz42 => (intro w' hSw; (try dsimp only at hSw); go_simp; try with_reducible rfl)
              simp only [Act.put, List.getElem_toArray, List.getElem_cons_zero, List.getElem_cons_succ, List.setIfInBounds_toArray, List.set_cons_zero, List.set_cons_succ]
              refine wpAnyH_take (i := 2) (v := ?w43) rfl (by kernel_rfl) (by kernel_rfl) (by kernel_rfl) (fun _ _ _ h => h) (Or.inl ⟨by rfl, ?hz43⟩) (by assumption) ?resw43
              case hz43 => (intro w' hSw; (try dsimp only at hSw); go_simp; try with_reducible rfl)
              simp only [Act.put, List.getElem_toArray, List.getElem_cons_zero, List.getElem_cons_succ, List.setIfInBounds_toArray, List.set_cons_zero, List.set_cons_succ]
              refine wpAnyH_take (i := 3) (v := ?w44) rfl (by kernel_rfl) (by kernel_rfl) (by kernel_rfl) (fun _ _ _ h => h) (Or.inl ⟨by rfl, ?hz44⟩) (by assumption) ?resw44
              case hz44 => (intro w' hSw; (try dsimp only at hSw); go_simp; try with_reducible rfl)
              simp only [Act.put, List.getElem_toArray, List.getElem_cons_zero, List.getElem_cons_succ, List.setIfInBounds_toArray, List.set_cons_zero, List.set_cons_succ]
              refine wpAnyH_take (i := 4) (v := ?w45) rfl (by kernel_rfl) (by kernel_rfl) (by kernel_rfl) (fun _ _ _ h => h) (Or.inl ⟨by rfl, ?hz45⟩) (by assumption) ?resw45
              case hz45 => (intro w' hSw; (try dsimp only at hSw); go_simp; try with_reducible rfl)
              simp only [Act.put, List.getElem_toArray, List.getElem_cons_zero, List.getElem_cons_succ, List.setIfInBounds_toArray, List.set_cons_zero, List.set_cons_succ]
              refine wpAnyH_take (i := 5) (v := ?w46) rfl (by kernel_rfl) (by kernel_rfl) (by kernel_rfl) (fun _ _ _ h => h) (Or.inl ⟨by rfl, ?hz46⟩) (by assumption) ?resw46
              case hz46 => (intro w' hSw; (try dsimp only at hSw); go_simp; try with_reducible rfl)
              simp only [Act.put, List.getElem_toArray, List.getElem_cons_zero, List.getElem_cons_succ, List.setIfInBounds_toArray, List.set_cons_zero, List.set_cons_succ]
              refine wpAnyH_take (i := 6) (v := ?w47) rfl (by kernel_rfl) (by kernel_rfl) (by kernel_rfl) (fun _ _ _ h => h) (Or.inl ⟨by (go_simp <;> omega), ?hz47⟩) (by assumption) ?resw47
              case hz47 => (intro w' hSw; (try dsimp only at hSw); go_simp; try with_reducible rfl)
              simp only [Act.put, List.getElem_toArray, List.getElem_cons_zero, List.getElem_cons_succ, List.setIfInBounds_toArray, List.set_cons_zero, List.set_cons_succ]
              refine wpAnyH_take (i := 7) (v := ?w48) rfl (by kernel_rfl) (by kernel_rfl) (by kernel_rfl) (fun _ _ _ h => h) (Or.inl ⟨by (go_simp <;> omega), ?hz48⟩) (by assumption) ?resw48
              case hz48 => (intro w' hSw; (try dsimp only at hSw); go_simp; try with_reducible rfl)
              simp only [Act.put, List.getElem_toArray, List.getElem_cons_zero, List.getElem_cons_succ, List.setIfInBounds_toArray, List.set_cons_zero, List.set_cons_succ]
              refine wpAnyH_take (i := 8) (v := ?w49) rfl (by kernel_rfl) (by kernel_rfl) (by kernel_rfl) (fun _ _ _ h => h) (Or.inl ⟨by (go_simp <;> omega), ?hz49⟩) (by assumption) ?resw49
              case hz49 => (intro w' hSw; (try dsimp only at hSw); go_simp; try with_reducible rfl)
              simp only [Act.put, List.getElem_toArray, List.getElem_cons_zero, List.getElem_cons_succ, List.setIfInBounds_toArray, List.set_cons_zero, List.set_cons_succ]
              refine wpAnyH_take (i := 9) (v := ?w50) rfl (by kernel_rfl) (by kernel_rfl) (by kernel_rfl) (fun _ _ _ h => h) (Or.inl ⟨by (go_simp <;> omega), ?hz50⟩) (by assumption) ?resw50
              case hz50 => (intro w' hSw; (try dsimp only at hSw); go_simp; try with_reducible rfl)
              simp only [Act.put, List.getElem_toArray, List.getElem_cons_zero, List.getElem_cons_succ, List.setIfInBounds_toArray, List.set_cons_zero, List.set_cons_succ]
              refine wpAnyH_take (i := 10) (v := ?w51) rfl (by kernel_rfl) (by kernel_rfl) (by kernel_rfl) (fun _ _ _ h => h) (Or.inl ⟨by (go_simp <;> omega), ?hz51⟩) (by assumption) ?resw51
              case hz51 => (intro w' hSw; (try dsimp only at hSw); go_simp; try with_reducible rfl)
              simp only [Act.put, List.getElem_toArray, List.getElem_cons_zero, List.getElem_cons_succ, List.setIfInBounds_toArray, List.set_cons_zero, List.set_cons_succ]
              refine wpAnyH_take (i := 11) (v := ?w52) rfl (by kernel_rfl) (by kernel_rfl) (by kernel_rfl) (fun _ _ _ h => h) (Or.inl ⟨by (go_simp <;> omega), ?hz52⟩) (by assumption) ?resw52
              case hz52 => (intro w' hSw; (try dsimp only at hSw); go_simp; try with_reducible rfl)
              simp only [Act.put, List.getElem_toArray, List.getElem_cons_zero, List.getElem_cons_succ, List.setIfInBounds_toArray, List.set_cons_zero, List.set_cons_succ]
              refine wpAnyH_take (i := 12) (v := ?w53) rfl (by kernel_rfl) (by kernel_rfl) (by kernel_rfl) (fun _ _ _ h => h) (Or.inl ⟨by (go_simp <;> omega), ?hz53⟩) (by assumption) ?resw53
              case hz53 => (intro w' hSw; (try dsimp only at hSw); go_simp; try with_reducible rfl)
              simp only [Act.put, List.getElem_toArray, List.getElem_cons_zero, List.getElem_cons_succ, List.setIfInBounds_toArray, List.set_cons_zero, List.set_cons_succ]
              refine wpAnyH_take (i := 13) (v := ?w54) rfl (by kernel_rfl) (by kernel_rfl) (by kernel_rfl) (fun _ _ _ h => h) (Or.inl ⟨by (go_simp <;> omega), ?hz54⟩) (by assumption) ?resw54
              case hz54 => (intro w' hSw; (try dsimp only at hSw); go_simp; try with_reducible rfl)
              simp only [Act.put, List.getElem_toArray, List.getElem_cons_zero, List.getElem_cons_succ, List.setIfInBounds_toArray, List.set_cons_zero, List.set_cons_succ]
              refine wpAnyH_take (i := 14) (v := ?w55) rfl (by kernel_rfl) (by kernel_rfl) (by kernel_rfl) (fun _ _ _ h => h) (Or.inl ⟨by (go_simp <;> omega), ?hz55⟩) (by assumption) ?resw55
              case hz55 => (intro w' hSw; (try dsimp only at hSw); go_simp; try with_reducible rfl)
              simp only [Act.put, List.getElem_toArray, List.getElem_cons_zero, List.getElem_cons_succ, List.setIfInBounds_toArray, List.set_cons_zero, List.set_cons_succ]
              refine wpAnyH_take (i := 17) (v := ?w56) rfl (by kernel_rfl) (by kernel_rfl) (by kernel_rfl) (fun _ _ _ h => h) (Or.inl ⟨by (go_simp <;> omega), ?hz56⟩) (by assumption) ?resw56
              case hz56 => (intro w' hSw; (try dsimp only at hSw); go_simp; try with_reducible rfl)
              simp only [Act.put, List.getElem_toArray, List.getElem_cons_zero, List.getElem_cons_succ, List.setIfInBounds_toArray, List.set_cons_zero, List.set_cons_succ]
              refine wpAnyH_take (i := 18) (v := ?w57) rfl (by kernel_rfl) (by kernel_rfl) (by kernel_rfl) (fun _ _ _ h => h) (Or.inl ⟨by (go_simp <;> omega), ?hz57⟩) (by assumption) ?resw57
              case hz57 => (intro w' hSw; (try dsimp only at hSw); go_simp; try with_reducible rfl)
              simp only [Act.put, List.getElem_toArray, List.getElem_cons_zero, List.getElem_cons_succ, List.setIfInBounds_toArray, List.set_cons_zero, List.set_cons_succ]
              refine wpAnyH_ready (rs := [15]) (by kernel_rfl) (by simp) (AllReadyH.cons rfl (fun K hK => ?_) AllReadyH.nil)
              go_simp
              go_wp2_with (go_at_call 10; (with_reducible refine (refBytes ⟨B1, d1, B2, d2, B3, d3, B4, d4, B5, d5, B6, d6, B7, d7, B8, d8⟩ (⟨rd H 0, L1.1, L2.1, X3, L4.1, X5, L6.1, L7.1, X8, rd H 1, rd H 2 == 1⟩ : St) (b.length + 2) _ (HX.out.below (by have hh := ‹Aside0 (Below w3.heap.size w3 _) ∧ _›; exact hh.1.out)).reads HBd.out (by omega) (by rw [HSB.out]; have := HLN.out; omega)).mono ?_); rintro e w4 ⟨v2, rfl, ho, hbl⟩; rw [HSB.out] at ho; obtain ⟨A5, c5, e5⟩ := Kd.R_slice ho; subst e5; have hs1 := cstr (c := c5) (Kd.R_reads' ho).2.2; clear ho)
              refine hK.out _ _ (keep14 hbl hHeld) (fun hHeld2 => ?_)
              clear hK K hHeld
              refine wpAnyH_ready (rs := [16]) (by kernel_rfl) (by simp) (AllReadyH.cons rfl (fun K hK => ?_) AllReadyH.nil)
              go_simp
              refine hK.out _ _ (by assumption) (fun hHeld3 => ?_)
              clear hK K
              refine wpAnyH_take (i := 19) (v := ?w58) rfl (by kernel_rfl) (by kernel_rfl) (by kernel_rfl) (fun _ _ _ h => h) (Or.inl ⟨by (go_simp <;> omega), ?hz58⟩) (by assumption) ?resw58
              case hz58 => (intro w' hSw; (try dsimp only at hSw); go_simp; try with_reducible rfl)
              simp only [Act.put, List.getElem_toArray, List.getElem_cons_zero, List.getElem_cons_succ, List.setIfInBounds_toArray, List.set_cons_zero, List.set_cons_succ]
              refine wpAnyH_take (i := 20) (v := ?w59) rfl (by kernel_rfl) (by kernel_rfl) (by kernel_rfl) (fun _ _ _ h => h) (Or.inl ⟨by (go_simp <;> omega), ?hz59⟩) (by assumption) ?resw59
              case hz59 => (intro w' hSw; (try dsimp only at hSw); go_simp; try with_reducible rfl)
              simp only [Act.put, List.getElem_toArray, List.getElem_cons_zero, List.getElem_cons_succ, List.setIfInBounds_toArray, List.set_cons_zero, List.set_cons_succ]
              refine wpAnyH_done (by kernel_rfl) ?_ _
              have HX_ := Aside0.mk (HX.out.below (by have hh := ‹Aside0 (Below w3.heap.size w3 _) ∧ _›; exact hh.1.out))
              clear HX HS0
              have HX := HX_
              clear HX_
              try clear hHeld
              try clear hHeld3
              try clear hHeld2
              try clear hs1 hbl
              clear HRB
              go_wp2_with (first | ((with_reducible refine gate_none rfl ?_); refine store_blk rfl 29 (.tmp 2) (.tmp 152) rfl w.heap.size #[.int .i64 0, .slice none 0 0, .slice none 0 0, .slice none 0 0, .slice none 0 0, .slice none 0 0, .slice none 0 0, .slice none 0 0, .slice none 0 0, .int .i64 0, .bool false] rfl rfl 29 _ HX.out.z (by kernel_rfl) rfl (by first | rfl | (simp [Value.oneCell']; done)) ?_; intro w8 hg8 ho8; have HG8 := Aside0.mk hg8; have HB8 := Aside0.mk ((Only.fr (ok := fun k => k = w.heap.size) ho8 rfl).below' HX.out.base (fun k hk => by rw [hk]; exact Nat.le_refl _)); clear hg8 ho8 HX))
              refine bodyPost_ret (results_ct rfl _ _ w.heap.size 29 _ (0, 0) _ rfl HG8.out Try.underlying29 rfl (by kernel_rfl)) rfl ?_
              exact ⟨⟨none, 0, none, 0, none, 0, none, 0, none, 0, none, 0, none, 0, none, 0⟩, by unfold sRead; rw [HNO.out]; rfl, by unfold sRead; rw [HNO.out]; exact no_bytes _, HB8.out⟩
          · have hp0 : 0 < P8.1.length := by omega
            have HNO := Aside0.mk (show sOk b = false by unfold sOk; rw [HS.out.2, HF8.out, HS.out.1, HSB.out]; exact decide_eq_false (fun e => by have := HLN.out; rw [e] at this; omega))
            clear hn
            have HS0 := Aside0.mk (show Aside0 (Below w3.heap.size w3 w3) ∧ Aside0 (Kd.C (Kd.int .u8) w3 A b.length b) ∧ w3.cell? ⟨gs, 0, none⟩ = some (.int .i64 (rd H 0)) ∧ w3.cell? ⟨gs, 1, none⟩ = some (.slice B1 L1.1.length d1) ∧ w3.cell? ⟨gs, 2, none⟩ = some (.slice B2 L2.1.length d2) ∧ w3.cell? ⟨gs, 3, none⟩ = some (.slice B3 X3.length d3) ∧ w3.cell? ⟨gs, 4, none⟩ = some (.slice B4 L4.1.length d4) ∧ w3.cell? ⟨gs, 5, none⟩ = some (.slice B5 X5.length d5) ∧ w3.cell? ⟨gs, 6, none⟩ = some (.slice B6 L6.1.length d6) ∧ w3.cell? ⟨gs, 7, none⟩ = some (.slice B7 L7.1.length d7) ∧ w3.cell? ⟨gs, 8, none⟩ = some (.slice B8 X8.length d8) ∧ w3.cell? ⟨gs, 9, none⟩ = some (.int .i64 (rd H 1)) ∧ w3.cell? ⟨gs, 10, none⟩ = some (.bool (rd H 2 == 1)) ∧ w3.cell? ⟨gr, 0, none⟩ = some (.slice A9 P8.1.length c9) ∧ w3.cell? ⟨gr, 1, none⟩ = some (.bool true) ∧ (convert 31 9 (.slice A b.length c)).run Try.prog w3 = .ok (.string (strOfNums b)) w3 from ⟨⟨Below.refl _ _⟩, ⟨Kd.C_below HC.out HX.out.base⟩, t0, t1, t2, t3, t4, t5, t6, t7, t8, t9, t10, z0, z1, cstr (Kd.C_below HC.out HX.out.base)⟩)
            clear t0 t1 t2 t3 t4 t5 t6 t7 t8 t9 t10 z0 z1 zf0 zf1
            refine wp_region_held_drew (S := fun w' => Aside0 (Below w3.heap.size w3 w') ∧ Aside0 (Kd.C (Kd.int .u8) w' A b.length b) ∧ w'.cell? ⟨gs, 0, none⟩ = some (.int .i64 (rd H 0)) ∧ w'.cell? ⟨gs, 1, none⟩ = some (.slice B1 L1.1.length d1) ∧ w'.cell? ⟨gs, 2, none⟩ = some (.slice B2 L2.1.length d2) ∧ w'.cell? ⟨gs, 3, none⟩ = some (.slice B3 X3.length d3) ∧ w'.cell? ⟨gs, 4, none⟩ = some (.slice B4 L4.1.length d4) ∧ w'.cell? ⟨gs, 5, none⟩ = some (.slice B5 X5.length d5) ∧ w'.cell? ⟨gs, 6, none⟩ = some (.slice B6 L6.1.length d6) ∧ w'.cell? ⟨gs, 7, none⟩ = some (.slice B7 L7.1.length d7) ∧ w'.cell? ⟨gs, 8, none⟩ = some (.slice B8 X8.length d8) ∧ w'.cell? ⟨gs, 9, none⟩ = some (.int .i64 (rd H 1)) ∧ w'.cell? ⟨gs, 10, none⟩ = some (.bool (rd H 2 == 1)) ∧ w'.cell? ⟨gr, 0, none⟩ = some (.slice A9 P8.1.length c9) ∧ w'.cell? ⟨gr, 1, none⟩ = some (.bool true) ∧ (convert 31 9 (.slice A b.length c)).run Try.prog w' = .ok (.string (strOfNums b)) w') (by kernel_rfl) (keep14 (below_drew (Below.refl _ _)) HS0.out) (fun hHeld => ?_)
            refine wpAnyH_take (i := 0) (v := ?w60) rfl (by kernel_rfl) (by kernel_rfl) (by kernel_rfl) (fun _ _ _ h => h) (Or.inl ⟨by rfl, ?hz60⟩) (by assumption) ?resw60
            case hz60 => (intro w' hSw; (try dsimp only at hSw); go_simp; try with_reducible rfl)
            simp only [Act.put, List.getElem_toArray, List.getElem_cons_zero, List.getElem_cons_succ, List.setIfInBounds_toArray, List.set_cons_zero, List.set_cons_succ]
            refine wpAnyH_take (i := 1) (v := ?w61) rfl (by kernel_rfl) (by kernel_rfl) (by kernel_rfl) (fun _ _ _ h => h) (Or.inl ⟨by rfl, ?hz61⟩) (by assumption) ?resw61
            case hz61 => (intro w' hSw; (try dsimp only at hSw); go_simp; try with_reducible rfl)
            simp only [Act.put, List.getElem_toArray, List.getElem_cons_zero, List.getElem_cons_succ, List.setIfInBounds_toArray, List.set_cons_zero, List.set_cons_succ]
            refine wpAnyH_take (i := 2) (v := ?w62) rfl (by kernel_rfl) (by kernel_rfl) (by kernel_rfl) (fun _ _ _ h => h) (Or.inl ⟨by rfl, ?hz62⟩) (by assumption) ?resw62
            case hz62 => (intro w' hSw; (try dsimp only at hSw); go_simp; try with_reducible rfl)
            simp only [Act.put, List.getElem_toArray, List.getElem_cons_zero, List.getElem_cons_succ, List.setIfInBounds_toArray, List.set_cons_zero, List.set_cons_succ]
            refine wpAnyH_take (i := 3) (v := ?w63) rfl (by kernel_rfl) (by kernel_rfl) (by kernel_rfl) (fun _ _ _ h => h) (Or.inl ⟨by rfl, ?hz63⟩) (by assumption) ?resw63
            case hz63 => (intro w' hSw; (try dsimp only at hSw); go_simp; try with_reducible rfl)
            simp only [Act.put, List.getElem_toArray, List.getElem_cons_zero, List.getElem_cons_succ, List.setIfInBounds_toArray, List.set_cons_zero, List.set_cons_succ]
            refine wpAnyH_take (i := 4) (v := ?w64) rfl (by kernel_rfl) (by kernel_rfl) (by kernel_rfl) (fun _ _ _ h => h) (Or.inl ⟨by rfl, ?hz64⟩) (by assumption) ?resw64
            case hz64 => (intro w' hSw; (try dsimp only at hSw); go_simp; try with_reducible rfl)
            simp only [Act.put, List.getElem_toArray, List.getElem_cons_zero, List.getElem_cons_succ, List.setIfInBounds_toArray, List.set_cons_zero, List.set_cons_succ]
            refine wpAnyH_take (i := 5) (v := ?w65) rfl (by kernel_rfl) (by kernel_rfl) (by kernel_rfl) (fun _ _ _ h => h) (Or.inl ⟨by rfl, ?hz65⟩) (by assumption) ?resw65
            case hz65 => (intro w' hSw; (try dsimp only at hSw); go_simp; try with_reducible rfl)
            simp only [Act.put, List.getElem_toArray, List.getElem_cons_zero, List.getElem_cons_succ, List.setIfInBounds_toArray, List.set_cons_zero, List.set_cons_succ]
            refine wpAnyH_take (i := 6) (v := ?w66) rfl (by kernel_rfl) (by kernel_rfl) (by kernel_rfl) (fun _ _ _ h => h) (Or.inl ⟨by (go_simp <;> omega), ?hz66⟩) (by assumption) ?resw66
            case hz66 => (intro w' hSw; (try dsimp only at hSw); go_simp; try with_reducible rfl)
            simp only [Act.put, List.getElem_toArray, List.getElem_cons_zero, List.getElem_cons_succ, List.setIfInBounds_toArray, List.set_cons_zero, List.set_cons_succ]
            refine wpAnyH_take (i := 7) (v := ?w67) rfl (by kernel_rfl) (by kernel_rfl) (by kernel_rfl) (fun _ _ _ h => h) (Or.inl ⟨by (go_simp <;> omega), ?hz67⟩) (by assumption) ?resw67
            case hz67 => (intro w' hSw; (try dsimp only at hSw); go_simp; try with_reducible rfl)
            simp only [Act.put, List.getElem_toArray, List.getElem_cons_zero, List.getElem_cons_succ, List.setIfInBounds_toArray, List.set_cons_zero, List.set_cons_succ]
            refine wpAnyH_take (i := 8) (v := ?w68) rfl (by kernel_rfl) (by kernel_rfl) (by kernel_rfl) (fun _ _ _ h => h) (Or.inl ⟨by (go_simp <;> omega), ?hz68⟩) (by assumption) ?resw68
            case hz68 => (intro w' hSw; (try dsimp only at hSw); go_simp; try with_reducible rfl)
            simp only [Act.put, List.getElem_toArray, List.getElem_cons_zero, List.getElem_cons_succ, List.setIfInBounds_toArray, List.set_cons_zero, List.set_cons_succ]
            refine wpAnyH_take (i := 9) (v := ?w69) rfl (by kernel_rfl) (by kernel_rfl) (by kernel_rfl) (fun _ _ _ h => h) (Or.inl ⟨by (go_simp <;> omega), ?hz69⟩) (by assumption) ?resw69
            case hz69 => (intro w' hSw; (try dsimp only at hSw); go_simp; try with_reducible rfl)
            simp only [Act.put, List.getElem_toArray, List.getElem_cons_zero, List.getElem_cons_succ, List.setIfInBounds_toArray, List.set_cons_zero, List.set_cons_succ]
            refine wpAnyH_take (i := 10) (v := ?w70) rfl (by kernel_rfl) (by kernel_rfl) (by kernel_rfl) (fun _ _ _ h => h) (Or.inl ⟨by (go_simp <;> omega), ?hz70⟩) (by assumption) ?resw70
            case hz70 => (intro w' hSw; (try dsimp only at hSw); go_simp; try with_reducible rfl)
            simp only [Act.put, List.getElem_toArray, List.getElem_cons_zero, List.getElem_cons_succ, List.setIfInBounds_toArray, List.set_cons_zero, List.set_cons_succ]
            refine wpAnyH_take (i := 11) (v := (.bool true)) rfl (by kernel_rfl) (by kernel_rfl) (by kernel_rfl) (fun _ _ _ h => h) (Or.inl ⟨by (go_simp <;> omega), ?hz71⟩) (by assumption) ?resw71
            case hz71 => (intro w' hSw; (try dsimp only at hSw); go_simp; all_goals omega)
            simp only [Act.put, List.getElem_toArray, List.getElem_cons_zero, List.getElem_cons_succ, List.setIfInBounds_toArray, List.set_cons_zero, List.set_cons_succ]
            refine wpAnyH_take (i := 12) (v := ?w72) rfl (by kernel_rfl) (by kernel_rfl) (by kernel_rfl) (fun _ _ _ h => h) (Or.inl ⟨by (go_simp <;> omega), ?hz72⟩) (by assumption) ?resw72
            case hz72 => (intro w' hSw; (try dsimp only at hSw); go_simp; try with_reducible rfl)
            simp only [Act.put, List.getElem_toArray, List.getElem_cons_zero, List.getElem_cons_succ, List.setIfInBounds_toArray, List.set_cons_zero, List.set_cons_succ]
            refine wpAnyH_take (i := 13) (v := ?w73) rfl (by kernel_rfl) (by kernel_rfl) (by kernel_rfl) (fun _ _ _ h => h) (Or.inl ⟨by (go_simp <;> omega), ?hz73⟩) (by assumption) ?resw73
            case hz73 => (intro w' hSw; (try dsimp only at hSw); go_simp; try with_reducible rfl)
            simp only [Act.put, List.getElem_toArray, List.getElem_cons_zero, List.getElem_cons_succ, List.setIfInBounds_toArray, List.set_cons_zero, List.set_cons_succ]
            refine wpAnyH_take (i := 14) (v := undef) rfl (by kernel_rfl) (by kernel_rfl) (by kernel_rfl) (fun _ _ _ h => h) (Or.inr ⟨by go_simp <;> omega, rfl⟩) (by assumption) ?resw74
            simp only [Act.put, List.getElem_toArray, List.getElem_cons_zero, List.getElem_cons_succ, List.setIfInBounds_toArray, List.set_cons_zero, List.set_cons_succ]
            refine wpAnyH_take (i := 15) (v := undef) rfl (by kernel_rfl) (by kernel_rfl) (by kernel_rfl) (fun _ _ _ h => h) (Or.inr ⟨by go_simp <;> omega, rfl⟩) (by assumption) ?resw75
            simp only [Act.put, List.getElem_toArray, List.getElem_cons_zero, List.getElem_cons_succ, List.setIfInBounds_toArray, List.set_cons_zero, List.set_cons_succ]
            refine wpAnyH_take (i := 16) (v := undef) rfl (by kernel_rfl) (by kernel_rfl) (by kernel_rfl) (fun _ _ _ h => h) (Or.inr ⟨by go_simp <;> omega, rfl⟩) (by assumption) ?resw76
            simp only [Act.put, List.getElem_toArray, List.getElem_cons_zero, List.getElem_cons_succ, List.setIfInBounds_toArray, List.set_cons_zero, List.set_cons_succ]
            refine wpAnyH_take (i := 17) (v := undef) rfl (by kernel_rfl) (by kernel_rfl) (by kernel_rfl) (fun _ _ _ h => h) (Or.inr ⟨by go_simp <;> omega, rfl⟩) (by assumption) ?resw77
            simp only [Act.put, List.getElem_toArray, List.getElem_cons_zero, List.getElem_cons_succ, List.setIfInBounds_toArray, List.set_cons_zero, List.set_cons_succ]
            refine wpAnyH_take (i := 18) (v := undef) rfl (by kernel_rfl) (by kernel_rfl) (by kernel_rfl) (fun _ _ _ h => h) (Or.inr ⟨by go_simp <;> omega, rfl⟩) (by assumption) ?resw78
            simp only [Act.put, List.getElem_toArray, List.getElem_cons_zero, List.getElem_cons_succ, List.setIfInBounds_toArray, List.set_cons_zero, List.set_cons_succ]
            refine wpAnyH_take (i := 19) (v := undef) rfl (by kernel_rfl) (by kernel_rfl) (by kernel_rfl) (fun _ _ _ h => h) (Or.inr ⟨by go_simp <;> omega, rfl⟩) (by assumption) ?resw79
            simp only [Act.put, List.getElem_toArray, List.getElem_cons_zero, List.getElem_cons_succ, List.setIfInBounds_toArray, List.set_cons_zero, List.set_cons_succ]
            refine wpAnyH_take (i := 20) (v := ?w80) rfl (by kernel_rfl) (by kernel_rfl) (by kernel_rfl) (fun _ _ _ h => h) (Or.inl ⟨by (go_simp <;> omega), ?hz80⟩) (by assumption) ?resw80
            case hz80 => (intro w' hSw; (try dsimp only at hSw); go_simp; try with_reducible rfl)
            simp only [Act.put, List.getElem_toArray, List.getElem_cons_zero, List.getElem_cons_succ, List.setIfInBounds_toArray, List.set_cons_zero, List.set_cons_succ]
            refine wpAnyH_done (by kernel_rfl) ?_ _
            have HX_ := Aside0.mk (HX.out.below (by have hh := ‹Aside0 (Below w3.heap.size w3 _) ∧ _›; exact hh.1.out))
            clear HX HS0
            have HX := HX_
            clear HX_
            try clear hHeld
            try clear hHeld3
            try clear hHeld2
            try clear hs1 hbl
            clear HRB
            go_wp2_with (first | ((with_reducible refine gate_none rfl ?_); refine store_blk rfl 29 (.tmp 2) (.tmp 152) rfl w.heap.size #[.int .i64 0, .slice none 0 0, .slice none 0 0, .slice none 0 0, .slice none 0 0, .slice none 0 0, .slice none 0 0, .slice none 0 0, .slice none 0 0, .int .i64 0, .bool false] rfl rfl 29 _ HX.out.z (by kernel_rfl) rfl (by first | rfl | (simp [Value.oneCell']; done)) ?_; intro w8 hg8 ho8; have HG8 := Aside0.mk hg8; have HB8 := Aside0.mk ((Only.fr (ok := fun k => k = w.heap.size) ho8 rfl).below' HX.out.base (fun k hk => by rw [hk]; exact Nat.le_refl _)); clear hg8 ho8 HX))
            refine bodyPost_ret (results_ct rfl _ _ w.heap.size 29 _ (0, 0) _ rfl HG8.out Try.underlying29 rfl (by kernel_rfl)) rfl ?_
            exact ⟨⟨none, 0, none, 0, none, 0, none, 0, none, 0, none, 0, none, 0, none, 0⟩, by unfold sRead; rw [HNO.out]; rfl, by unfold sRead; rw [HNO.out]; exact no_bytes _, HB8.out⟩
end Go.Proofs.Ytpcfceodbemooaa.B
