/- What is kept through the log's operations; girolaw6.looks, girolaw6.known. -/
import Derived.Lib.SlBytesConst
import Derived.Test.YthaeppjhmjpecaaL5
namespace Go.Proofs.Ythaeppjhmjpecaa.B
open Go.RowKit Go.Proofs.YthaeppjhmjpecaaW.PrintWords Go.Proofs.YthaeppjhmjpecaaW.PrintLast Go.Proofs.YthaeppjhmjpecaaW.PrintMore
attribute [local go_sem] max2_int min2_int max_two min_two max_three min_three max_four min_four
set_option linter.unusedVariables false
set_option linter.unusedSimpArgs false
/-- A deck's bytes are bytes. -/
def Dk.IB (D : Dk) : Prop := IsB D.b0 ∧ IsB D.b1
theorem Dk.IB.crash {D : Dk} (h : D.IB) : D.crash.IB := ⟨h.1.take _, h.2.take _⟩
theorem Dk.IB.app {D : Dk} (h : D.IB) (side : Int) {l : List Int} (hl : IsB l) : (D.app side l).IB := by
  rcases D.app_cases side l with e | e | ⟨e, _⟩ | ⟨e, _⟩ <;> rw [e]
  · exact h
  · exact h.crash
  · exact ⟨h.1.append hl, h.2⟩
  · exact ⟨h.1, h.2.append hl⟩
theorem Dk.IB.sync {D : Dk} (h : D.IB) : D.sync.IB := by
  rcases D.sync_cases with e | e | e <;> rw [e]
  · exact h
  · exact h.crash
  · exact h
theorem Dk.IB.wipe {D : Dk} (h : D.IB) (side : Int) : (D.wipe side).IB := by
  rcases D.wipe_cases side with e | e | ⟨_, e⟩ | ⟨_, e⟩ <;> rw [e]
  · exact h
  · exact h.crash
  · exact ⟨IsB.nil, h.2⟩
  · exact ⟨h.1, IsB.nil⟩
theorem Dk.IB.restart {D : Dk} (h : D.IB) : D.restart.IB := ⟨h.1.take _, h.2.take _⟩
theorem Dk.IB.arm {D : Dk} (h : D.IB) (x y : Int) : (D.arm x y).IB := h
theorem svB_bytes {gen : Int} {snap : List Int} (h : IsB snap) : IsB (svB gen snap) := recp_bytes ((puts_bytes _).append h)
theorem svD_IB {D : Dk} (h : D.IB) (side gen : Int) {snap : List Int} (hs : IsB snap) : (svD D side gen snap).IB := by
  unfold svD
  split
  · exact h
  split
  · exact h.wipe side
  split
  · exact (h.wipe side).app side (svB_bytes hs)
  · exact ((h.wipe side).app side (svB_bytes hs)).sync
theorem svD_G {D : Dk} {N : Int} (h : D.G N) (side gen : Int) (snap : List Int) : (svD D side gen snap).G (N + 3) := by
  unfold svD
  split
  · exact h.mono (by omega)
  split
  · exact (h.wipe side).mono (by omega)
  split
  · exact ((h.wipe side).app side _).mono (by omega)
  · exact ((h.wipe side).app side _).sync.mono (by omega)
theorem opD_IB {D : Dk} (h : D.IB) {fresh : List Int} (hs : IsB fresh) : (opD D fresh).IB := by
  unfold opD
  split
  · exact h
  · exact svD_IB h 0 1 hs
theorem opD_G {D : Dk} {N : Int} (h : D.G N) (fresh : List Int) : (opD D fresh).G (N + 3) := by
  unfold opD
  split
  · exact h.mono (by omega)
  · exact svD_G h 0 1 fresh
theorem adD_IB {D : Dk} (h : D.IB) (L : Lg) {row : List Int} (hs : IsB row) : (adD D L row).IB := by
  unfold adD
  split
  · exact h
  split
  · exact h.app _ (recp_bytes hs)
  split
  · exact h.app _ (recp_bytes hs)
  · exact (h.app _ (recp_bytes hs)).sync
theorem adD_G {D : Dk} {N : Int} (h : D.G N) (L : Lg) (row : List Int) : (adD D L row).G (N + 2) := by
  unfold adD
  split
  · exact h.mono (by omega)
  split
  · exact (h.app _ _).mono (by omega)
  split
  · exact (h.app _ _).mono (by omega)
  · exact (h.app _ _).sync.mono (by omega)
theorem lkB_IB {D : Dk} (h : D.IB) : IsB (lkB D) := by unfold lkB; split; exact h.2; exact h.1
theorem lkB_len {D : Dk} {N : Int} (h : D.G N) : (lkB D).length ≤ 200000 := by
  have := h.2.2.1; have := h.2.2.2.1; have := h.2.2.2.2.1
  unfold lkB; split <;> omega
theorem heldR_facts {b : List Int} (h : IsB b) (hl : b.length ≤ 1000000) : IsBs (heldR b) ∧ (heldR b).length ≤ 1000000 := by
  obtain ⟨h1, h2⟩ := scan_facts h hl
  unfold heldR rowsL
  split
  · exact ⟨IsBs.nil, Nat.zero_le _⟩
  · exact ⟨fun x hx => h2 x (List.mem_of_mem_drop hx), by rw [List.length_drop]; omega⟩
theorem heldS_facts {b : List Int} (h : IsB b) (hl : b.length ≤ 1000000) : IsB (heldS b) := by
  obtain ⟨h1, h2⟩ := scan_facts h hl
  unfold heldS snapL
  split
  · exact IsB.nil
  · exact (IsBs.getD h2 0).drop 8
theorem OpenedV.inv {w w' : World} {ok : Nat → Prop} {g : Nat} {E : Int} {D' : Dk} {s : List Int} {r : List (List Int)} {L : Lg} {e : Ending} (h : OpenedV w w' ok g E D' s r L e) (hE : E = 0) : ∃ gl M v1 v2, e = .returned (.tuple #[.pointer (some ⟨gl, 0, none⟩), v1, v2, .int .i64 0]) ∧ Fr ok w w' ∧ w.heap.size ≤ M ∧ M ≤ gl ∧ IsD w' (fun k => ok k ∧ k < M) g D' ∧ IsL w' gl g L ∧ HoldsV w' (fun k => M ≤ k ∧ k ≠ gl) s r v1 v2 := by
  obtain ⟨vp, v1, v2, rfl, hf, h | ⟨_, gl, M, rfl, h1, h2, h3, h4, h5⟩⟩ := h
  · exact absurd hE h.1
  · rw [hE]; exact ⟨gl, M, v1, v2, rfl, hf, h1, h2, h3, h4, h5⟩
theorem OpenedV.inv_no {w w' : World} {ok : Nat → Prop} {g : Nat} {E : Int} {D' : Dk} {s : List Int} {r : List (List Int)} {L : Lg} {e : Ending} (h : OpenedV w w' ok g E D' s r L e) (hE : E ≠ 0) : e = .returned (.tuple #[.pointer none, .slice none 0 0, .slice none 0 0, .int .i64 E]) ∧ Fr ok w w' ∧ IsD w' ok g D' := by
  obtain ⟨vp, v1, v2, rfl, hf, ⟨_, rfl, rfl, rfl, h⟩ | ⟨h, _⟩⟩ := h
  · exact ⟨rfl, hf, h⟩
  · exact absurd h hE
theorem OpenedVX.inv {w w' : World} {ok : Nat → Prop} {g : Nat} {E : Int} {D' : Dk} {s : List Int} {r : List (List Int)} {L : Lg} {e : Ending} (h : OpenedVX w w' ok g E D' s r L e) (hE : E = 0) : ∃ gl M v1 v2, e = .returned (.tuple #[.pointer (some ⟨gl, 0, none⟩), v1, v2, .int .i64 0]) ∧ Fr ok w w' ∧ w.heap.size ≤ M ∧ M ≤ gl ∧ IsX w' (fun k => ok k ∧ k < M) g D' ∧ IsLX w' gl g L ∧ HoldsV w' (fun k => M ≤ k ∧ k ≠ gl) s r v1 v2 := by
  obtain ⟨vp, v1, v2, rfl, hf, h | ⟨_, gl, M, rfl, h1, h2, h3, h4, h5⟩⟩ := h
  · exact absurd hE h.1
  · rw [hE]; exact ⟨gl, M, v1, v2, rfl, hf, h1, h2, h3, h4, h5⟩
theorem OpenedVX.inv_no {w w' : World} {ok : Nat → Prop} {g : Nat} {E : Int} {D' : Dk} {s : List Int} {r : List (List Int)} {L : Lg} {e : Ending} (h : OpenedVX w w' ok g E D' s r L e) (hE : E ≠ 0) : e = .returned (.tuple #[.pointer none, .slice none 0 0, .slice none 0 0, .int .i64 E]) ∧ Fr ok w w' ∧ IsX w' ok g D' := by
  obtain ⟨vp, v1, v2, rfl, hf, ⟨_, rfl, rfl, rfl, h⟩ | ⟨h, _⟩⟩ := h
  · exact ⟨rfl, hf, h⟩
  · exact absurd h hE
/-- Both decks hold the same: looks answers yes. -/
theorem tlooks (g gx : Nat) (okd okx : Nat → Prop) (D : Dk) (N : Int) (w : World) (h : IsD w okd g D) (hx : IsX w okx gx D) (hG : D.G N) (hI : D.IB) :
    Calls Try.prog 36 #[.pointer (some ⟨g, 0, none⟩), .pointer (some ⟨gx, 0, none⟩)] w fun e w' => e = .returned (.bool true) ∧ Below w.heap.size w w' := by
  have HB := Aside0.mk (Below.refl w.heap.size w)
  have HD := Aside0.mk h
  have HX := Aside0.mk hx
  have HIB := Aside0.mk hI
  have HL := Aside0.mk (show D.b0.length ≤ 1000000 ∧ D.b1.length ≤ 1000000 by have := hG.2.2.1; have := hG.2.2.2.1; have := hG.2.2.2.2.1; omega)
  have hlb : (lkB D).length ≤ 1000000 := Nat.le_trans (lkB_len hG) (by decide)
  obtain ⟨q, hq⟩ : ∃ q, lkG D = q := ⟨_, rfl⟩
  obtain ⟨sd, hsd⟩ : ∃ q, lkS D = q := ⟨_, rfl⟩
  obtain ⟨gb, hgb⟩ : ∃ gb, decide (q ≠ 0) = gb := ⟨_, rfl⟩
  obtain ⟨s, hs⟩ : ∃ s, heldS (lkB D) = s := ⟨_, rfl⟩
  obtain ⟨r, hr⟩ : ∃ s, heldR (lkB D) = s := ⟨_, rfl⟩
  have HQ := Aside0.mk hq
  have HSD := Aside0.mk hsd
  have HGB := Aside0.mk hgb
  have HSS := Aside0.mk (And.intro hs hr)
  have HRF := Aside0.mk (show IsBs r ∧ r.length ≤ 140737488351232 from by
    rw [← hr]
    have := heldR_facts (lkB_IB hI) hlb
    exact ⟨this.1, by omega⟩)
  clear h hx hG hI hlb hq hsd hgb hs hr
  go_enter Try.func36, Try.ntmps36
  go_wp2_with (first | ((with_reducible refine gate_dst (N := 17) rfl ?_); (try (refine gate_guard (by rfl) ?_; dsimp only)); refine goesL_ (some 17) rfl rfl Try.func34 (by kernel_rfl) rfl #[.pointer (some ⟨g, 0, none⟩)] rfl (by (try simp only [List.map_toArray, List.map_cons, List.map_nil]); first | done | rfl | (simp only [List.length_drop, List.length_take]; rfl)) ?_; refine (llook g okd D _ HD.out HL.out HIB.out).mono ?_; rintro e w1 ⟨v1, v2, rfl, hh, hbl⟩; refine ⟨_, rfl, ?_⟩; rw [HQ.out, HSD.out, HGB.out]; have HH := Aside0.mk hh.v; rw [HSS.out.1, HSS.out.2] at HH; clear hh; obtain ⟨A1, c1, A2, c2, e1, e2, hx1, hx2, hx3, hx4⟩ := HH.out.out; subst e1 e2; clear hx1 hx2 hx3 hx4; have HX' := Aside0.mk (HX.out.below hbl); have HB' := Aside0.mk (below_step HB.out hbl); clear HB hbl HX HD; have HB := HB'; have HX := HX'; clear HB' HX') | ((with_reducible refine gate_dst (N := 25) rfl ?_); (try (refine gate_guard (by rfl) ?_; dsimp only)); refine goesL_ (some 25) rfl rfl Try.func50 (by kernel_rfl) rfl #[.pointer (some ⟨gx, 0, none⟩)] rfl (by (try simp only [List.map_toArray, List.map_cons, List.map_nil]); first | done | rfl | (simp only [List.length_drop, List.length_take]; rfl)) ?_; refine (xlook gx okx D _ HX.out HL.out HIB.out).mono ?_; rintro e w2 ⟨v3, v4, rfl, hh, hbl⟩; refine ⟨_, rfl, ?_⟩; rw [HQ.out, HSD.out, HGB.out]; have HH3 := Aside0.mk hh.v; rw [HSS.out.1, HSS.out.2] at HH3; clear hh; have HH1 := Aside0.mk (HH.out.below hbl); obtain ⟨A3, c3, A4, c4, e3, e4, hy1, hy2, hy3, hy4⟩ := HH3.out.out; subst e3 e4; obtain ⟨B1, d1, B2, d2, e1, e2, hx1, hx2, hx3, hx4⟩ := HH1.out.out; cases e1; cases e2; have hs1 := cstr (c := c1) hx1; have hs2 := cstr (c := c3) hy1; have HR1 := Aside0.mk hx2; have HR2 := Aside0.mk hy2; clear hx1 hx2 hx3 hx4 hy1 hy2 hy3 hy4; have HB' := Aside0.mk (below_step HB.out hbl); clear HB hbl HX HH HH1 HH3; have HB := HB'; clear HB') | ((with_reducible refine gate_dst (N := 49) rfl ?_); (try (refine gate_guard (by rfl) ?_; dsimp only)); refine goesL_ (some 49) rfl rfl Try.func39 (by kernel_rfl) rfl #[.slice A2 r.length c2, .slice A4 r.length c4] rfl (by (try simp only [List.map_toArray, List.map_cons, List.map_nil]); first | done | rfl | (simp only [List.length_drop, List.length_take]; rfl)) ?_; refine (same5 A2 c2 r A4 c4 r _ HR1.out HR2.out HRF.out.1 HRF.out.1 HRF.out.2).mono ?_; rintro e w3 ⟨rfl, hdr⟩; refine ⟨_, rfl, ?_⟩; rw [show decide (r = r) = true from decide_eq_true rfl]; have HB' := Aside0.mk (below_step HB.out hdr.below); clear HB hdr; have HB := HB'; clear HB'))
  go_ret
  exact ⟨by cases gb <;> rfl, HB.out⟩
/-- The known log: a snapshot 's', a row 'a'. -/
def K0 : Dk := ⟨100, [], 0, [], 0, 0, 0, false, false, 0⟩
def KL0 : Lg := ⟨0, 1, 0, false⟩
def K1 : Dk := opD K0 [115]
def K2 : Dk := adD K1 KL0 [97]
theorem k_open : opE K0 [115] = 0 ∧ opS K0 [115] = [115] ∧ opR K0 = [] ∧ lkG K0 = 0 := by decide +kernel
theorem k_openL : opL K0 = KL0 := (op_fresh (fresh := []) k_open.2.2.2).2.2.2.2
theorem kl0_G : KL0.G 900000 := ⟨.inl rfl, by decide, by decide, by decide, by decide⟩
theorem k_add : adE K1 KL0 [97] = 0 := by decide +kernel
theorem k_addL : adL K1 KL0 [97] = ⟨0, 1, 1, false⟩ := if_pos k_add
theorem k_look : lkG K2 = 1 ∧ lkS K2 = 0 ∧ heldS (lkB K2) = [115] ∧ heldR (lkB K2) = [[97]] := by decide +kernel
theorem k0_G : K0.G 0 := by unfold Dk.G K0; decide
theorem k0_IB : K0.IB := ⟨IsB.nil, IsB.nil⟩
theorem b1_bytes {x : Int} (h : 0 ≤ x ∧ x < 256) : IsB [x] := fun y hy => by rw [List.mem_singleton.1 hy]; exact h
theorem k1_G : K1.G 3 := (opD_G k0_G [115]).mono (by decide)
theorem k1_IB : K1.IB := opD_IB k0_IB (b1_bytes (by decide))
theorem k2_G : K2.G 5 := (adD_G k1_G KL0 [97]).mono (by decide)
theorem k2_IB : K2.IB := adD_IB k1_IB KL0 (b1_bytes (by decide))
theorem G_len {D : Dk} {N : Int} (h : D.G N) : D.b0.length ≤ 1000000 ∧ D.b1.length ≤ 1000000 := by have := h.2.2.1; have := h.2.2.2.1; have := h.2.2.2.2.1; omega
theorem str115 : strOfNums [115] = { data := #[115] } := by decide
set_option maxRecDepth 100000 in
set_option maxHeartbeats 2000000 in
theorem known6 (w : World) : Calls Try.prog 35 #[] w fun e w' => e = .returned (.bool true) ∧ Below w.heap.size w w' := by
  have kc := fun (w : World) (C : Array Value) (n c : Nat) => Lib.run_convert_bytes_const (P := Try.prog) w 22 5 C n c Try.underlying22 Try.underlying5
  have HB := Aside0.mk (Below.refl w.heap.size w)
  go_enter Try.func35, Try.ntmps35
  go_wp2_with (first | ((with_reducible refine gate_dst (N := 12) rfl ?_); (try (refine gate_guard (by rfl) ?_; dsimp only)); refine goesL_ (some 12) rfl rfl Try.func14 (by kernel_rfl) rfl #[.int .i64 100] rfl (by (try simp only [List.map_toArray, List.map_cons, List.map_nil]); first | done | rfl | (simp only [List.length_drop, List.length_take]; rfl)) ?_; refine (tnew 100 _ (by decide) (by decide) (fun k => w.heap.size ≤ k) (Nat.le_refl _)).mono ?_; rintro e w1 ⟨rfl, hD, hbl⟩; refine ⟨_, rfl, ?_⟩; have HD := Aside0.mk (show IsD w1 (fun k => w.heap.size ≤ k) w.heap.size K0 from hD); have HB' := Aside0.mk (below_step HB.out hbl); clear HB hbl hD; have HB := HB'; clear HB') | ((with_reducible refine gate_dst (N := 17) rfl ?_); (try (refine gate_guard (by rfl) ?_; dsimp only)); refine goesL_ (some 17) rfl rfl Try.func37 (by kernel_rfl) rfl #[.pointer (some ⟨w.heap.size, 0, none⟩), .slice (some ⟨w1.heap.size, 0, none⟩) 1 1] rfl (by (try simp only [List.map_toArray, List.map_cons, List.map_nil]); first | done | rfl | (simp only [List.length_drop, List.length_take]; rfl)) ?_; refine ((lopen w.heap.size (fun k => w.heap.size ≤ k ∧ k ≠ w1.heap.size) K0 (some ⟨w1.heap.size, 0, none⟩) 1 [115] 0 _ ((HD.out.bound.mono (fun k hk => ⟨hk.1, Nat.ne_of_lt hk.2⟩)).below (below_alloc (Below.refl _ _) _)) k0_IB k0_G (by decide) (C_const w1 [115] _ _ _ rfl (by decide)) (by decide) (fun k hk => by have h1 := HB.out.size; have h2 : w1.heap.size + 1 ≤ k := (by simpa using hk); exact ⟨by omega, by omega⟩) (fun ad e _ hk => by cases e; exact hk.2 rfl)).mono (fun e w' h => OpenedV.inv h k_open.1)).mono ?_; rintro e w3 ⟨gl, M, v1, v2, rfl, hfr, hM, hgl, hD, hL, hv⟩; refine ⟨_, rfl, ?_⟩; rw [k_open.2.1, k_open.2.2.1] at hv; rw [k_openL] at hL; have HML := Aside0.mk (show w.heap.size ≤ M ∧ M ≤ gl from ⟨Nat.le_trans (below_alloc HB.out _).size hM, hgl⟩); have HB' := Aside0.mk (hfr.below' (below_alloc HB.out _) (fun k h => h.1)); have HGLL := Aside0.mk (blk_lt hL); have HD' := Aside0.mk (hD.mono (ok' := fun k => w.heap.size ≤ k ∧ k < M) (fun k hk => ⟨hk.1.1, hk.2⟩)); have HL := Aside0.mk hL; have HV := Aside0.mk hv; clear HB HD hfr hM hgl hD hL hv; have HB := HB'; have HD := HD'; clear HB' HD'; obtain ⟨A1, c1, A2, c2, e1, e2, hx1, hx2, hx3, hx4⟩ := HV.out.out; subst e1 e2; clear hx1 hx2 hx3 hx4) | ((with_reducible refine gate_dst (N := 25) rfl ?_); (try (refine gate_guard (by rfl) ?_; dsimp only)); refine goesL_ (some 25) rfl rfl Try.func40 (by kernel_rfl) rfl #[.pointer (some ⟨gl, 0, none⟩), .slice (some ⟨w3.heap.size, 0, none⟩) 1 1] rfl (by (try simp only [List.map_toArray, List.map_cons, List.map_nil]); first | done | rfl | (simp only [List.length_drop, List.length_take]; rfl)) ?_; refine (ladd w.heap.size gl (fun k => (w.heap.size ≤ k ∧ k < M) ∨ w3.heap.size < k) K1 KL0 (some ⟨w3.heap.size, 0, none⟩) 1 [97] 3 _ ((HD.out.mono (fun _ => .inl)).below (below_alloc (Below.refl _ _) _)) (((below_alloc (Below.refl w3.heap.size w3) _).block gl HGLL.out).trans HL.out) (fun h => by have h1 := HML.out; have h2 := HGLL.out; omega) k1_G (by decide) kl0_G (C_const w3 [97] _ _ _ rfl (by decide)) (by decide) (by decide) (fun k hk => by have h2 : w3.heap.size + 1 ≤ k := (by simpa using hk); exact .inr (by omega))).mono ?_; rintro e w4 ⟨rfl, hD, hL, hfr⟩; refine ⟨_, rfl, ?_⟩; rw [k_add]; have HV' := Aside0.mk ((HV.out.bound.below (below_alloc (Below.refl _ _) _)).fr hfr (fun k hk _ h => by have h1 := hk.1.1; have h2 := hk.1.2; have h3 := hk.2; omega)); have HB' := Aside0.mk (hfr.below' (below_alloc HB.out _) (fun k h => by have h1 := HML.out; have h2 := HB.out.size; omega)); have HD' := Aside0.mk hD; rw [k_addL] at hL; have HL' := Aside0.mk hL; clear HB HD HL HV hfr hD hL; have HB := HB'; have HD := HD'; have HL := HL'; have HV := HV'; clear HB' HD' HL' HV') | ((with_reducible refine gate_dst (N := 28) rfl ?_); (try (refine gate_guard (by rfl) ?_; dsimp only)); refine goesL_ (some 28) rfl rfl Try.func34 (by kernel_rfl) rfl #[.pointer (some ⟨w.heap.size, 0, none⟩)] rfl (by (try simp only [List.map_toArray, List.map_cons, List.map_nil]); first | done | rfl | (simp only [List.length_drop, List.length_take]; rfl)) ?_; refine (llook w.heap.size (fun k => (w.heap.size ≤ k ∧ k < M) ∨ w3.heap.size < k) K2 _ HD.out (G_len k2_G) k2_IB).mono ?_; rintro e w5 ⟨v5, v6, rfl, hh, hbl⟩; refine ⟨_, rfl, ?_⟩; rw [k_look.1, k_look.2.1]; have HH := Aside0.mk hh.v; rw [k_look.2.2.1, k_look.2.2.2] at HH; clear hh; obtain ⟨A3, c3, A4, c4, e3, e4, hx1, hx2, hx3, hx4⟩ := HH.out.out; subst e3 e4; have hs3 := (show (convert 22 9 (.slice A3 1 c3)).run Try.prog w5 = .ok (.string (strOfNums [115])) w5 from cstr (c := c3) hx1); rw [str115] at hs3; obtain ⟨B1, d1, B2, d2, e1, e2, hy1, hy2, hy3, hy4⟩ := (HV.out.below hbl).out; cases e1; cases e2; have hs1 := (show (convert 22 9 (.slice A1 1 c1)).run Try.prog w5 = .ok (.string (strOfNums [115])) w5 from cstr (c := c1) hy1); rw [str115] at hs1; obtain ⟨ad, A5, c5, eA, hcell, hc5, hC5⟩ := at_L1 hx2 0 (by decide) (by decide); subst eA; rw [show (0 : Int).toNat = 0 from rfl, Addr.add_zero'] at hcell; replace hcell := (show w5.cell? ad = some (.slice A5 1 c5) from hcell); replace hC5 := (show Kd.C (Kd.int .u8) w5 A5 1 [97] from hC5); have hs5 := (show (convert 22 9 (.slice A5 1 c5)).run Try.prog w5 = .ok (.string (strOfNums [97])) w5 from cstr (c := c5) hC5); rw [str97] at hs5; have HL' := Aside0.mk ((hbl.block gl (blk_lt HL.out)).trans HL.out); have HB' := Aside0.mk (below_step HB.out hbl); clear HB HL HV HH hbl hx1 hx2 hx3 hx4 hy1 hy2 hy3 hy4 hc5 hC5 HD; have HB := HB'; have HL := HL'; clear HB' HL') | ((with_reducible refine gate_dst (N := 80) rfl ?_); (try (refine gate_guard (by rfl) ?_; dsimp only)); refine goesL_ (some 80) rfl rfl Try.func44 (by kernel_rfl) rfl #[.pointer (some ⟨gl, 0, none⟩)] rfl (by (try simp only [List.map_toArray, List.map_cons, List.map_nil]); first | done | rfl | (simp only [List.length_drop, List.length_take]; rfl)) ?_; refine (lrows gl w.heap.size ⟨0, 1, 1, false⟩ _ HL.out).mono ?_; rintro e w6 ⟨rfl, hbl⟩; refine ⟨_, rfl, ?_⟩; have HB_ := Aside0.mk (below_step HB.out hbl); clear HB; have HB := HB_; clear HB_; clear hbl))
  go_ret
  exact ⟨rfl, HB.out⟩
end Go.Proofs.Ythaeppjhmjpecaa.B
