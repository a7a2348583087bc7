/- Snap: the readers: a row of so many numbers, rows: walks. -/
import Derived.Test.YtpcfceodbemooaaS5
namespace Go.Proofs.Ytpcfceodbemooaa.B
open Go.RowKit Go.Proofs.YtpcfceodbemooaaW.PrintWords Go.Proofs.YtpcfceodbemooaaW.PrintLast Go.Proofs.YtpcfceodbemooaaW.PrintMore Go.Proofs.Ytpcfceodbemooaa.PSnapBytes
attribute [local go_sem] max2_int min2_int max_two min_two max_three min_three max_four min_four
set_option linter.unusedVariables false
set_option linter.unusedSimpArgs false

theorem Fg.step {g : Nat} {w W w1 : World} (h : Fg g w W) (h2 : Below w.heap.size W w1) : Fg g w w1 :=
  ⟨h2.os.trans h.1, h2.tape.trans h.2.1, h2.output.trans h.2.2.1, Nat.le_trans h.2.2.2.1 h2.size, fun k hk ho => (h2.block k hk).trans (h.2.2.2.2 k hk ho)⟩
theorem RB.step {ty : Nat} {w0 W w1 : World} {g B : Nat} {b : List Int} {fl : Bool} (h : RB ty w0 W g b fl) (h2 : Below B W w1) (hg : g < B) (h0 : w0.heap.size ≤ B) : RB ty w0 w1 g b fl := by
  obtain ⟨⟨A, c, h1, h2', h3⟩, h4, h5, h6, h7⟩ := h
  exact ⟨⟨A, c, (h2.block g hg).trans h1, h2', h3⟩, h4, h5, h6, ⟨h2.os.trans h7.os, h2.tape.trans h7.tape, h2.output.trans h7.output, Nat.le_trans h7.size h2.size, fun k hk => (h2.block k (by omega)).trans (h7.block k hk)⟩⟩
theorem Fg.size {g : Nat} {w W : World} (h : Fg g w W) : w.heap.size ≤ W.heap.size := h.2.2.2.1
theorem jsL_yes {n : Nat} {b : List Int} (h : (nextL b).length = n) : jsL n b = nextL b := if_pos h
theorem jsL_no {n : Nat} {b : List Int} (h : ¬ (nextL b).length = n) : jsL n b = List.replicate n 0 := if_neg h
theorem jsB_yes {n : Nat} {b : List Int} {bad : Bool} (h : (nextL b).length = n) : jsB n b bad = rowB b bad := if_pos h
theorem jsB_no {n : Nat} {b : List Int} {bad : Bool} (h : ¬ (nextL b).length = n) : jsB n b bad = true := if_neg h

set_option maxHeartbeats 2000000 in
theorem sJust (w0 : World) (g : Nat) (b : List Int) (bad : Bool) (n : Nat) (w : World) (h : RB 47 w0 w g b bad) (hn : n ≤ 1000) :
    Calls Try.prog 17 #[.pointer (some ⟨g, 0, none⟩), .int .i64 (n : Int)] w fun e w' => ∃ v : Value, e = .returned v ∧ Kd.R (Kd.int .i64) 2 w' w.heap.size (fun _ => True) v (jsL n b) ∧ RB 47 w0 w' g (nextR b) (jsB n b bad) ∧ Fg g w w' := by
  have H := Aside0.mk h
  have hlt := h.lt
  have hge := h.ge
  clear h
  by_cases c0 : (nextL b).length = n
  · have cb : (((nextL b).length : Int) != (n : Int)) = false := by rw [c0]; simp
    rw [jsL_yes c0, jsB_yes c0]
    clear c0
    go_enter Try.func17, Try.ntmps17
    go_wp2_with (first | ((with_reducible refine gate_dst (N := 7) rfl ?_); (try (refine gate_guard (by rfl) ?_; dsimp only)); refine goesL_ (some 7) rfl rfl Try.func19 (by kernel_rfl) rfl #[.pointer (some ⟨g, 0, none⟩)] rfl (by (try simp only [List.map_toArray, List.map_cons, List.map_nil]); first | done | rfl | (simp only [List.length_drop, List.length_take]; rfl)) ?_; refine (sRow w0 g b bad _ H.out).mono ?_; rintro e w2 ⟨v2, rfl, ho, hR, hF⟩; refine ⟨_, rfl, ?_⟩; have HO := Aside0.mk ho; have HR2 := Aside0.mk hR; have HF := Aside0.mk hF; clear ho hR hF H; obtain ⟨A2, c2, e2⟩ := Kd.R_slice HO.out; subst e2))
    go_ret
    exact ⟨_, rfl, HO.out, HR2.out, HF.out⟩
  · have cb : (((nextL b).length : Int) != (n : Int)) = true := by rw [bne_iff_ne]; omega
    rw [jsL_no c0, jsB_no c0]
    clear c0
    go_enter Try.func17, Try.ntmps17
    go_wp2_with (first | ((with_reducible refine gate_dst (N := 7) rfl ?_); (try (refine gate_guard (by rfl) ?_; dsimp only)); refine goesL_ (some 7) rfl rfl Try.func19 (by kernel_rfl) rfl #[.pointer (some ⟨g, 0, none⟩)] rfl (by (try simp only [List.map_toArray, List.map_cons, List.map_nil]); first | done | rfl | (simp only [List.length_drop, List.length_take]; rfl)) ?_; refine (sRow w0 g b bad _ H.out).mono ?_; rintro e w2 ⟨v2, rfl, ho, hR, hF⟩; refine ⟨_, rfl, ?_⟩; have HO := Aside0.mk ho; have HR2 := Aside0.mk hR; have HF := Aside0.mk hF; clear ho hR hF H; obtain ⟨A2, c2, e2⟩ := Kd.R_slice HO.out; subst e2; obtain ⟨⟨A3, c3, hG3, hC3, hc3⟩, hI3, hl3, hge3, hB3⟩ := HR2.out; have HG3 := Aside0.mk hG3; have HC3 := Aside0.mk hC3; have HI3 := Aside0.mk hI3; have HB3 := Aside0.mk hB3; have HL3 := Aside0.mk (And.intro hc3 hl3); obtain ⟨z0, z1, zf0, zf1⟩ := cells2 HG3.out; clear hG3 hC3 hI3 hB3 hc3 hl3) | ((with_reducible refine gate_dst (N := 16) rfl ?_); refine Kd.R_make (Kd.int .i64) (w0 := w2.setCell ⟨g, 1, none⟩ (.bool true)) w.heap.size 2 rfl (N := 16) rfl 24 _ _ rfl (n : Int) rfl rfl Try.underlying24 (.int .i64 0) 8 info2 rfl (by decide) (by decide) (0 : Int) (ok := fun _ => True) (okp := fun _ => True) rfl (fun _ hk => hk) trivial (by omega) (by omega) (Below.refl _ _) (by rw [show (w2.setCell ⟨g, 1, none⟩ (.bool true)).heap.size = w2.heap.size by simp]; exact HF.out.size) ?_; intro v5 w5 ho5 hb5 hg5 hn5; rw [Int.toNat_natCast] at ho5; have HO5 := Aside0.mk ho5; have HB5 := Aside0.mk hb5; clear ho5 hb5 hg5 hn5))
    go_ret
    have hS : Fg g w2 (w2.setCell ⟨g, 1, none⟩ (.bool true)) := Only.fr (Only.set g 1 w2 _) rfl
    have hF2 : Fg g w (w2.setCell ⟨g, 1, none⟩ (.bool true)) := Fr.trans HF.out hS
    have hRB : RB 47 w0 (w2.setCell ⟨g, 1, none⟩ (.bool true)) g (nextR b) true := ⟨⟨A3, c3, set2_1 HG3.out _, HC3.out, HL3.out.1⟩, HI3.out, HL3.out.2, hge, Fr.below' hS HB3.out (fun k hk => by rw [hk]; exact hge)⟩
    exact ⟨_, rfl, HO5.out, hRB.step HB5.out hlt (Nat.le_trans hge (Nat.le_of_lt hlt)), hF2.step HB5.out⟩

set_option maxHeartbeats 2000000 in
theorem xJust (w0 : World) (g : Nat) (b : List Int) (bad : Bool) (n : Nat) (w : World) (h : RB 61 w0 w g b (!bad)) (hn : n ≤ 1000) :
    Calls Try.prog 31 #[.pointer (some ⟨g, 0, none⟩), .int .i64 (n : Int)] w fun e w' => ∃ v : Value, e = .returned v ∧ Kd.R (Kd.int .i64) 2 w' w.heap.size (fun _ => True) v (jsL n b) ∧ RB 61 w0 w' g (nextR b) (!jsB n b bad) ∧ Fg g w w' := by
  have H := Aside0.mk h
  have hlt := h.lt
  have hge := h.ge
  clear h
  by_cases c0 : (nextL b).length = n
  · have cb : (((nextL b).length : Int) != (n : Int)) = false := by rw [c0]; simp
    rw [jsL_yes c0, jsB_yes c0]
    clear c0
    go_enter Try.func31, Try.ntmps31
    go_wp2_with (first | ((with_reducible refine gate_dst (N := 7) rfl ?_); (try (refine gate_guard (by rfl) ?_; dsimp only)); refine goesL_ (some 7) rfl rfl Try.func33 (by kernel_rfl) rfl #[.pointer (some ⟨g, 0, none⟩)] rfl (by (try simp only [List.map_toArray, List.map_cons, List.map_nil]); first | done | rfl | (simp only [List.length_drop, List.length_take]; rfl)) ?_; refine (xRow w0 g b bad _ H.out).mono ?_; rintro e w2 ⟨v2, rfl, ho, hR, hF⟩; refine ⟨_, rfl, ?_⟩; have HO := Aside0.mk ho; have HR2 := Aside0.mk hR; have HF := Aside0.mk hF; clear ho hR hF H; obtain ⟨A2, c2, e2⟩ := Kd.R_slice HO.out; subst e2))
    go_ret
    exact ⟨_, rfl, HO.out, HR2.out, HF.out⟩
  · have cb : (((nextL b).length : Int) != (n : Int)) = true := by rw [bne_iff_ne]; omega
    rw [jsL_no c0, jsB_no c0]
    clear c0
    go_enter Try.func31, Try.ntmps31
    go_wp2_with (first | ((with_reducible refine gate_dst (N := 7) rfl ?_); (try (refine gate_guard (by rfl) ?_; dsimp only)); refine goesL_ (some 7) rfl rfl Try.func33 (by kernel_rfl) rfl #[.pointer (some ⟨g, 0, none⟩)] rfl (by (try simp only [List.map_toArray, List.map_cons, List.map_nil]); first | done | rfl | (simp only [List.length_drop, List.length_take]; rfl)) ?_; refine (xRow w0 g b bad _ H.out).mono ?_; rintro e w2 ⟨v2, rfl, ho, hR, hF⟩; refine ⟨_, rfl, ?_⟩; have HO := Aside0.mk ho; have HR2 := Aside0.mk hR; have HF := Aside0.mk hF; clear ho hR hF H; obtain ⟨A2, c2, e2⟩ := Kd.R_slice HO.out; subst e2; obtain ⟨⟨A3, c3, hG3, hC3, hc3⟩, hI3, hl3, hge3, hB3⟩ := HR2.out; have HG3 := Aside0.mk hG3; have HC3 := Aside0.mk hC3; have HI3 := Aside0.mk hI3; have HB3 := Aside0.mk hB3; have HL3 := Aside0.mk (And.intro hc3 hl3); obtain ⟨z0, z1, zf0, zf1⟩ := cells2 HG3.out; clear hG3 hC3 hI3 hB3 hc3 hl3) | ((with_reducible refine gate_dst (N := 16) rfl ?_); refine Kd.R_make (Kd.int .i64) (w0 := w2.setCell ⟨g, 1, none⟩ (.bool false)) w.heap.size 2 rfl (N := 16) rfl 24 _ _ rfl (n : Int) rfl rfl Try.underlying24 (.int .i64 0) 8 info2 rfl (by decide) (by decide) (0 : Int) (ok := fun _ => True) (okp := fun _ => True) rfl (fun _ hk => hk) trivial (by omega) (by omega) (Below.refl _ _) (by rw [show (w2.setCell ⟨g, 1, none⟩ (.bool false)).heap.size = w2.heap.size by simp]; exact HF.out.size) ?_; intro v5 w5 ho5 hb5 hg5 hn5; rw [Int.toNat_natCast] at ho5; have HO5 := Aside0.mk ho5; have HB5 := Aside0.mk hb5; clear ho5 hb5 hg5 hn5))
    go_ret
    have hS : Fg g w2 (w2.setCell ⟨g, 1, none⟩ (.bool false)) := Only.fr (Only.set g 1 w2 _) rfl
    have hF2 : Fg g w (w2.setCell ⟨g, 1, none⟩ (.bool false)) := Fr.trans HF.out hS
    have hRB : RB 61 w0 (w2.setCell ⟨g, 1, none⟩ (.bool false)) g (nextR b) false := ⟨⟨A3, c3, set2_1 HG3.out _, HC3.out, HL3.out.1⟩, HI3.out, HL3.out.2, hge, Fr.below' hS HB3.out (fun k hk => by rw [hk]; exact hge)⟩
    exact ⟨_, rfl, HO5.out, hRB.step HB5.out hlt (Nat.le_trans hge (Nat.le_of_lt hlt)), hF2.step HB5.out⟩

set_option maxHeartbeats 4000000 in
theorem sMany (w0 : World) (g : Nat) (b : List Int) (bad : Bool) (n : Int) (w : World) (h : RB 47 w0 w g b bad) (hb : b.length ≤ 1000000000000) (hn0 : -9223372036854775808 ≤ n) (hn1 : n < 9223372036854775808) :
    Calls Try.prog 18 #[.pointer (some ⟨g, 0, none⟩), .int .i64 n] w fun e w' => ∃ v : Value, e = .returned v ∧ Kd.R (Kd.slice 2 (Kd.int .i64)) 24 w' w.heap.size (fun _ => True) v (its nextL rowB (b.length + 2) n b bad).1 ∧ RB 47 w0 w' g (its nextL rowB (b.length + 2) n b bad).2.1 (its nextL rowB (b.length + 2) n b bad).2.2 ∧ Fg g w w' := by
  have H := Aside0.mk h
  have hlt := h.lt
  have hge := h.ge
  have HN := Aside0.mk (And.intro hn0 hn1)
  clear h hn0 hn1
  obtain ⟨L, hL⟩ : ∃ L, (its nextL rowB (b.length + 2) n b bad) = L := ⟨_, rfl⟩
  have HL := Aside0.mk hL
  have HZ := Aside0.mk (show Fz (b.length + 2) b bad from ⟨by omega, fun _ => Nat.le_refl _⟩)
  rw [hL]
  clear hL
  go_enter Try.func18, Try.ntmps18
  go_wp2
  go_loopg [1, 5] (b.length + 2) (fun kq v1 v5 w' => ∃ (m : Int) (b' : List Int) (bad' : Bool) (acc : List (List Int)), v1 = .int .i64 m ∧ Aside0 (-9223372036854775808 ≤ m ∧ m < 9223372036854775808 ) ∧ acc.length + kq ≤ b.length + 2 ∧ Aside0 (Fz kq b' bad') ∧ Aside0 (acc ++ (its nextL rowB kq m b' bad').1 = L.1 ∧ (its nextL rowB kq m b' bad').2 = L.2) ∧ Aside0 (RB 47 w0 w' g b' bad') ∧ Aside0 (Kd.R (Kd.slice 2 (Kd.int .i64)) 24 w' w.heap.size (fun _ => True) v5 acc) ∧ Aside0 (Fg g w w'))
  case atStart => exact ⟨n, b, bad, [], by first | rfl | (simp; done), ⟨HN.out.1, HN.out.2 ⟩, by simp, HZ, ⟨by rw [HL.out]; rfl, by rw [HL.out]⟩, H, ⟨Kd.R_nil _ _ _ _ _⟩, ⟨Fr.refl _ _⟩⟩
  case round =>
    clear H HL HZ
    obtain ⟨m, b', bad', acc, rfl, HM, hacc, HZ, HL, HRB, HO, HF⟩ := hrel
    obtain ⟨f, hf⟩ : ∃ f, gk = f + 1 := ⟨gk - 1, by have := HZ.out.1; omega⟩
    obtain ⟨Ao, co, eo⟩ := Kd.R_slice HO.out
    subst eo
    obtain ⟨A1, c1, hG, _⟩ := HRB.out.blk
    obtain ⟨z0, z1, zf0, zf1⟩ := cells2 hG
    clear hG
    by_cases cm : 0 < m
    · have cmb : decide (0 < m) = true := decide_eq_true (by omega)
      cases bad' with
      | false =>
        have HL2 := HL.out
        rw [hf, its_go nextL rowB cm rfl] at HL2
        have HLN := Aside0.mk (show (acc ++ [nextL b']) ++ (its nextL rowB f (m - 1) (nextR b') (rowB b' false)).1 = L.1 ∧ (its nextL rowB f (m - 1) (nextR b') (rowB b' false)).2 = L.2 from ⟨by rw [← HL2.1, List.append_assoc]; rfl, HL2.2⟩)
        have HZN := Aside0.mk (Fz.step (bad' := rowB b' false) (by rw [← hf]; exact HZ.out) rfl rowB_ok)
        clear HL2 HL HZ
        obtain ⟨x, hx⟩ : ∃ x, nextL b' = x := ⟨_, rfl⟩
        have HX := Aside0.mk hx
        have hwr : wrap64 (m - 1) = m - 1 := by have := HM.out; unfold wrap64; omega
        clear hx
        go_wp2_with (first | ((with_reducible refine gate_dst (N := 19) rfl ?_); (try (refine gate_guard (by rfl) ?_; dsimp only)); refine goesL_ (some 19) rfl rfl Try.func19 (by kernel_rfl) rfl #[.pointer (some ⟨g, 0, none⟩)] rfl (by (try simp only [List.map_toArray, List.map_cons, List.map_nil]); first | done | rfl | (simp only [List.length_drop, List.length_take]; rfl)) ?_; refine (sRow w0 g b' false _ HRB.out).mono ?_; rintro e w2 ⟨v2, rfl, ho, hR, hF⟩; refine ⟨_, rfl, ?_⟩; rw [HX.out] at ho; have HU := Aside0.mk (Kd.R_lower ho HF.out.size); have HNE := Aside0.mk (fun (k : Nat) (hk : v2.ownBlock = some k) => show some k ≠ (Value.slice Ao acc.length co).ownBlock from fun he => by have h1 := Kd.R_lt HO.out k he.symm; have h2 := Kd.R_base ho k hk; omega); have HO_ := Aside0.mk (R_fg HO.out hF hlt); have HF_ := Aside0.mk (show Fg g w w2 from Fr.trans HF.out hF); clear HO HF HRB ho hF; have HO := HO_; have HF := HF_; have HRB := Aside0.mk hR; clear HO_ HF_ hR; obtain ⟨A2, c2, e2⟩ := Kd.R_slice HU.out; subst e2) | ((with_reducible refine gate_dst (N := 21) rfl ?_); refine Kd.R_append (Kd.slice 2 (Kd.int .i64)) (w0 := w2) w.heap.size rfl _ _ 23 24 (.slice none 0 0) 24 rfl Try.underlying23 info24 rfl (show 0 < 1 by decide) (by decide) (.slice Ao acc.length co) acc x [.slice A2 x.length c2] (fun _ => True) (fun k => some k = (Value.slice A2 x.length c2).ownBlock) rfl rfl ⟨_, rfl, Kd.R_tight rfl HU.out⟩ (fun k hk => ⟨trivial, HNE.out k hk.symm⟩) (fun _ _ => trivial) HO.out (Below.refl _ _) HF.out.size (by omega) ?_; intro v6 w6 ho6 hb6 hg6 hn6; have HO6 := Aside0.mk ho6; have HR6 := Aside0.mk (HRB.out.step hb6 hlt (Nat.le_trans hge (Nat.le_of_lt hlt))); have HF6 := Aside0.mk (HF.out.step hb6); clear ho6 hb6 hg6 hn6 HO HRB HF HU HNE))
        go_roundg f
        case measure => omega
        case rel => exact ⟨m - 1, nextR b', rowB b' false, acc ++ [x], by first | rw [hwr] | (simp only [hwr]; done) | (rw [hwr]; simp; omega) | go_num, ⟨by have := HM.out; omega, by have := HM.out; omega ⟩, by rw [List.length_append]; simp; omega, HZN, ⟨by rw [← HX.out]; exact HLN.out.1, HLN.out.2⟩, HR6, HO6, HF6⟩
      | true =>
        have HL2 := HL.out
        rw [hf, its_end nextL rowB (by simp)] at HL2
        have HLN := Aside0.mk (show acc = L.1 ∧ (b', true) = L.2 from ⟨by rw [← HL2.1]; simp, HL2.2⟩)
        clear HL2
        go_wp2
        go_ret
        exact ⟨_, rfl, by rw [← HLN.out.1]; exact HO.out, by rw [← HLN.out.2]; exact HRB.out, HF.out⟩
    · have cmb : decide (0 < m) = false := decide_eq_false (by omega)
      have HL2 := HL.out
      rw [hf, its_end nextL rowB (fun hh => cm hh.1)] at HL2
      have HLN := Aside0.mk (show acc = L.1 ∧ (b', bad') = L.2 from ⟨by rw [← HL2.1]; simp, HL2.2⟩)
      clear HL2
      go_wp2
      go_ret
      exact ⟨_, rfl, by rw [← HLN.out.1]; exact HO.out, by rw [← HLN.out.2]; exact HRB.out, HF.out⟩

set_option maxHeartbeats 4000000 in
theorem xMany (w0 : World) (g : Nat) (b : List Int) (bad : Bool) (n : Int) (w : World) (h : RB 61 w0 w g b (!bad)) (hb : b.length ≤ 1000000000000) (hn0 : -9223372036854775808 ≤ n) (hn1 : n < 9223372036854775808) :
    Calls Try.prog 32 #[.pointer (some ⟨g, 0, none⟩), .int .i64 n] w fun e w' => ∃ v : Value, e = .returned v ∧ Kd.R (Kd.slice 2 (Kd.int .i64)) 24 w' w.heap.size (fun _ => True) v (its nextL rowB (b.length + 2) n b bad).1 ∧ RB 61 w0 w' g (its nextL rowB (b.length + 2) n b bad).2.1 (!(its nextL rowB (b.length + 2) n b bad).2.2) ∧ Fg g w w' := by
  have H := Aside0.mk h
  have hlt := h.lt
  have hge := h.ge
  have HN := Aside0.mk (And.intro hn0 hn1)
  clear h hn0 hn1
  obtain ⟨L, hL⟩ : ∃ L, (its nextL rowB (b.length + 2) n b bad) = L := ⟨_, rfl⟩
  have HL := Aside0.mk hL
  have HZ := Aside0.mk (show Fz (b.length + 2) b bad from ⟨by omega, fun _ => Nat.le_refl _⟩)
  rw [hL]
  clear hL
  go_enter Try.func32, Try.ntmps32
  go_wp2
  go_loopg [5, 6] (b.length + 2) (fun kq v5 v6 w' => ∃ (m : Int) (b' : List Int) (bad' : Bool) (acc : List (List Int)), v6 = .int .i64 (n - m) ∧ Aside0 (-9223372036854775808 ≤ m ∧ m < 9223372036854775808 ∧ n - m = (acc.length : Int)) ∧ acc.length + kq ≤ b.length + 2 ∧ Aside0 (Fz kq b' bad') ∧ Aside0 (acc ++ (its nextL rowB kq m b' bad').1 = L.1 ∧ (its nextL rowB kq m b' bad').2 = L.2) ∧ Aside0 (RB 61 w0 w' g b' (!bad')) ∧ Aside0 (Kd.R (Kd.slice 2 (Kd.int .i64)) 24 w' w.heap.size (fun _ => True) v5 acc) ∧ Aside0 (Fg g w w'))
  case atStart => exact ⟨n, b, bad, [], by first | rfl | (simp; done), ⟨HN.out.1, HN.out.2 , by simp⟩, by simp, HZ, ⟨by rw [HL.out]; rfl, by rw [HL.out]⟩, H, ⟨Kd.R_nil _ _ _ _ _⟩, ⟨Fr.refl _ _⟩⟩
  case round =>
    clear H HL HZ
    obtain ⟨m, b', bad', acc, rfl, HM, hacc, HZ, HL, HRB, HO, HF⟩ := hrel
    obtain ⟨f, hf⟩ : ∃ f, gk = f + 1 := ⟨gk - 1, by have := HZ.out.1; omega⟩
    obtain ⟨Ao, co, eo⟩ := Kd.R_slice HO.out
    subst eo
    obtain ⟨A1, c1, hG, _⟩ := HRB.out.blk
    obtain ⟨z0, z1, zf0, zf1⟩ := cells2 hG
    clear hG
    by_cases cm : 0 < m
    · have cmb : decide (n - m < n) = true := decide_eq_true (by omega)
      cases bad' with
      | false =>
        have HL2 := HL.out
        rw [hf, its_go nextL rowB cm rfl] at HL2
        have HLN := Aside0.mk (show (acc ++ [nextL b']) ++ (its nextL rowB f (m - 1) (nextR b') (rowB b' false)).1 = L.1 ∧ (its nextL rowB f (m - 1) (nextR b') (rowB b' false)).2 = L.2 from ⟨by rw [← HL2.1, List.append_assoc]; rfl, HL2.2⟩)
        have HZN := Aside0.mk (Fz.step (bad' := rowB b' false) (by rw [← hf]; exact HZ.out) rfl rowB_ok)
        clear HL2 HL HZ
        obtain ⟨x, hx⟩ : ∃ x, nextL b' = x := ⟨_, rfl⟩
        have HX := Aside0.mk hx
        have hwr : wrap64 (n - m + 1) = n - (m - 1) := by have := HM.out; unfold wrap64; omega
        clear hx
        go_wp2_with (first | ((with_reducible refine gate_dst (N := 20) rfl ?_); (try (refine gate_guard (by rfl) ?_; dsimp only)); refine goesL_ (some 20) rfl rfl Try.func33 (by kernel_rfl) rfl #[.pointer (some ⟨g, 0, none⟩)] rfl (by (try simp only [List.map_toArray, List.map_cons, List.map_nil]); first | done | rfl | (simp only [List.length_drop, List.length_take]; rfl)) ?_; refine (xRow w0 g b' false _ HRB.out).mono ?_; rintro e w2 ⟨v2, rfl, ho, hR, hF⟩; refine ⟨_, rfl, ?_⟩; rw [HX.out] at ho; have HU := Aside0.mk (Kd.R_lower ho HF.out.size); have HNE := Aside0.mk (fun (k : Nat) (hk : v2.ownBlock = some k) => show some k ≠ (Value.slice Ao acc.length co).ownBlock from fun he => by have h1 := Kd.R_lt HO.out k he.symm; have h2 := Kd.R_base ho k hk; omega); have HO_ := Aside0.mk (R_fg HO.out hF hlt); have HF_ := Aside0.mk (show Fg g w w2 from Fr.trans HF.out hF); clear HO HF HRB ho hF; have HO := HO_; have HF := HF_; have HRB := Aside0.mk hR; clear HO_ HF_ hR; obtain ⟨A2, c2, e2⟩ := Kd.R_slice HU.out; subst e2) | ((with_reducible refine gate_dst (N := 22) rfl ?_); refine Kd.R_append (Kd.slice 2 (Kd.int .i64)) (w0 := w2) w.heap.size rfl _ _ 23 24 (.slice none 0 0) 24 rfl Try.underlying23 info24 rfl (show 0 < 1 by decide) (by decide) (.slice Ao acc.length co) acc x [.slice A2 x.length c2] (fun _ => True) (fun k => some k = (Value.slice A2 x.length c2).ownBlock) rfl rfl ⟨_, rfl, Kd.R_tight rfl HU.out⟩ (fun k hk => ⟨trivial, HNE.out k hk.symm⟩) (fun _ _ => trivial) HO.out (Below.refl _ _) HF.out.size (by omega) ?_; intro v6 w6 ho6 hb6 hg6 hn6; have HO6 := Aside0.mk ho6; have HR6 := Aside0.mk (HRB.out.step hb6 hlt (Nat.le_trans hge (Nat.le_of_lt hlt))); have HF6 := Aside0.mk (HF.out.step hb6); clear ho6 hb6 hg6 hn6 HO HRB HF HU HNE))
        go_roundg f
        case measure => omega
        case rel => exact ⟨m - 1, nextR b', rowB b' false, acc ++ [x], by first | rw [hwr] | (simp only [hwr]; done) | (rw [hwr]; simp; omega) | go_num, ⟨by have := HM.out; omega, by have := HM.out; omega , by have := HM.out; rw [List.length_append]; simp; omega⟩, by rw [List.length_append]; simp; omega, HZN, ⟨by rw [← HX.out]; exact HLN.out.1, HLN.out.2⟩, HR6, HO6, HF6⟩
      | true =>
        have HL2 := HL.out
        rw [hf, its_end nextL rowB (by simp)] at HL2
        have HLN := Aside0.mk (show acc = L.1 ∧ (b', true) = L.2 from ⟨by rw [← HL2.1]; simp, HL2.2⟩)
        clear HL2
        go_wp2
        go_ret
        exact ⟨_, rfl, by rw [← HLN.out.1]; exact HO.out, by rw [← HLN.out.2]; exact HRB.out, HF.out⟩
    · have cmb : decide (n - m < n) = false := decide_eq_false (by omega)
      have HL2 := HL.out
      rw [hf, its_end nextL rowB (fun hh => cm hh.1)] at HL2
      have HLN := Aside0.mk (show acc = L.1 ∧ (b', bad') = L.2 from ⟨by rw [← HL2.1]; simp, HL2.2⟩)
      clear HL2
      go_wp2
      go_ret
      exact ⟨_, rfl, by rw [← HLN.out.1]; exact HO.out, by rw [← HLN.out.2]; exact HRB.out, HF.out⟩
end Go.Proofs.Ytpcfceodbemooaa.B
