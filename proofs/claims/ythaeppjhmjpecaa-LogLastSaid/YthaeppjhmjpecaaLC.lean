/- A log on a deck that may crash: what is held behind each operation and behind a crash; plain laws. -/
import Derived.Test.YthaeppjhmjpecaaLM3
namespace Go.Proofs.Ythaeppjhmjpecaa.B
open Go.RowKit Go.Proofs.YthaeppjhmjpecaaW.PrintWords Go.Proofs.YthaeppjhmjpecaaW.PrintLast Go.Proofs.YthaeppjhmjpecaaW.PrintMore
set_option linter.unusedVariables false
set_option linter.unusedSimpArgs false
theorem k0_syn {D : Dk} (h : D.s0 = D.b0.length) : D.k0 = 0 := by unfold Dk.k0; omega
theorem k1_syn {D : Dk} (h : D.s1 = D.b1.length) : D.k1 = 0 := by unfold Dk.k1; omega
theorem crash_restart (D : Dk) : D.crash.restart = ⟨D.room, D.b0.take (D.s0 + D.k0), D.s0 + D.k0, D.b1.take (D.s1 + D.k1), D.s1 + D.k1, D.cat, D.keep, false, false, 0⟩ := by
  show Dk.mk _ _ _ _ _ _ _ _ _ _ = _
  simp only [Dk.crash, List.take_take, Nat.min_self]
/-- What a deck of synced bytes holds: a side, its generation, snapshot, rows; the other side holds less. -/
structure Lk (R : Int) (D : Dk) (side g : Int) (s : List Int) (rows : List (List Int)) : Prop where
  room : D.room = R
  down : D.down = false
  s0 : D.s0 = D.b0.length
  s1 : D.s1 = D.b1.length
  ib : D.IB
  l0 : (D.b0.length : Int) ≤ R
  l1 : (D.b1.length : Int) ≤ R
  gb : 1 ≤ g ∧ g ≤ 4611686018427387904
  main : (side = 0 ∧ heldG D.b0 = g ∧ heldS D.b0 = s ∧ heldR D.b0 = rows ∧ heldG D.b1 < g) ∨ (side = 1 ∧ heldG D.b1 = g ∧ heldS D.b1 = s ∧ heldR D.b1 = rows ∧ heldG D.b0 < g)
theorem Lk.look {R : Int} {D : Dk} {side g : Int} {s : List Int} {rows : List (List Int)} (h : Lk R D side g s rows) : lkG D = g ∧ lkS D = side ∧ heldS (lkB D) = s ∧ heldR (lkB D) = rows := by
  rcases h.main with ⟨h1, h2, h3, h4, h5⟩ | ⟨h1, h2, h3, h4, h5⟩
  · obtain ⟨l1, l2, l3⟩ := lk_zero (D := D) (by omega)
    rw [l3, l1, l2]; exact ⟨h2, h1.symm, h3, h4⟩
  · obtain ⟨l1, l2, l3⟩ := lk_one (D := D) (by omega)
    rw [l3, l1, l2]; exact ⟨h2, h1.symm, h3, h4⟩
theorem Lk.side01 {R : Int} {D : Dk} {side g : Int} {s : List Int} {rows : List (List Int)} (h : Lk R D side g s rows) : side = 0 ∨ side = 1 := by
  rcases h.main with ⟨h1, _⟩ | ⟨h1, _⟩
  · exact .inl h1
  · exact .inr h1
/-- Nothing of the bytes has changed: what is held has not. -/
theorem Lk.same {R : Int} {D D' : Dk} {side g : Int} {s : List Int} {rows : List (List Int)} (h : Lk R D side g s rows) (h1 : D'.room = D.room) (h2 : D'.down = false) (h3 : D'.b0 = D.b0) (h4 : D'.s0 = D.s0) (h5 : D'.b1 = D.b1) (h6 : D'.s1 = D.s1) : Lk R D' side g s rows :=
  ⟨h1.trans h.room, h2, by rw [h3, h4]; exact h.s0, by rw [h5, h6]; exact h.s1, by unfold Dk.IB; rw [h3, h5]; exact h.ib, by rw [h3]; exact h.l0, by rw [h5]; exact h.l1, h.gb, by rw [h3, h5]; exact h.main⟩
/-- A crash where all is synced takes nothing. -/
theorem Lk.crash {R : Int} {D : Dk} {side g : Int} {s : List Int} {rows : List (List Int)} (h : Lk R D side g s rows) : Lk R D.crash.restart side g s rows := by
  rw [crash_restart]
  refine h.same rfl rfl ?_ ?_ ?_ ?_
  · show D.b0.take (D.s0 + D.k0) = D.b0; rw [k0_syn h.s0, h.s0]; exact List.take_length
  · show D.s0 + D.k0 = D.s0; rw [k0_syn h.s0]; rfl
  · show D.b1.take (D.s1 + D.k1) = D.b1; rw [k1_syn h.s1, h.s1]; exact List.take_length
  · show D.s1 + D.k1 = D.s1; rw [k1_syn h.s1]; rfl
theorem scan_part {g : Int} {s : List Int} {rows : List (List Int)} (h : Fit s rows) {row : List Int} (hr : row.length ≤ 60000) (k : Nat) (hk : k < 2 + row.length) : (scan ((lf g s rows ++ recp row).take ((lf g s rows).length + k))).1 = (puts [g] ++ s) :: rows := by
  have hl := recp_length hr
  have e1 : recs (((puts [g] ++ s) :: rows) ++ [row]) = lf g s rows ++ recp row := by rw [← lf_snoc, lf_recs]; rfl
  have e2 : (((puts [g] ++ s) :: rows) ++ [row]).take (rows.length + 1) = (puts [g] ++ s) :: rows := List.take_left' (by simp)
  have e3 : (((puts [g] ++ s) :: rows) ++ [row]).take (rows.length + 1 + 1) = ((puts [g] ++ s) :: rows) ++ [row] := List.take_of_length_le (by simp)
  have := scan_cut (((puts [g] ++ s) :: rows) ++ [row]) (fun r hr' => by
    rcases List.mem_append.1 hr' with hr' | hr'
    · exact fit_all h r hr'
    · rw [List.mem_singleton.1 hr']; exact hr) (rows.length + 1) ((lf g s rows).length + k) (by simp) (by rw [e1, List.length_append, hl]; omega) (by rw [e2, ← lf_recs]; omega) (fun _ => by rw [e3, e1, List.length_append, hl]; omega)
  rw [e1, e2] at this
  rw [this]
theorem held_part {g : Int} {s : List Int} {rows : List (List Int)} (h : Fit s rows) (hg : 1 ≤ g ∧ g ≤ 4611686018427387904) {row : List Int} (hr : row.length ≤ 60000) (k : Nat) (hk : k ≤ 2 + row.length) :
    heldG ((lf g s rows ++ recp row).take ((lf g s rows).length + k)) = g ∧ heldS ((lf g s rows ++ recp row).take ((lf g s rows).length + k)) = s ∧ (heldR ((lf g s rows ++ recp row).take ((lf g s rows).length + k)) = rows ∨ heldR ((lf g s rows ++ recp row).take ((lf g s rows).length + k)) = rows ++ [row]) := by
  by_cases hk' : k < 2 + row.length
  · obtain ⟨h1, h2, h3⟩ := heldG_of (scan_part h hr k hk') hg
    exact ⟨h1, h2, .inl h3⟩
  · have e : (lf g s rows ++ recp row).take ((lf g s rows).length + k) = lf g s (rows ++ [row]) := by
      rw [lf_snoc]; exact List.take_of_length_le (by rw [List.length_append, recp_length hr]; omega)
    have hfit : Fit s (rows ++ [row]) := ⟨h.1, fun r hr' => by
      rcases List.mem_append.1 hr' with hr' | hr'
      · exact h.2 r hr'
      · rw [List.mem_singleton.1 hr']; exact hr⟩
    obtain ⟨h1, h2, h3⟩ := heldG_lf hfit hg
    rw [e]
    exact ⟨h1, h2, .inr h3⟩
theorem Fit.snoc {s : List Int} {rows : List (List Int)} (h : Fit s rows) {row : List Int} (hr : row.length ≤ 60000) : Fit s (rows ++ [row]) := ⟨h.1, fun r hr' => by
  rcases List.mem_append.1 hr' with hr' | hr'
  · exact h.2 r hr'
  · rw [List.mem_singleton.1 hr']; exact hr⟩
theorem svB_part {g : Int} {s : List Int} (h : 8 + s.length ≤ 60000) (k : Nat) (hk : k < 10 + s.length) : heldG ((svB g s).take k) = 0 := by
  have hl := svB_length (gen := g) h
  have e1 : recs [puts [g] ++ s] = svB g s := by rw [recs_cons]; show recp _ ++ [] = _; rw [List.append_nil]; rfl
  have := scan_cut [puts [g] ++ s] (fun r hr => by rw [List.mem_singleton.1 hr, List.length_append]; exact h) 0 k (Nat.zero_le _) (by rw [e1]; omega) (Nat.zero_le _) (fun _ => by show k < (recs [puts [g] ++ s]).length; rw [e1]; omega)
  rw [e1] at this
  unfold heldG
  rw [this]
  rfl
/-- Adding a row on side 0: it is there; or it crashed, and is there or is not. -/
theorem add_cases0 {R : Int} {D : Dk} {g n : Int} {s : List Int} {rows : List (List Int)} {row : List Int} (h : Lk R D 0 g s rows) (he : D.b0 = lf g s rows) (hf : Fit s rows) (hr : row.length ≤ 60000) (hrb : IsB row) (hfit : (D.b0.length : Int) + (2 + row.length) ≤ R) :
    (adE D ⟨0, g, n, false⟩ row = 0 ∧ Lk R (adD D ⟨0, g, n, false⟩ row) 0 g s (rows ++ [row]) ∧ (adD D ⟨0, g, n, false⟩ row).b0 = lf g s (rows ++ [row]) ∧ (adD D ⟨0, g, n, false⟩ row).armed = D.armed ∧ adL D ⟨0, g, n, false⟩ row = ⟨0, g, n + 1, false⟩) ∨
    (D.armed = true ∧ adE D ⟨0, g, n, false⟩ row = 11 ∧ adL D ⟨0, g, n, false⟩ row = ⟨0, g, n, false⟩ ∧ (Lk R (adD D ⟨0, g, n, false⟩ row).restart 0 g s rows ∨ Lk R (adD D ⟨0, g, n, false⟩ row).restart 0 g s (rows ++ [row]))) := by
  have hok : adOk ⟨0, g, n, false⟩ row = true := by unfold adOk recok; rw [decide_eq_true hr]; rfl
  have hl := recp_length hr
  have hmain : heldG D.b1 < g := by
    rcases h.main with ⟨h1, _, _, _, h5⟩ | ⟨h1, _, _, _, h5⟩
    · exact h5
    · exact absurd h1 (by decide)
  have hroom : ¬ D.room - D.len 0 < ((recp row).length : Int) := by
    show ¬ D.room - (if (0 : Int) = 0 then (D.b0.length : Int) else D.b1.length) < _
    rw [if_pos rfl, hl, h.room]; omega
  cases hh : D.hit with
  | true =>
    have ha : D.armed = true := by unfold Dk.hit at hh; cases hx : D.armed <;> simp [hx] at hh ⊢
    obtain ⟨a1, a2⟩ := app_hit (side := 0) (l := recp row) h.down (by decide) hroom hh
    obtain ⟨f1, f2, f3⟩ := ad_app (D := D) (L := ⟨0, g, n, false⟩) (row := row) (e := 11) hok a1 (by decide) (by decide)
    exact .inr ⟨ha, f1, f3, .inl (by rw [f2]; show Lk R (D.app 0 (recp row)).restart 0 g s rows; rw [a2]; exact h.crash)⟩
  | false =>
    obtain ⟨a1, a2⟩ := app_ok0 (l := recp row) h.down hroom hh
    obtain ⟨f1, f2, f3⟩ := ad_sync (D := D) (L := ⟨0, g, n, false⟩) (row := row) hok a1
    have e1 : D.app 0 (recp row) = ⟨R, D.b0 ++ recp row, D.b0.length, D.b1, D.b1.length, D.cat, D.keep, D.armed, false, D.ops + 1⟩ := by
      rw [a2]
      show Dk.mk _ _ _ _ _ _ _ _ _ _ = _
      simp only [Dk.tick, h.room, h.down, h.s0, h.s1]
    have f2' : adD D ⟨0, g, n, false⟩ row = (D.app 0 (recp row)).sync := f2
    have f1' : adE D ⟨0, g, n, false⟩ row = (D.app 0 (recp row)).syncE := f1
    have hlm : (D.b0 ++ recp row).length = D.b0.length + (2 + row.length) := by rw [List.length_append, hl]
    cases hh2 : (D.app 0 (recp row)).hit with
    | true =>
      have ha : D.armed = true := by rw [e1] at hh2; unfold Dk.hit at hh2; cases hx : D.armed <;> simp [hx] at hh2 ⊢
      obtain ⟨b1, b2⟩ := sync_hit (D := D.app 0 (recp row)) (by rw [e1]) hh2
      have ee : adE D ⟨0, g, n, false⟩ row = 11 := by rw [f1', b1]
      refine .inr ⟨ha, ee, if_neg (by rw [ee]; decide), ?_⟩
      rw [f2', b2]
      have hk := Dk.k0_le (D.app 0 (recp row)) (by rw [e1]; show D.b0.length ≤ (D.b0 ++ recp row).length; omega)
      obtain ⟨k, ek⟩ : ∃ k, (D.app 0 (recp row)).k0 = k := ⟨_, rfl⟩
      have ko : (D.app 0 (recp row)).k1 = 0 := k1_syn (by rw [e1])
      rw [ek] at hk
      have hk2 : k ≤ 2 + row.length := by
        have h1 : (D.app 0 (recp row)).s0 + k ≤ (D.app 0 (recp row)).b0.length := hk
        rw [e1] at h1
        have h2 : D.b0.length + k ≤ (D.b0 ++ recp row).length := h1
        omega
      have er : (D.app 0 (recp row)).crash.restart = ⟨R, (D.b0 ++ recp row).take (D.b0.length + k), D.b0.length + k, D.b1, D.b1.length, D.cat, D.keep, false, false, 0⟩ := by
        rw [crash_restart, ek, ko, e1]
        show Dk.mk _ _ _ _ _ _ _ _ _ _ = _
        simp only [Nat.add_zero, List.take_length]
      rw [er]
      have hlt : ((D.b0 ++ recp row).take (D.b0.length + k)).length = D.b0.length + k := by rw [List.length_take]; omega
      obtain ⟨p1, p2, p3⟩ := held_part hf h.gb hr k hk2
      rw [← he] at p1 p2 p3
      have hib : Dk.IB ⟨R, (D.b0 ++ recp row).take (D.b0.length + k), D.b0.length + k, D.b1, D.b1.length, D.cat, D.keep, false, false, 0⟩ := ⟨(h.ib.1.append (recp_bytes hrb)).take _, h.ib.2⟩
      have hlm2 : (((D.b0 ++ recp row).take (D.b0.length + k)).length : Int) ≤ R := by rw [hlt]; omega
      rcases p3 with p3 | p3
      · exact .inl ⟨rfl, rfl, hlt.symm, rfl, hib, hlm2, h.l1, h.gb, .inl ⟨rfl, p1, p2, p3, hmain⟩⟩
      · exact .inr ⟨rfl, rfl, hlt.symm, rfl, hib, hlm2, h.l1, h.gb, .inl ⟨rfl, p1, p2, p3, hmain⟩⟩
    | false =>
      obtain ⟨b1, b2⟩ := sync_ok (D := D.app 0 (recp row)) (by rw [e1]) hh2
      have ee : adE D ⟨0, g, n, false⟩ row = 0 := by rw [f1', b1]
      have er : adD D ⟨0, g, n, false⟩ row = ⟨R, D.b0 ++ recp row, (D.b0 ++ recp row).length, D.b1, D.b1.length, D.cat, D.keep, D.armed, false, D.ops + 1 + 1⟩ := by
        rw [f2', b2, e1]
        rfl
      obtain ⟨q1, q2, q3⟩ := heldG_lf (hf.snoc hr) h.gb
      have eb : D.b0 ++ recp row = lf g s (rows ++ [row]) := by rw [he, lf_snoc]
      refine .inl ⟨ee, ?_, ?_, ?_, if_pos ee⟩
      · rw [er]
        exact ⟨rfl, rfl, rfl, rfl, ⟨h.ib.1.append (recp_bytes hrb), h.ib.2⟩, (show ((D.b0 ++ recp row).length : Int) ≤ R by omega), h.l1, h.gb, .inl ⟨rfl, by rw [← eb] at q1; exact q1, by rw [← eb] at q2; exact q2, by rw [← eb] at q3; exact q3, hmain⟩⟩
      · rw [er]; exact eb
      · rw [er]
/-- Saving from side 0: the snapshot is there on the other side; or it crashed, and is there or is not. -/
theorem save_cases0 {R : Int} {D : Dk} {g n : Int} {st : Bool} {s snap : List Int} {rows : List (List Int)} (h : Lk R D 0 g s rows) (hs : 8 + snap.length ≤ 60000) (hsb : IsB snap) (hfit : (10 : Int) + snap.length ≤ R) (hg : g < 4611686018427387904) :
    (svE D (1 - 0) (g + 1) snap = 0 ∧ Lk R (svD D (1 - 0) (g + 1) snap) (1 - 0) (g + 1) snap [] ∧ (svD D (1 - 0) (g + 1) snap).b1 = lf (g + 1) snap [] ∧ (svD D (1 - 0) (g + 1) snap).armed = D.armed ∧ saL D ⟨0, g, n, st⟩ snap = ⟨1 - 0, g + 1, 0, false⟩) ∨
    (D.armed = true ∧ svE D (1 - 0) (g + 1) snap = 11 ∧ saL D ⟨0, g, n, st⟩ snap = ⟨0, g, n, st⟩ ∧ (Lk R (svD D (1 - 0) (g + 1) snap).restart 0 g s rows ∨ Lk R (svD D (1 - 0) (g + 1) snap).restart (1 - 0) (g + 1) snap [])) := by
  have e0 : (1 : Int) - 0 = 1 := by decide
  have hsv : saL D ⟨0, g, n, st⟩ snap = if svE D 1 (g + 1) snap = 0 then ⟨1 - 0, g + 1, 0, false⟩ else ⟨0, g, n, st⟩ := by
    show (if svE D (1 - 0) (g + 1) snap = 0 then _ else _) = _
    rw [e0]
  rw [hsv]
  simp only [e0]
  obtain ⟨hm1, hm2, hm3, hm4, hm5⟩ : heldG D.b0 = g ∧ heldS D.b0 = s ∧ heldR D.b0 = rows ∧ heldG D.b1 < g ∧ True := by
    rcases h.main with ⟨h1, h2, h3, h4, h5⟩ | ⟨h1, h2, h3, h4, h5⟩
    · exact ⟨h2, h3, h4, h5, trivial⟩
    · exact absurd h1 (by decide)
  have hok : svOk D (g + 1) snap = true := svOk_yes hs (by omega) (by rw [h.room]; omega)
  have hl := svB_length (gen := g + 1) hs
  have gb' : 1 ≤ g + 1 ∧ g + 1 ≤ 4611686018427387904 := ⟨by have := h.gb; omega, by omega⟩
  cases hh : D.hit with
  | true =>
    have ha : D.armed = true := by unfold Dk.hit at hh; cases hx : D.armed <;> simp [hx] at hh ⊢
    obtain ⟨a1, a2⟩ := wipe_hit (side := 1) h.down (by decide) hh
    obtain ⟨f1, f2⟩ := sv_wipe (gen := g + 1) (snap := snap) (side := 1) hok (by rw [a1]; decide)
    have ee : svE D 1 (g + 1) snap = 11 := by rw [f1, a1]
    refine .inr ⟨ha, ee, if_neg (by rw [ee]; decide), .inl ?_⟩
    rw [f2, a2]
    exact h.crash
  | false =>
    obtain ⟨a1, a2⟩ := wipe_ok1 h.down hh
    have e1 : D.wipe 1 = ⟨R, D.b0, D.b0.length, [], 0, D.cat, D.keep, D.armed, false, D.ops + 1⟩ := by
      rw [a2]
      show Dk.mk _ _ _ _ _ _ _ _ _ _ = _
      simp only [Dk.tick, h.room, h.down, h.s0, h.s1]
    have hroom : ¬ (D.wipe 1).room - (D.wipe 1).len 1 < ((svB (g + 1) snap).length : Int) := by
      rw [e1]
      show ¬ R - (if (1 : Int) = 0 then ((_ : List Int).length : Int) else (_ : List Int).length) < _
      rw [if_neg (by decide)]
      show ¬ R - ((0 : Nat) : Int) < _
      omega
    have hempty : Lk R (D.wipe 1) 0 g s rows := by
      rw [e1]
      exact ⟨rfl, rfl, rfl, rfl, ⟨h.ib.1, IsB.nil⟩, h.l0, (show ((0 : Nat) : Int) ≤ R by omega), h.gb, .inl ⟨rfl, hm1, hm2, hm3, by show heldG [] < g; rw [heldG_nil]; have := h.gb; omega⟩⟩
    cases hh2 : (D.wipe 1).hit with
    | true =>
      have ha : D.armed = true := by rw [e1] at hh2; unfold Dk.hit at hh2; cases hx : D.armed <;> simp [hx] at hh2 ⊢
      obtain ⟨b1, b2⟩ := app_hit (D := D.wipe 1) (side := 1) (l := svB (g + 1) snap) hempty.down (by decide) hroom hh2
      obtain ⟨f1, f2⟩ := sv_app (side := 1) hok a1 (by rw [b1]; decide)
      have ee : svE D 1 (g + 1) snap = 11 := by rw [f1, b1]
      refine .inr ⟨ha, ee, if_neg (by rw [ee]; decide), .inl ?_⟩
      rw [f2, b2]
      exact hempty.crash
    | false =>
      obtain ⟨b1, b2⟩ := app_ok1 (D := D.wipe 1) (l := svB (g + 1) snap) hempty.down hroom hh2
      obtain ⟨f1, f2⟩ := sv_sync (side := 1) hok a1 b1
      have e2 : (D.wipe 1).app 1 (svB (g + 1) snap) = ⟨R, D.b0, D.b0.length, svB (g + 1) snap, 0, D.cat, D.keep, D.armed, false, D.ops + 1 + 1⟩ := by
        rw [b2, e1]
        rfl
      cases hh3 : ((D.wipe 1).app 1 (svB (g + 1) snap)).hit with
      | true =>
        have ha : D.armed = true := by rw [e2] at hh3; unfold Dk.hit at hh3; cases hx : D.armed <;> simp [hx] at hh3 ⊢
        obtain ⟨c1, c2⟩ := sync_hit (D := (D.wipe 1).app 1 (svB (g + 1) snap)) (by rw [e2]) hh3
        have ee : svE D 1 (g + 1) snap = 11 := by rw [f1, c1]
        refine .inr ⟨ha, ee, if_neg (by rw [ee]; decide), ?_⟩
        rw [f2, c2]
        have hk := Dk.k1_le ((D.wipe 1).app 1 (svB (g + 1) snap)) (by rw [e2]; exact Nat.zero_le _)
        obtain ⟨k, ek⟩ : ∃ k, ((D.wipe 1).app 1 (svB (g + 1) snap)).k1 = k := ⟨_, rfl⟩
        have km : ((D.wipe 1).app 1 (svB (g + 1) snap)).k0 = 0 := k0_syn (by rw [e2])
        rw [ek] at hk
        have hk2 : k ≤ 10 + snap.length := by
          have h1 : ((D.wipe 1).app 1 (svB (g + 1) snap)).s1 + k ≤ ((D.wipe 1).app 1 (svB (g + 1) snap)).b1.length := hk
          rw [e2] at h1
          have h2 : 0 + k ≤ (svB (g + 1) snap).length := h1
          omega
        have er : ((D.wipe 1).app 1 (svB (g + 1) snap)).crash.restart = ⟨R, D.b0, D.b0.length, (svB (g + 1) snap).take k, k, D.cat, D.keep, false, false, 0⟩ := by
          rw [crash_restart, ek, km, e2]
          show Dk.mk _ _ _ _ _ _ _ _ _ _ = _
          simp only [Nat.add_zero, Nat.zero_add, List.take_length]
        rw [er]
        have hlt : ((svB (g + 1) snap).take k).length = k := by rw [List.length_take]; omega
        have hlo : (((svB (g + 1) snap).take k).length : Int) ≤ R := by rw [hlt]; omega
        have hib : Dk.IB ⟨R, D.b0, D.b0.length, (svB (g + 1) snap).take k, k, D.cat, D.keep, false, false, 0⟩ := ⟨h.ib.1, (svB_bytes hsb).take k⟩
        by_cases hk3 : k < 10 + snap.length
        · exact .inl ⟨rfl, rfl, rfl, hlt.symm, hib, h.l0, hlo, h.gb, .inl ⟨rfl, hm1, hm2, hm3, by show heldG ((svB (g + 1) snap).take k) < g; rw [svB_part hs k hk3]; have := h.gb; omega⟩⟩
        · have ef : (svB (g + 1) snap).take k = lf (g + 1) snap [] := by rw [lf_nil]; exact List.take_of_length_le (by omega)
          obtain ⟨q1, q2, q3⟩ := heldG_lf (s := snap) (rows := []) ⟨hs, fun r hr => by cases hr⟩ gb'
          rw [← ef] at q1 q2 q3
          exact .inr ⟨rfl, rfl, rfl, hlt.symm, hib, h.l0, hlo, gb', .inr ⟨rfl, q1, q2, q3, by show heldG D.b0 < g + 1; rw [hm1]; omega⟩⟩
      | false =>
        obtain ⟨c1, c2⟩ := sync_ok (D := (D.wipe 1).app 1 (svB (g + 1) snap)) (by rw [e2]) hh3
        have ee : svE D 1 (g + 1) snap = 0 := by rw [f1, c1]
        have er : svD D 1 (g + 1) snap = ⟨R, D.b0, D.b0.length, svB (g + 1) snap, (svB (g + 1) snap).length, D.cat, D.keep, D.armed, false, D.ops + 1 + 1 + 1⟩ := by
          rw [f2, c2, e2]
          rfl
        obtain ⟨q1, q2, q3⟩ := heldG_lf (s := snap) (rows := []) ⟨hs, fun r hr => by cases hr⟩ gb'
        have ef : svB (g + 1) snap = lf (g + 1) snap [] := (lf_nil _ _).symm
        rw [← ef] at q1 q2 q3
        have hlo : ((svB (g + 1) snap).length : Int) ≤ R := by omega
        refine .inl ⟨ee, ?_, ?_, ?_, if_pos ee⟩
        · rw [er]
          exact ⟨rfl, rfl, rfl, rfl, ⟨h.ib.1, svB_bytes hsb⟩, h.l0, hlo, gb', .inr ⟨rfl, q1, q2, q3, by show heldG D.b0 < g + 1; rw [hm1]; omega⟩⟩
        · rw [er]; exact ef
        · rw [er]
/-- Adding a row on side 1: it is there; or it crashed, and is there or is not. -/
theorem add_cases1 {R : Int} {D : Dk} {g n : Int} {s : List Int} {rows : List (List Int)} {row : List Int} (h : Lk R D 1 g s rows) (he : D.b1 = lf g s rows) (hf : Fit s rows) (hr : row.length ≤ 60000) (hrb : IsB row) (hfit : (D.b1.length : Int) + (2 + row.length) ≤ R) :
    (adE D ⟨1, g, n, false⟩ row = 0 ∧ Lk R (adD D ⟨1, g, n, false⟩ row) 1 g s (rows ++ [row]) ∧ (adD D ⟨1, g, n, false⟩ row).b1 = lf g s (rows ++ [row]) ∧ (adD D ⟨1, g, n, false⟩ row).armed = D.armed ∧ adL D ⟨1, g, n, false⟩ row = ⟨1, g, n + 1, false⟩) ∨
    (D.armed = true ∧ adE D ⟨1, g, n, false⟩ row = 11 ∧ adL D ⟨1, g, n, false⟩ row = ⟨1, g, n, false⟩ ∧ (Lk R (adD D ⟨1, g, n, false⟩ row).restart 1 g s rows ∨ Lk R (adD D ⟨1, g, n, false⟩ row).restart 1 g s (rows ++ [row]))) := by
  have hok : adOk ⟨1, g, n, false⟩ row = true := by unfold adOk recok; rw [decide_eq_true hr]; rfl
  have hl := recp_length hr
  have hmain : heldG D.b0 < g := by
    rcases h.main with ⟨h1, _, _, _, h5⟩ | ⟨h1, _, _, _, h5⟩
    · exact absurd h1 (by decide)
    · exact h5
  have hroom : ¬ D.room - D.len 1 < ((recp row).length : Int) := by
    show ¬ D.room - (if (1 : Int) = 0 then (D.b0.length : Int) else D.b1.length) < _
    rw [if_neg (by decide), hl, h.room]; omega
  cases hh : D.hit with
  | true =>
    have ha : D.armed = true := by unfold Dk.hit at hh; cases hx : D.armed <;> simp [hx] at hh ⊢
    obtain ⟨a1, a2⟩ := app_hit (side := 1) (l := recp row) h.down (by decide) hroom hh
    obtain ⟨f1, f2, f3⟩ := ad_app (D := D) (L := ⟨1, g, n, false⟩) (row := row) (e := 11) hok a1 (by decide) (by decide)
    exact .inr ⟨ha, f1, f3, .inl (by rw [f2]; show Lk R (D.app 1 (recp row)).restart 1 g s rows; rw [a2]; exact h.crash)⟩
  | false =>
    obtain ⟨a1, a2⟩ := app_ok1 (l := recp row) h.down hroom hh
    obtain ⟨f1, f2, f3⟩ := ad_sync (D := D) (L := ⟨1, g, n, false⟩) (row := row) hok a1
    have e1 : D.app 1 (recp row) = ⟨R, D.b0, D.b0.length, D.b1 ++ recp row, D.b1.length, D.cat, D.keep, D.armed, false, D.ops + 1⟩ := by
      rw [a2]
      show Dk.mk _ _ _ _ _ _ _ _ _ _ = _
      simp only [Dk.tick, h.room, h.down, h.s0, h.s1]
    have f2' : adD D ⟨1, g, n, false⟩ row = (D.app 1 (recp row)).sync := f2
    have f1' : adE D ⟨1, g, n, false⟩ row = (D.app 1 (recp row)).syncE := f1
    have hlm : (D.b1 ++ recp row).length = D.b1.length + (2 + row.length) := by rw [List.length_append, hl]
    cases hh2 : (D.app 1 (recp row)).hit with
    | true =>
      have ha : D.armed = true := by rw [e1] at hh2; unfold Dk.hit at hh2; cases hx : D.armed <;> simp [hx] at hh2 ⊢
      obtain ⟨b1, b2⟩ := sync_hit (D := D.app 1 (recp row)) (by rw [e1]) hh2
      have ee : adE D ⟨1, g, n, false⟩ row = 11 := by rw [f1', b1]
      refine .inr ⟨ha, ee, if_neg (by rw [ee]; decide), ?_⟩
      rw [f2', b2]
      have hk := Dk.k1_le (D.app 1 (recp row)) (by rw [e1]; show D.b1.length ≤ (D.b1 ++ recp row).length; omega)
      obtain ⟨k, ek⟩ : ∃ k, (D.app 1 (recp row)).k1 = k := ⟨_, rfl⟩
      have ko : (D.app 1 (recp row)).k0 = 0 := k0_syn (by rw [e1])
      rw [ek] at hk
      have hk2 : k ≤ 2 + row.length := by
        have h1 : (D.app 1 (recp row)).s1 + k ≤ (D.app 1 (recp row)).b1.length := hk
        rw [e1] at h1
        have h2 : D.b1.length + k ≤ (D.b1 ++ recp row).length := h1
        omega
      have er : (D.app 1 (recp row)).crash.restart = ⟨R, D.b0, D.b0.length, (D.b1 ++ recp row).take (D.b1.length + k), D.b1.length + k, D.cat, D.keep, false, false, 0⟩ := by
        rw [crash_restart, ek, ko, e1]
        show Dk.mk _ _ _ _ _ _ _ _ _ _ = _
        simp only [Nat.add_zero, List.take_length]
      rw [er]
      have hlt : ((D.b1 ++ recp row).take (D.b1.length + k)).length = D.b1.length + k := by rw [List.length_take]; omega
      obtain ⟨p1, p2, p3⟩ := held_part hf h.gb hr k hk2
      rw [← he] at p1 p2 p3
      have hib : Dk.IB ⟨R, D.b0, D.b0.length, (D.b1 ++ recp row).take (D.b1.length + k), D.b1.length + k, D.cat, D.keep, false, false, 0⟩ := ⟨h.ib.1, (h.ib.2.append (recp_bytes hrb)).take _⟩
      have hlm2 : (((D.b1 ++ recp row).take (D.b1.length + k)).length : Int) ≤ R := by rw [hlt]; omega
      rcases p3 with p3 | p3
      · exact .inl ⟨rfl, rfl, rfl, hlt.symm, hib, h.l0, hlm2, h.gb, .inr ⟨rfl, p1, p2, p3, hmain⟩⟩
      · exact .inr ⟨rfl, rfl, rfl, hlt.symm, hib, h.l0, hlm2, h.gb, .inr ⟨rfl, p1, p2, p3, hmain⟩⟩
    | false =>
      obtain ⟨b1, b2⟩ := sync_ok (D := D.app 1 (recp row)) (by rw [e1]) hh2
      have ee : adE D ⟨1, g, n, false⟩ row = 0 := by rw [f1', b1]
      have er : adD D ⟨1, g, n, false⟩ row = ⟨R, D.b0, D.b0.length, D.b1 ++ recp row, (D.b1 ++ recp row).length, D.cat, D.keep, D.armed, false, D.ops + 1 + 1⟩ := by
        rw [f2', b2, e1]
        rfl
      obtain ⟨q1, q2, q3⟩ := heldG_lf (hf.snoc hr) h.gb
      have eb : D.b1 ++ recp row = lf g s (rows ++ [row]) := by rw [he, lf_snoc]
      refine .inl ⟨ee, ?_, ?_, ?_, if_pos ee⟩
      · rw [er]
        exact ⟨rfl, rfl, rfl, rfl, ⟨h.ib.1, h.ib.2.append (recp_bytes hrb)⟩, h.l0, (show ((D.b1 ++ recp row).length : Int) ≤ R by omega), h.gb, .inr ⟨rfl, by rw [← eb] at q1; exact q1, by rw [← eb] at q2; exact q2, by rw [← eb] at q3; exact q3, hmain⟩⟩
      · rw [er]; exact eb
      · rw [er]
/-- Saving from side 1: the snapshot is there on the other side; or it crashed, and is there or is not. -/
theorem save_cases1 {R : Int} {D : Dk} {g n : Int} {st : Bool} {s snap : List Int} {rows : List (List Int)} (h : Lk R D 1 g s rows) (hs : 8 + snap.length ≤ 60000) (hsb : IsB snap) (hfit : (10 : Int) + snap.length ≤ R) (hg : g < 4611686018427387904) :
    (svE D (1 - 1) (g + 1) snap = 0 ∧ Lk R (svD D (1 - 1) (g + 1) snap) (1 - 1) (g + 1) snap [] ∧ (svD D (1 - 1) (g + 1) snap).b0 = lf (g + 1) snap [] ∧ (svD D (1 - 1) (g + 1) snap).armed = D.armed ∧ saL D ⟨1, g, n, st⟩ snap = ⟨1 - 1, g + 1, 0, false⟩) ∨
    (D.armed = true ∧ svE D (1 - 1) (g + 1) snap = 11 ∧ saL D ⟨1, g, n, st⟩ snap = ⟨1, g, n, st⟩ ∧ (Lk R (svD D (1 - 1) (g + 1) snap).restart 1 g s rows ∨ Lk R (svD D (1 - 1) (g + 1) snap).restart (1 - 1) (g + 1) snap [])) := by
  have e0 : (1 : Int) - 1 = 0 := by decide
  have hsv : saL D ⟨1, g, n, st⟩ snap = if svE D 0 (g + 1) snap = 0 then ⟨1 - 1, g + 1, 0, false⟩ else ⟨1, g, n, st⟩ := by
    show (if svE D (1 - 1) (g + 1) snap = 0 then _ else _) = _
    rw [e0]
  rw [hsv]
  simp only [e0]
  obtain ⟨hm1, hm2, hm3, hm4, hm5⟩ : heldG D.b1 = g ∧ heldS D.b1 = s ∧ heldR D.b1 = rows ∧ heldG D.b0 < g ∧ True := by
    rcases h.main with ⟨h1, h2, h3, h4, h5⟩ | ⟨h1, h2, h3, h4, h5⟩
    · exact absurd h1 (by decide)
    · exact ⟨h2, h3, h4, h5, trivial⟩
  have hok : svOk D (g + 1) snap = true := svOk_yes hs (by omega) (by rw [h.room]; omega)
  have hl := svB_length (gen := g + 1) hs
  have gb' : 1 ≤ g + 1 ∧ g + 1 ≤ 4611686018427387904 := ⟨by have := h.gb; omega, by omega⟩
  cases hh : D.hit with
  | true =>
    have ha : D.armed = true := by unfold Dk.hit at hh; cases hx : D.armed <;> simp [hx] at hh ⊢
    obtain ⟨a1, a2⟩ := wipe_hit (side := 0) h.down (by decide) hh
    obtain ⟨f1, f2⟩ := sv_wipe (gen := g + 1) (snap := snap) (side := 0) hok (by rw [a1]; decide)
    have ee : svE D 0 (g + 1) snap = 11 := by rw [f1, a1]
    refine .inr ⟨ha, ee, if_neg (by rw [ee]; decide), .inl ?_⟩
    rw [f2, a2]
    exact h.crash
  | false =>
    obtain ⟨a1, a2⟩ := wipe_ok0 h.down hh
    have e1 : D.wipe 0 = ⟨R, [], 0, D.b1, D.b1.length, D.cat, D.keep, D.armed, false, D.ops + 1⟩ := by
      rw [a2]
      show Dk.mk _ _ _ _ _ _ _ _ _ _ = _
      simp only [Dk.tick, h.room, h.down, h.s0, h.s1]
    have hroom : ¬ (D.wipe 0).room - (D.wipe 0).len 0 < ((svB (g + 1) snap).length : Int) := by
      rw [e1]
      show ¬ R - (if (0 : Int) = 0 then ((_ : List Int).length : Int) else (_ : List Int).length) < _
      rw [if_pos rfl]
      show ¬ R - ((0 : Nat) : Int) < _
      omega
    have hempty : Lk R (D.wipe 0) 1 g s rows := by
      rw [e1]
      exact ⟨rfl, rfl, rfl, rfl, ⟨IsB.nil, h.ib.2⟩, (show ((0 : Nat) : Int) ≤ R by omega), h.l1, h.gb, .inr ⟨rfl, hm1, hm2, hm3, by show heldG [] < g; rw [heldG_nil]; have := h.gb; omega⟩⟩
    cases hh2 : (D.wipe 0).hit with
    | true =>
      have ha : D.armed = true := by rw [e1] at hh2; unfold Dk.hit at hh2; cases hx : D.armed <;> simp [hx] at hh2 ⊢
      obtain ⟨b1, b2⟩ := app_hit (D := D.wipe 0) (side := 0) (l := svB (g + 1) snap) hempty.down (by decide) hroom hh2
      obtain ⟨f1, f2⟩ := sv_app (side := 0) hok a1 (by rw [b1]; decide)
      have ee : svE D 0 (g + 1) snap = 11 := by rw [f1, b1]
      refine .inr ⟨ha, ee, if_neg (by rw [ee]; decide), .inl ?_⟩
      rw [f2, b2]
      exact hempty.crash
    | false =>
      obtain ⟨b1, b2⟩ := app_ok0 (D := D.wipe 0) (l := svB (g + 1) snap) hempty.down hroom hh2
      obtain ⟨f1, f2⟩ := sv_sync (side := 0) hok a1 b1
      have e2 : (D.wipe 0).app 0 (svB (g + 1) snap) = ⟨R, svB (g + 1) snap, 0, D.b1, D.b1.length, D.cat, D.keep, D.armed, false, D.ops + 1 + 1⟩ := by
        rw [b2, e1]
        rfl
      cases hh3 : ((D.wipe 0).app 0 (svB (g + 1) snap)).hit with
      | true =>
        have ha : D.armed = true := by rw [e2] at hh3; unfold Dk.hit at hh3; cases hx : D.armed <;> simp [hx] at hh3 ⊢
        obtain ⟨c1, c2⟩ := sync_hit (D := (D.wipe 0).app 0 (svB (g + 1) snap)) (by rw [e2]) hh3
        have ee : svE D 0 (g + 1) snap = 11 := by rw [f1, c1]
        refine .inr ⟨ha, ee, if_neg (by rw [ee]; decide), ?_⟩
        rw [f2, c2]
        have hk := Dk.k0_le ((D.wipe 0).app 0 (svB (g + 1) snap)) (by rw [e2]; exact Nat.zero_le _)
        obtain ⟨k, ek⟩ : ∃ k, ((D.wipe 0).app 0 (svB (g + 1) snap)).k0 = k := ⟨_, rfl⟩
        have km : ((D.wipe 0).app 0 (svB (g + 1) snap)).k1 = 0 := k1_syn (by rw [e2])
        rw [ek] at hk
        have hk2 : k ≤ 10 + snap.length := by
          have h1 : ((D.wipe 0).app 0 (svB (g + 1) snap)).s0 + k ≤ ((D.wipe 0).app 0 (svB (g + 1) snap)).b0.length := hk
          rw [e2] at h1
          have h2 : 0 + k ≤ (svB (g + 1) snap).length := h1
          omega
        have er : ((D.wipe 0).app 0 (svB (g + 1) snap)).crash.restart = ⟨R, (svB (g + 1) snap).take k, k, D.b1, D.b1.length, D.cat, D.keep, false, false, 0⟩ := by
          rw [crash_restart, ek, km, e2]
          show Dk.mk _ _ _ _ _ _ _ _ _ _ = _
          simp only [Nat.add_zero, Nat.zero_add, List.take_length]
        rw [er]
        have hlt : ((svB (g + 1) snap).take k).length = k := by rw [List.length_take]; omega
        have hlo : (((svB (g + 1) snap).take k).length : Int) ≤ R := by rw [hlt]; omega
        have hib : Dk.IB ⟨R, (svB (g + 1) snap).take k, k, D.b1, D.b1.length, D.cat, D.keep, false, false, 0⟩ := ⟨(svB_bytes hsb).take k, h.ib.2⟩
        by_cases hk3 : k < 10 + snap.length
        · exact .inl ⟨rfl, rfl, hlt.symm, rfl, hib, hlo, h.l1, h.gb, .inr ⟨rfl, hm1, hm2, hm3, by show heldG ((svB (g + 1) snap).take k) < g; rw [svB_part hs k hk3]; have := h.gb; omega⟩⟩
        · have ef : (svB (g + 1) snap).take k = lf (g + 1) snap [] := by rw [lf_nil]; exact List.take_of_length_le (by omega)
          obtain ⟨q1, q2, q3⟩ := heldG_lf (s := snap) (rows := []) ⟨hs, fun r hr => by cases hr⟩ gb'
          rw [← ef] at q1 q2 q3
          exact .inr ⟨rfl, rfl, hlt.symm, rfl, hib, hlo, h.l1, gb', .inl ⟨rfl, q1, q2, q3, by show heldG D.b1 < g + 1; rw [hm1]; omega⟩⟩
      | false =>
        obtain ⟨c1, c2⟩ := sync_ok (D := (D.wipe 0).app 0 (svB (g + 1) snap)) (by rw [e2]) hh3
        have ee : svE D 0 (g + 1) snap = 0 := by rw [f1, c1]
        have er : svD D 0 (g + 1) snap = ⟨R, svB (g + 1) snap, (svB (g + 1) snap).length, D.b1, D.b1.length, D.cat, D.keep, D.armed, false, D.ops + 1 + 1 + 1⟩ := by
          rw [f2, c2, e2]
          rfl
        obtain ⟨q1, q2, q3⟩ := heldG_lf (s := snap) (rows := []) ⟨hs, fun r hr => by cases hr⟩ gb'
        have ef : svB (g + 1) snap = lf (g + 1) snap [] := (lf_nil _ _).symm
        rw [← ef] at q1 q2 q3
        have hlo : ((svB (g + 1) snap).length : Int) ≤ R := by omega
        refine .inl ⟨ee, ?_, ?_, ?_, if_pos ee⟩
        · rw [er]
          exact ⟨rfl, rfl, rfl, rfl, ⟨svB_bytes hsb, h.ib.2⟩, hlo, h.l1, gb', .inl ⟨rfl, q1, q2, q3, by show heldG D.b1 < g + 1; rw [hm1]; omega⟩⟩
        · rw [er]; exact ef
        · rw [er]
end Go.Proofs.Ythaeppjhmjpecaa.B
