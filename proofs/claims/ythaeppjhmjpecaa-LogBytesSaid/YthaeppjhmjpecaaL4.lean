/- log.Open, giroref6.Open. -/
import Derived.Test.YthaeppjhmjpecaaL3
namespace Go.Proofs.Ythaeppjhmjpecaa.B
open Go.RowKit Go.Proofs.YthaeppjhmjpecaaW.PrintWords Go.Proofs.YthaeppjhmjpecaaW.PrintLast Go.Proofs.YthaeppjhmjpecaaW.PrintMore
attribute [local go_sem] max2_int min2_int max_two min_two max_three min_three max_four min_four
set_option linter.unusedVariables false
set_option linter.unusedSimpArgs false
/-- A log beside its deck: the side that it goes on on, its generation, how many rows, is it stale? -/
structure Lg where
  side : Int
  gen : Int
  rows : Int
  stale : Bool
def Lg.cells (L : Lg) (g : Nat) : Array Value := #[.pointer (some ⟨g, 0, none⟩), .int .i64 L.side, .int .i64 L.gen, .int .i64 L.rows, .bool L.stale]
def Lg.cellsX (L : Lg) (g : Nat) : Array Value := #[.pointer (some ⟨g, 0, none⟩), .int .i64 L.gen, .int .i64 L.side, .int .i64 L.rows, .bool L.stale]
def IsL (w : World) (gl g : Nat) (L : Lg) : Prop := w.heap[gl]? = some (.cells (L.cells g) 89 (0, 0))
def IsLX (w : World) (gl g : Nat) (L : Lg) : Prop := w.heap[gl]? = some (.cells (L.cellsX g) 92 (0, 0))
/-- A snapshot and rows in memory, in blocks that are P, that is read. -/
def HoldsV (w : World) (P : Nat → Prop) (s : List Int) (r : List (List Int)) (v1 v2 : Value) : Prop := ∃ A0 c0 A1 c1, v1 = .slice A0 s.length c0 ∧ v2 = .slice A1 r.length c1 ∧ Kd.F (Kd.int .u8) w P A0 s.length s ∧ Kd.F (Kd.slice 5 (Kd.int .u8)) w P A1 r.length r ∧ s.length ≤ c0 ∧ r.length ≤ c1
theorem HoldsV.below {w w' : World} {P : Nat → Prop} {s : List Int} {r : List (List Int)} {v1 v2 : Value} (h : HoldsV w P s r v1 v2) (hb : Below w.heap.size w w') : HoldsV w' P s r v1 v2 := by
  obtain ⟨A0, c0, A1, c1, h1, h2, h3, h4, h5, h6⟩ := h
  exact ⟨A0, c0, A1, c1, h1, h2, Kd.F_below h3 hb, Kd.F_below h4 hb, h5, h6⟩
theorem HoldsV.mono {w : World} {P P' : Nat → Prop} {s : List Int} {r : List (List Int)} {v1 v2 : Value} (h : HoldsV w P s r v1 v2) (hp : ∀ k, P k → P' k) : HoldsV w P' s r v1 v2 := by
  obtain ⟨A0, c0, A1, c1, h1, h2, h3, h4, h5, h6⟩ := h
  exact ⟨A0, c0, A1, c1, h1, h2, Kd.F_mono h3 hp, Kd.F_mono h4 hp, h5, h6⟩
theorem HoldsV.bound {w : World} {P : Nat → Prop} {s : List Int} {r : List (List Int)} {v1 v2 : Value} (h : HoldsV w P s r v1 v2) : HoldsV w (fun k => P k ∧ k < w.heap.size) s r v1 v2 := by
  obtain ⟨A0, c0, A1, c1, h1, h2, h3, h4, h5, h6⟩ := h
  exact ⟨A0, c0, A1, c1, h1, h2, Kd.F_bound h3, Kd.F_bound h4, h5, h6⟩
/-- A call with a footprint that is apart from what is read. -/
theorem HoldsV.fr {w w' : World} {P ok : Nat → Prop} {s : List Int} {r : List (List Int)} {v1 v2 : Value} (h : HoldsV w P s r v1 v2) (hf : Fr ok w w') (hn : ∀ k, P k → k < w.heap.size → ¬ ok k) : HoldsV w' P s r v1 v2 := by
  obtain ⟨A0, c0, A1, c1, h1, h2, h3, h4, h5, h6⟩ := h
  exact ⟨A0, c0, A1, c1, h1, h2, Kd.F_step h3 (fun k hk hl => hf.2.2.2.2 k hl (hn k hk hl)), Kd.F_step h4 (fun k hk hl => hf.2.2.2.2 k hl (hn k hk hl)), h5, h6⟩
theorem HoldsV.out {w : World} {P : Nat → Prop} {s : List Int} {r : List (List Int)} {v1 v2 : Value} (h : HoldsV w P s r v1 v2) : ∃ A0 c0 A1 c1, v1 = .slice A0 s.length c0 ∧ v2 = .slice A1 r.length c1 ∧ Kd.C (Kd.int .u8) w A0 s.length s ∧ Kd.C (Kd.slice 5 (Kd.int .u8)) w A1 r.length r ∧ s.length ≤ c0 ∧ r.length ≤ c1 := by
  obtain ⟨A0, c0, A1, c1, h1, h2, h3, h4, h5, h6⟩ := h
  exact ⟨A0, c0, A1, c1, h1, h2, Kd.F_now h3, Kd.F_now h4, h5, h6⟩
theorem Holds.v {w : World} {B : Nat} {b : List Int} {v1 v2 : Value} (h : Holds w B (scan b).1 v1 v2) : HoldsV w (fun k => B ≤ k) (heldS b) (heldR b) v1 v2 := h
/-- What opening answers, the deck behind it, the log, the snapshot, the rows. -/
def opE (D : Dk) (fresh : List Int) : Int := if lkG D ≠ 0 then 0 else svE D 0 1 fresh
def opD (D : Dk) (fresh : List Int) : Dk := if lkG D ≠ 0 then D else svD D 0 1 fresh
def opS (D : Dk) (fresh : List Int) : List Int := if lkG D ≠ 0 then heldS (lkB D) else fresh
def opR (D : Dk) : List (List Int) := if lkG D ≠ 0 then heldR (lkB D) else []
def opL (D : Dk) : Lg := if lkG D ≠ 0 then ⟨lkS D, lkG D, (heldR (lkB D)).length, true⟩ else ⟨0, 1, 0, false⟩
theorem op_held {D : Dk} {fresh : List Int} (h : lkG D ≠ 0) : opE D fresh = 0 ∧ opD D fresh = D ∧ opS D fresh = heldS (lkB D) ∧ opR D = heldR (lkB D) ∧ opL D = ⟨lkS D, lkG D, (heldR (lkB D)).length, true⟩ := by
  unfold opE opD opS opR opL; rw [if_pos h, if_pos h, if_pos h, if_pos h, if_pos h]; exact ⟨rfl, rfl, rfl, rfl, rfl⟩
theorem op_fresh {D : Dk} {fresh : List Int} (h : lkG D = 0) : opE D fresh = svE D 0 1 fresh ∧ opD D fresh = svD D 0 1 fresh ∧ opS D fresh = fresh ∧ opR D = [] ∧ opL D = ⟨0, 1, 0, false⟩ := by
  have h' : ¬ lkG D ≠ 0 := fun k => k h
  unfold opE opD opS opR opL; rw [if_neg h', if_neg h', if_neg h', if_neg h', if_neg h']; exact ⟨rfl, rfl, rfl, rfl, rfl⟩
def nilS : Value := .slice none 0 0
def OpenedV (w w' : World) (ok : Nat → Prop) (g : Nat) (E : Int) (D' : Dk) (s : List Int) (r : List (List Int)) (L : Lg) (e : Ending) : Prop :=
  ∃ vp v1 v2, e = .returned (.tuple #[vp, v1, v2, .int .i64 E]) ∧ Fr ok w w' ∧
    ((E ≠ 0 ∧ vp = .pointer none ∧ v1 = .slice none 0 0 ∧ v2 = .slice none 0 0 ∧ IsD w' ok g D') ∨
     (E = 0 ∧ ∃ gl M, vp = .pointer (some ⟨gl, 0, none⟩) ∧ w.heap.size ≤ M ∧ M ≤ gl ∧ IsD w' (fun k => ok k ∧ k < M) g D' ∧ IsL w' gl g L ∧ HoldsV w' (fun k => M ≤ k ∧ k ≠ gl) s r v1 v2))
def Opened (w w' : World) (ok : Nat → Prop) (g : Nat) (D : Dk) (fresh : List Int) (e : Ending) : Prop := OpenedV w w' ok g (opE D fresh) (opD D fresh) (opS D fresh) (opR D) (opL D) e
theorem OpenedV.no {w w' : World} {ok : Nat → Prop} {g : Nat} {E : Int} {D' : Dk} {s : List Int} {r : List (List Int)} {L : Lg} (h : E ≠ 0) (hf : Fr ok w w') (hd : IsD w' ok g D') : OpenedV w w' ok g E D' s r L (.returned (.tuple #[.pointer none, .slice none 0 0, .slice none 0 0, .int .i64 E])) := ⟨_, _, _, rfl, hf, .inl ⟨h, rfl, rfl, rfl, hd⟩⟩
theorem OpenedV.yes {w w' : World} {ok : Nat → Prop} {g gl M : Nat} {D' : Dk} {s : List Int} {r : List (List Int)} {L : Lg} {v1 v2 : Value} (hf : Fr ok w w') (hM : w.heap.size ≤ M) (hgl : M ≤ gl) (hd : IsD w' (fun k => ok k ∧ k < M) g D') (hL : IsL w' gl g L) (hv : HoldsV w' (fun k => M ≤ k ∧ k ≠ gl) s r v1 v2) : OpenedV w w' ok g 0 D' s r L (.returned (.tuple #[.pointer (some ⟨gl, 0, none⟩), v1, v2, .int .i64 0])) := ⟨_, _, _, rfl, hf, .inr ⟨rfl, gl, M, rfl, hM, hgl, hd, hL, hv⟩⟩
def OpenedVX (w w' : World) (ok : Nat → Prop) (g : Nat) (E : Int) (D' : Dk) (s : List Int) (r : List (List Int)) (L : Lg) (e : Ending) : Prop :=
  ∃ vp v1 v2, e = .returned (.tuple #[vp, v1, v2, .int .i64 E]) ∧ Fr ok w w' ∧
    ((E ≠ 0 ∧ vp = .pointer none ∧ v1 = .slice none 0 0 ∧ v2 = .slice none 0 0 ∧ IsX w' ok g D') ∨
     (E = 0 ∧ ∃ gl M, vp = .pointer (some ⟨gl, 0, none⟩) ∧ w.heap.size ≤ M ∧ M ≤ gl ∧ IsX w' (fun k => ok k ∧ k < M) g D' ∧ IsLX w' gl g L ∧ HoldsV w' (fun k => M ≤ k ∧ k ≠ gl) s r v1 v2))
def OpenedX (w w' : World) (ok : Nat → Prop) (g : Nat) (D : Dk) (fresh : List Int) (e : Ending) : Prop := OpenedVX w w' ok g (opE D fresh) (opD D fresh) (opS D fresh) (opR D) (opL D) e
theorem OpenedVX.no {w w' : World} {ok : Nat → Prop} {g : Nat} {E : Int} {D' : Dk} {s : List Int} {r : List (List Int)} {L : Lg} (h : E ≠ 0) (hf : Fr ok w w') (hd : IsX w' ok g D') : OpenedVX w w' ok g E D' s r L (.returned (.tuple #[.pointer none, .slice none 0 0, .slice none 0 0, .int .i64 E])) := ⟨_, _, _, rfl, hf, .inl ⟨h, rfl, rfl, rfl, hd⟩⟩
theorem OpenedVX.yes {w w' : World} {ok : Nat → Prop} {g gl M : Nat} {D' : Dk} {s : List Int} {r : List (List Int)} {L : Lg} {v1 v2 : Value} (hf : Fr ok w w') (hM : w.heap.size ≤ M) (hgl : M ≤ gl) (hd : IsX w' (fun k => ok k ∧ k < M) g D') (hL : IsLX w' gl g L) (hv : HoldsV w' (fun k => M ≤ k ∧ k ≠ gl) s r v1 v2) : OpenedVX w w' ok g 0 D' s r L (.returned (.tuple #[.pointer (some ⟨gl, 0, none⟩), v1, v2, .int .i64 0])) := ⟨_, _, _, rfl, hf, .inr ⟨rfl, gl, M, rfl, hM, hgl, hd, hL, hv⟩⟩
set_option maxHeartbeats 2000000 in
theorem lopen (g : Nat) (ok : Nat → Prop) (D : Dk) (A : Option Addr) (c : Nat) (fresh : List Int) (N : Int) (w : World) (h : IsD w ok g D) (hb : IsB D.b0 ∧ IsB D.b1) (hG : D.G N) (hN : N < 900000) (hC : Kd.C (Kd.int .u8) w A fresh.length fresh) (hl : fresh.length ≤ 100000000) (hok : ∀ k, w.heap.size ≤ k → ok k) (hA : ∀ ad, A = some ad → 0 < fresh.length → ¬ ok ad.block) :
    Calls Try.prog 37 #[.pointer (some ⟨g, 0, none⟩), .slice A fresh.length c] w fun e w' => Opened w w' ok g D fresh e := by
  have HB := Aside0.mk (Below.refl w.heap.size w)
  have HD := Aside0.mk h
  have HG := Aside0.mk hG
  have HC := Aside0.mk hC
  have HFR := Aside0.mk hok
  have HNA := Aside0.mk hA
  have HDB := Aside0.mk h.bound
  have HIB := Aside0.mk hb
  have HL := Aside0.mk (show D.b0.length ≤ 1000000 ∧ D.b1.length ≤ 1000000 by have := hG.2.2.1; have := hG.2.2.2.1; have := hG.2.2.2.2.1; omega)
  obtain ⟨q, hq⟩ : ∃ q, lkG D = q := ⟨_, rfl⟩
  have HGQ := Aside0.mk hq
  by_cases k1 : q = 0
  · subst k1
    have HGB := Aside0.mk (show decide ((0 : Int) ≠ 0) = false from rfl)
    obtain ⟨f1, f2, f3, f4, f5⟩ := op_fresh (fresh := fresh) hq
    obtain ⟨e, he⟩ : ∃ e, svE D 0 1 fresh = e := ⟨_, rfl⟩
    have HE := Aside0.mk he
    unfold Opened
    rw [f1, f2, f3, f4, f5, he]
    clear f1 f2 f3 f4 f5 he h hb hG hC hok hA hq
    by_cases k2 : e = 0
    · subst k2
      go_enter Try.func37, Try.ntmps37
      go_wp2_with (first | ((with_reducible refine gate_dst (N := 16) rfl ?_); (try (refine gate_guard (by rfl) ?_; dsimp only)); refine goesL_ (some 16) rfl rfl Try.func34 (by kernel_rfl) rfl #[.pointer (some ⟨g, 0, none⟩)] rfl (by (try simp only [List.map_toArray, List.map_cons, List.map_nil]); first | done | rfl | (simp only [List.length_drop, List.length_take]; rfl)) ?_; refine (llook g ok D _ HD.out HL.out HIB.out).mono ?_; rintro e w1 ⟨v1, v2, rfl, hh, hbl⟩; refine ⟨_, rfl, ?_⟩; rw [HGQ.out, HGB.out]; have HB' := Aside0.mk (below_step HB.out hbl); have HD' := Aside0.mk (HD.out.below hbl); clear HB hh hbl HD; have HB := HB'; have HD := HD'; clear HB' HD') | ((with_reducible refine gate_dst (N := 34) rfl ?_); (try (refine gate_guard (by rfl) ?_; dsimp only)); refine goesL_ (some 34) rfl rfl Try.func51 (by kernel_rfl) rfl #[.pointer (some ⟨g, 0, none⟩), .int .i64 0, .int .i64 1, .slice A fresh.length c] rfl (by (try simp only [List.map_toArray, List.map_cons, List.map_nil]); first | done | rfl | (simp only [List.length_drop, List.length_take]; rfl)) ?_; refine (lsaves g ok D 0 1 A c fresh N _ HD.out HG.out hN ⟨by decide, by decide⟩ (Kd.C_below HC.out HB.out) hl (fun k hk => HFR.out k (Nat.le_trans HB.out.size hk))).mono ?_; rintro e w9 ⟨rfl, hD, hfr⟩; refine ⟨_, rfl, ?_⟩; rw [HE.out]; have HD9 := Aside0.mk hD; have HF9 := Aside0.mk (Fr.trans (Fr.of_below (ok := ok) HB.out) hfr); have HC9 := Aside0.mk (C_fr (Kd.C_below HC.out HB.out) hfr HNA.out); clear hD hfr HB HD; have HB9 := Aside0.mk (Below.refl (w9.alloc (.cells #[.pointer (some ⟨g, 0, none⟩), .int .i64 0, .int .i64 1, .int .i64 0, .bool false] 89)).heap.size (w9.alloc (.cells #[.pointer (some ⟨g, 0, none⟩), .int .i64 0, .int .i64 1, .int .i64 0, .bool false] 89)))) | ((with_reducible refine gate_dst (N := 41) rfl ?_); refine Kd.R_lit (Kd.int .u8) (w0 := (w9.alloc (.cells #[.pointer (some ⟨g, 0, none⟩), .int .i64 0, .int .i64 1, .int .i64 0, .bool false] 89))) (w9.alloc (.cells #[.pointer (some ⟨g, 0, none⟩), .int .i64 0, .int .i64 1, .int .i64 0, .bool false] 89)).heap.size 5 rfl (N := 41) rfl (xs := ([] : List Int)) (inner := []) (ok := fun _ => True) (okp := fun _ => True) (by first | (go_simp; done) | (go_simp; rfl) | (go_simp; exact ⟨rfl, rfl⟩)) (Reps.none _ _) (fun _ hk => hk) trivial HB9.out HB9.out.size (by simp) ?_; intro v4 w4 ho hb hg_ hnew_; clear HB9 hg_ hnew_; have HB9 := Aside0.mk hb; have HO := Aside0.mk ho; clear ho hb) | ((with_reducible refine gate_dst (N := 43) rfl ?_); refine Kd.R_append_row (Value.int .u8) 0 (h1 := fun _ => rfl) (w0 := (w9.alloc (.cells #[.pointer (some ⟨g, 0, none⟩), .int .i64 0, .int .i64 1, .int .i64 0, .bool false] 89))) (w9.alloc (.cells #[.pointer (some ⟨g, 0, none⟩), .int .i64 0, .int .i64 1, .int .i64 0, .bool false] 89)).heap.size rfl _ _ 22 5 (.int .u8 0) 1 rfl Try.underlying22 info5 rfl (by decide) v4 ([] : List Int) fresh A fresh.length c (fun _ => True) rfl rfl (fun _ _ => trivial) HO.out (Kd.C_below HC9.out (below_step (below_alloc (Below.refl _ _) _) HB9.out)) HB9.out HB9.out.size (by simp; omega) ?_; intro v5 w5 ho hb hg_ hnew_; clear hg_ hnew_ HB9 HO; rw [List.nil_append] at ho; have HB9 := Aside0.mk hb; obtain ⟨A5, c5, e5⟩ := Kd.R_slice ho; subst e5; have HO := Aside0.mk (And.intro (Kd.R_reads' ho).2.1 (Kd.F_mono (ok' := fun k => w9.heap.size ≤ k ∧ k ≠ w9.heap.size) (Kd.R_F (Kd.R_bound ho)) (fun k hk => by have h1 := hk.2.1; have h2 : w9.heap.size + 1 ≤ k := (by simpa using h1); omega))); clear ho hb))
      refine bodyPost_ret (v := .tuple #[.pointer (some ⟨w9.heap.size, 0, none⟩), .slice A5 fresh.length c5, .slice none 0 0, .int .i64 0]) (by simp [results, Try.results37, go_sem]) rfl (OpenedV.yes (Fr.trans HF9.out (Fr.of_below (below_step (below_alloc (Below.refl _ _) _) HB9.out))) HF9.out.2.2.2.1 (Nat.le_refl _) (HD9.out.bound.below (below_step (below_alloc (Below.refl _ _) _) HB9.out)) ((HB9.out.block w9.heap.size (by simp)).trans (blk_new w9 _)) ⟨A5, c5, none, 0, rfl, rfl, HO.out.2, Kd.F_nil _ _ _, HO.out.1, Nat.le_refl _⟩)
    · have t2 : (e == 0) = false := beq_eq_false_iff_ne.2 k2
      have t2n : (e != 0) = true := by rw [bne_iff_ne]; exact k2
      have K2 := Aside0.mk k2
      clear k2
      go_enter Try.func37, Try.ntmps37
      go_wp2_with (first | ((with_reducible refine gate_dst (N := 16) rfl ?_); (try (refine gate_guard (by rfl) ?_; dsimp only)); refine goesL_ (some 16) rfl rfl Try.func34 (by kernel_rfl) rfl #[.pointer (some ⟨g, 0, none⟩)] rfl (by (try simp only [List.map_toArray, List.map_cons, List.map_nil]); first | done | rfl | (simp only [List.length_drop, List.length_take]; rfl)) ?_; refine (llook g ok D _ HD.out HL.out HIB.out).mono ?_; rintro e w1 ⟨v1, v2, rfl, hh, hbl⟩; refine ⟨_, rfl, ?_⟩; rw [HGQ.out, HGB.out]; have HB' := Aside0.mk (below_step HB.out hbl); have HD' := Aside0.mk (HD.out.below hbl); clear HB hh hbl HD; have HB := HB'; have HD := HD'; clear HB' HD') | ((with_reducible refine gate_dst (N := 34) rfl ?_); (try (refine gate_guard (by rfl) ?_; dsimp only)); refine goesL_ (some 34) rfl rfl Try.func51 (by kernel_rfl) rfl #[.pointer (some ⟨g, 0, none⟩), .int .i64 0, .int .i64 1, .slice A fresh.length c] rfl (by (try simp only [List.map_toArray, List.map_cons, List.map_nil]); first | done | rfl | (simp only [List.length_drop, List.length_take]; rfl)) ?_; refine (lsaves g ok D 0 1 A c fresh N _ HD.out HG.out hN ⟨by decide, by decide⟩ (Kd.C_below HC.out HB.out) hl (fun k hk => HFR.out k (Nat.le_trans HB.out.size hk))).mono ?_; rintro e w9 ⟨rfl, hD, hfr⟩; refine ⟨_, rfl, ?_⟩; rw [HE.out]; have HD9 := Aside0.mk hD; have HF9 := Aside0.mk (Fr.trans (Fr.of_below (ok := ok) HB.out) hfr); have HC9 := Aside0.mk (C_fr (Kd.C_below HC.out HB.out) hfr HNA.out); clear hD hfr HB HD; have HB9 := Aside0.mk (Below.refl (w9.alloc (.cells #[.pointer (some ⟨g, 0, none⟩), .int .i64 0, .int .i64 1, .int .i64 0, .bool false] 89)).heap.size (w9.alloc (.cells #[.pointer (some ⟨g, 0, none⟩), .int .i64 0, .int .i64 1, .int .i64 0, .bool false] 89)))))
      refine bodyPost_ret (v := .tuple #[.pointer none, .slice none 0 0, .slice none 0 0, .int .i64 e]) (by simp [results, Try.results37, go_sem]) rfl (OpenedV.no K2.out HF9.out HD9.out)
  · have HGB := Aside0.mk (show decide (q ≠ 0) = true from decide_eq_true k1)
    obtain ⟨f1, f2, f3, f4, f5⟩ := op_held (fresh := fresh) (D := D) (by rw [hq]; exact k1)
    unfold Opened
    rw [f1, f2, f3, f4, f5, hq]
    clear f1 f2 f3 f4 f5 h hb hG hC hok hA hq k1
    obtain ⟨s, hs⟩ : ∃ s, heldS (lkB D) = s := ⟨_, rfl⟩
    obtain ⟨rw_, hr⟩ : ∃ s, heldR (lkB D) = s := ⟨_, rfl⟩
    have HSS := Aside0.mk (And.intro hs hr)
    rw [hs, hr]
    clear hs hr
    go_enter Try.func37, Try.ntmps37
    go_wp2_with (first | ((with_reducible refine gate_dst (N := 16) rfl ?_); (try (refine gate_guard (by rfl) ?_; dsimp only)); refine goesL_ (some 16) rfl rfl Try.func34 (by kernel_rfl) rfl #[.pointer (some ⟨g, 0, none⟩)] rfl (by (try simp only [List.map_toArray, List.map_cons, List.map_nil]); first | done | rfl | (simp only [List.length_drop, List.length_take]; rfl)) ?_; refine (llook g ok D _ HD.out HL.out HIB.out).mono ?_; rintro e w1 ⟨v1, v2, rfl, hh, hbl⟩; refine ⟨_, rfl, ?_⟩; rw [HGQ.out, HGB.out]; have HH := Aside0.mk hh.v; rw [HSS.out.1, HSS.out.2] at HH; clear hh; obtain ⟨A1, c1, A2, c2, e1, e2, hx1, hx2, hx3, hx4⟩ := (Aside0.out HH); subst e1 e2; clear hx1 hx2 hx3 hx4; have HB' := Aside0.mk (below_step HB.out hbl); have HD' := Aside0.mk (HD.out.below hbl); clear HB hbl HD; have HB := HB'; have HD := HD'; clear HB' HD'))
    have HBX := below_alloc (Below.refl w1.heap.size w1) (.cells #[.pointer (some ⟨g, 0, none⟩), .int .i64 (lkS D), .int .i64 q, .int .i64 (rw_.length : Int), .bool true] 89)
    obtain ⟨_, _, _, _, e1, e2, hx1, hx2, hx3, hx4⟩ := HH.out
    cases e1
    cases e2
    refine bodyPost_ret (v := .tuple #[.pointer (some ⟨w1.heap.size, 0, none⟩), .slice A1 s.length c1, .slice A2 rw_.length c2, .int .i64 0]) (by simp [results, Try.results37, go_sem]) rfl (OpenedV.yes (Fr.of_below (below_step HB.out HBX)) (Nat.le_refl _) HB.out.size (HDB.out.below (below_step HB.out HBX)) (blk_new w1 _) ((HH.out.bound.mono (fun k hk => ⟨hk.1, Nat.ne_of_lt hk.2⟩)).below HBX))
set_option maxHeartbeats 2000000 in
theorem xopen (g : Nat) (ok : Nat → Prop) (D : Dk) (A : Option Addr) (c : Nat) (fresh : List Int) (N : Int) (w : World) (h : IsX w ok g D) (hb : IsB D.b0 ∧ IsB D.b1) (hG : D.G N) (hN : N < 900000) (hC : Kd.C (Kd.int .u8) w A fresh.length fresh) (hl : fresh.length ≤ 100000000) (hok : ∀ k, w.heap.size ≤ k → ok k) (hA : ∀ ad, A = some ad → 0 < fresh.length → ¬ ok ad.block) :
    Calls Try.prog 38 #[.pointer (some ⟨g, 0, none⟩), .slice A fresh.length c] w fun e w' => OpenedX w w' ok g D fresh e := by
  have HB := Aside0.mk (Below.refl w.heap.size w)
  have HD := Aside0.mk h
  have HG := Aside0.mk hG
  have HC := Aside0.mk hC
  have HFR := Aside0.mk hok
  have HNA := Aside0.mk hA
  have HDB := Aside0.mk h.bound
  have HIB := Aside0.mk hb
  have HL := Aside0.mk (show D.b0.length ≤ 1000000 ∧ D.b1.length ≤ 1000000 by have := hG.2.2.1; have := hG.2.2.2.1; have := hG.2.2.2.2.1; omega)
  obtain ⟨q, hq⟩ : ∃ q, lkG D = q := ⟨_, rfl⟩
  have HGQ := Aside0.mk hq
  by_cases k1 : q = 0
  · subst k1
    have HGB := Aside0.mk (show decide ((0 : Int) ≠ 0) = false from rfl)
    obtain ⟨f1, f2, f3, f4, f5⟩ := op_fresh (fresh := fresh) hq
    obtain ⟨e, he⟩ : ∃ e, svE D 0 1 fresh = e := ⟨_, rfl⟩
    have HE := Aside0.mk he
    unfold OpenedX
    rw [f1, f2, f3, f4, f5, he]
    clear f1 f2 f3 f4 f5 he h hb hG hC hok hA hq
    by_cases k2 : e = 0
    · subst k2
      go_enter Try.func38, Try.ntmps38
      go_wp2_with (first | ((with_reducible refine gate_dst (N := 16) rfl ?_); (try (refine gate_guard (by rfl) ?_; dsimp only)); refine goesL_ (some 16) rfl rfl Try.func50 (by kernel_rfl) rfl #[.pointer (some ⟨g, 0, none⟩)] rfl (by (try simp only [List.map_toArray, List.map_cons, List.map_nil]); first | done | rfl | (simp only [List.length_drop, List.length_take]; rfl)) ?_; refine (xlook g ok D _ HD.out HL.out HIB.out).mono ?_; rintro e w1 ⟨v1, v2, rfl, hh, hbl⟩; refine ⟨_, rfl, ?_⟩; rw [HGQ.out, HGB.out]; have HB' := Aside0.mk (below_step HB.out hbl); have HD' := Aside0.mk (HD.out.below hbl); clear HB hh hbl HD; have HB := HB'; have HD := HD'; clear HB' HD') | ((with_reducible refine gate_dst (N := 34) rfl ?_); (try (refine gate_guard (by rfl) ?_; dsimp only)); refine goesL_ (some 34) rfl rfl Try.func52 (by kernel_rfl) rfl #[.pointer (some ⟨g, 0, none⟩), .int .i64 1, .int .i64 0, .slice A fresh.length c] rfl (by (try simp only [List.map_toArray, List.map_cons, List.map_nil]); first | done | rfl | (simp only [List.length_drop, List.length_take]; rfl)) ?_; refine (xsave g ok D 0 1 A c fresh N _ HD.out HG.out hN ⟨by decide, by decide⟩ (Kd.C_below HC.out HB.out) hl (fun k hk => HFR.out k (Nat.le_trans HB.out.size hk))).mono ?_; rintro e w9 ⟨rfl, hD, hfr⟩; refine ⟨_, rfl, ?_⟩; rw [HE.out]; have HD9 := Aside0.mk hD; have HF9 := Aside0.mk (Fr.trans (Fr.of_below (ok := ok) HB.out) hfr); have HC9 := Aside0.mk (C_fr (Kd.C_below HC.out HB.out) hfr HNA.out); clear hD hfr HB HD; have HB9 := Aside0.mk (Below.refl (w9.alloc (.cells #[.pointer (some ⟨g, 0, none⟩), .int .i64 1, .int .i64 0, .int .i64 0, .bool false] 92)).heap.size (w9.alloc (.cells #[.pointer (some ⟨g, 0, none⟩), .int .i64 1, .int .i64 0, .int .i64 0, .bool false] 92)))) | ((with_reducible refine gate_dst (N := 41) rfl ?_); refine Kd.R_lit (Kd.int .u8) (w0 := (w9.alloc (.cells #[.pointer (some ⟨g, 0, none⟩), .int .i64 1, .int .i64 0, .int .i64 0, .bool false] 92))) (w9.alloc (.cells #[.pointer (some ⟨g, 0, none⟩), .int .i64 1, .int .i64 0, .int .i64 0, .bool false] 92)).heap.size 5 rfl (N := 41) rfl (xs := ([] : List Int)) (inner := []) (ok := fun _ => True) (okp := fun _ => True) (by first | (go_simp; done) | (go_simp; rfl) | (go_simp; exact ⟨rfl, rfl⟩)) (Reps.none _ _) (fun _ hk => hk) trivial HB9.out HB9.out.size (by simp) ?_; intro v4 w4 ho hb hg_ hnew_; clear HB9 hg_ hnew_; have HB9 := Aside0.mk hb; have HO := Aside0.mk ho; clear ho hb) | ((with_reducible refine gate_dst (N := 43) rfl ?_); refine Kd.R_append_row (Value.int .u8) 0 (h1 := fun _ => rfl) (w0 := (w9.alloc (.cells #[.pointer (some ⟨g, 0, none⟩), .int .i64 1, .int .i64 0, .int .i64 0, .bool false] 92))) (w9.alloc (.cells #[.pointer (some ⟨g, 0, none⟩), .int .i64 1, .int .i64 0, .int .i64 0, .bool false] 92)).heap.size rfl _ _ 22 5 (.int .u8 0) 1 rfl Try.underlying22 info5 rfl (by decide) v4 ([] : List Int) fresh A fresh.length c (fun _ => True) rfl rfl (fun _ _ => trivial) HO.out (Kd.C_below HC9.out (below_step (below_alloc (Below.refl _ _) _) HB9.out)) HB9.out HB9.out.size (by simp; omega) ?_; intro v5 w5 ho hb hg_ hnew_; clear hg_ hnew_ HB9 HO; rw [List.nil_append] at ho; have HB9 := Aside0.mk hb; obtain ⟨A5, c5, e5⟩ := Kd.R_slice ho; subst e5; have HO := Aside0.mk (And.intro (Kd.R_reads' ho).2.1 (Kd.F_mono (ok' := fun k => w9.heap.size ≤ k ∧ k ≠ w9.heap.size) (Kd.R_F (Kd.R_bound ho)) (fun k hk => by have h1 := hk.2.1; have h2 : w9.heap.size + 1 ≤ k := (by simpa using h1); omega))); clear ho hb))
      refine bodyPost_ret (v := .tuple #[.pointer (some ⟨w9.heap.size, 0, none⟩), .slice A5 fresh.length c5, .slice none 0 0, .int .i64 0]) (by simp [results, Try.results38, go_sem]) rfl (OpenedVX.yes (Fr.trans HF9.out (Fr.of_below (below_step (below_alloc (Below.refl _ _) _) HB9.out))) HF9.out.2.2.2.1 (Nat.le_refl _) (HD9.out.bound.below (below_step (below_alloc (Below.refl _ _) _) HB9.out)) ((HB9.out.block w9.heap.size (by simp)).trans (blk_new w9 _)) ⟨A5, c5, none, 0, rfl, rfl, HO.out.2, Kd.F_nil _ _ _, HO.out.1, Nat.le_refl _⟩)
    · have t2 : (e == 0) = false := beq_eq_false_iff_ne.2 k2
      have t2n : (e != 0) = true := by rw [bne_iff_ne]; exact k2
      have K2 := Aside0.mk k2
      clear k2
      go_enter Try.func38, Try.ntmps38
      go_wp2_with (first | ((with_reducible refine gate_dst (N := 16) rfl ?_); (try (refine gate_guard (by rfl) ?_; dsimp only)); refine goesL_ (some 16) rfl rfl Try.func50 (by kernel_rfl) rfl #[.pointer (some ⟨g, 0, none⟩)] rfl (by (try simp only [List.map_toArray, List.map_cons, List.map_nil]); first | done | rfl | (simp only [List.length_drop, List.length_take]; rfl)) ?_; refine (xlook g ok D _ HD.out HL.out HIB.out).mono ?_; rintro e w1 ⟨v1, v2, rfl, hh, hbl⟩; refine ⟨_, rfl, ?_⟩; rw [HGQ.out, HGB.out]; have HB' := Aside0.mk (below_step HB.out hbl); have HD' := Aside0.mk (HD.out.below hbl); clear HB hh hbl HD; have HB := HB'; have HD := HD'; clear HB' HD') | ((with_reducible refine gate_dst (N := 34) rfl ?_); (try (refine gate_guard (by rfl) ?_; dsimp only)); refine goesL_ (some 34) rfl rfl Try.func52 (by kernel_rfl) rfl #[.pointer (some ⟨g, 0, none⟩), .int .i64 1, .int .i64 0, .slice A fresh.length c] rfl (by (try simp only [List.map_toArray, List.map_cons, List.map_nil]); first | done | rfl | (simp only [List.length_drop, List.length_take]; rfl)) ?_; refine (xsave g ok D 0 1 A c fresh N _ HD.out HG.out hN ⟨by decide, by decide⟩ (Kd.C_below HC.out HB.out) hl (fun k hk => HFR.out k (Nat.le_trans HB.out.size hk))).mono ?_; rintro e w9 ⟨rfl, hD, hfr⟩; refine ⟨_, rfl, ?_⟩; rw [HE.out]; have HD9 := Aside0.mk hD; have HF9 := Aside0.mk (Fr.trans (Fr.of_below (ok := ok) HB.out) hfr); have HC9 := Aside0.mk (C_fr (Kd.C_below HC.out HB.out) hfr HNA.out); clear hD hfr HB HD; have HB9 := Aside0.mk (Below.refl (w9.alloc (.cells #[.pointer (some ⟨g, 0, none⟩), .int .i64 1, .int .i64 0, .int .i64 0, .bool false] 92)).heap.size (w9.alloc (.cells #[.pointer (some ⟨g, 0, none⟩), .int .i64 1, .int .i64 0, .int .i64 0, .bool false] 92)))))
      refine bodyPost_ret (v := .tuple #[.pointer none, .slice none 0 0, .slice none 0 0, .int .i64 e]) (by simp [results, Try.results38, go_sem]) rfl (OpenedVX.no K2.out HF9.out HD9.out)
  · have HGB := Aside0.mk (show decide (q ≠ 0) = true from decide_eq_true k1)
    obtain ⟨f1, f2, f3, f4, f5⟩ := op_held (fresh := fresh) (D := D) (by rw [hq]; exact k1)
    unfold OpenedX
    rw [f1, f2, f3, f4, f5, hq]
    clear f1 f2 f3 f4 f5 h hb hG hC hok hA hq k1
    obtain ⟨s, hs⟩ : ∃ s, heldS (lkB D) = s := ⟨_, rfl⟩
    obtain ⟨rw_, hr⟩ : ∃ s, heldR (lkB D) = s := ⟨_, rfl⟩
    have HSS := Aside0.mk (And.intro hs hr)
    rw [hs, hr]
    clear hs hr
    go_enter Try.func38, Try.ntmps38
    go_wp2_with (first | ((with_reducible refine gate_dst (N := 16) rfl ?_); (try (refine gate_guard (by rfl) ?_; dsimp only)); refine goesL_ (some 16) rfl rfl Try.func50 (by kernel_rfl) rfl #[.pointer (some ⟨g, 0, none⟩)] rfl (by (try simp only [List.map_toArray, List.map_cons, List.map_nil]); first | done | rfl | (simp only [List.length_drop, List.length_take]; rfl)) ?_; refine (xlook g ok D _ HD.out HL.out HIB.out).mono ?_; rintro e w1 ⟨v1, v2, rfl, hh, hbl⟩; refine ⟨_, rfl, ?_⟩; rw [HGQ.out, HGB.out]; have HH := Aside0.mk hh.v; rw [HSS.out.1, HSS.out.2] at HH; clear hh; obtain ⟨A1, c1, A2, c2, e1, e2, hx1, hx2, hx3, hx4⟩ := (Aside0.out HH); subst e1 e2; clear hx1 hx2 hx3 hx4; have HB' := Aside0.mk (below_step HB.out hbl); have HD' := Aside0.mk (HD.out.below hbl); clear HB hbl HD; have HB := HB'; have HD := HD'; clear HB' HD'))
    have HBX := below_alloc (Below.refl w1.heap.size w1) (.cells #[.pointer (some ⟨g, 0, none⟩), .int .i64 q, .int .i64 (lkS D), .int .i64 (rw_.length : Int), .bool true] 92)
    obtain ⟨_, _, _, _, e1, e2, hx1, hx2, hx3, hx4⟩ := HH.out
    cases e1
    cases e2
    refine bodyPost_ret (v := .tuple #[.pointer (some ⟨w1.heap.size, 0, none⟩), .slice A1 s.length c1, .slice A2 rw_.length c2, .int .i64 0]) (by simp [results, Try.results38, go_sem]) rfl (OpenedVX.yes (Fr.of_below (below_step HB.out HBX)) (Nat.le_refl _) HB.out.size (HDB.out.below (below_step HB.out HBX)) (blk_new w1 _) ((HH.out.bound.mono (fun k hk => ⟨hk.1, Nat.ne_of_lt hk.2⟩)).below HBX))
end Go.Proofs.Ythaeppjhmjpecaa.B
