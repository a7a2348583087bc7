/- log.Open, giroref6.Open. Log.Add, Log.Save, Log.Rows; giroref6's. What is kept through the log's operations; girolaw6.looks, girolaw6.known. -/
import Derived.Test.YthaeppjhmjpecaaLM1
import Derived.Deep.RegionHeld
import Derived.Lib.SlBytesConst
namespace Go.Proofs.Ythaeppjhmjpecaa.B
open Go.RowKit Go.Proofs.YthaeppjhmjpecaaW.PrintWords Go.Proofs.YthaeppjhmjpecaaW.PrintLast Go.Proofs.YthaeppjhmjpecaaW.PrintMore
attribute [local go_sem] max2_int min2_int max_two min_two max_three min_three max_four min_four
set_option linter.unusedVariables false
set_option linter.unusedSimpArgs false
/-- A log beside its deck: the side that it goes on on, its generation, how many rows, is it stale? -/
structure Lg where
  side : Int
  gen : Int
  rows : Int
  stale : Bool
def Lg.cells (L : Lg) (g : Nat) : Array Value := #[.pointer (some ⟨g, 0, none⟩), .int .i64 L.side, .int .i64 L.gen, .int .i64 L.rows, .bool L.stale]
def Lg.cellsX (L : Lg) (g : Nat) : Array Value := #[.pointer (some ⟨g, 0, none⟩), .int .i64 L.gen, .int .i64 L.side, .int .i64 L.rows, .bool L.stale]
def IsL (w : World) (gl g : Nat) (L : Lg) : Prop := w.heap[gl]? = some (.cells (L.cells g) 89 (0, 0))
def IsLX (w : World) (gl g : Nat) (L : Lg) : Prop := w.heap[gl]? = some (.cells (L.cellsX g) 92 (0, 0))
/-- A snapshot and rows in memory, in blocks that are P, that is read. -/
def HoldsV (w : World) (P : Nat → Prop) (s : List Int) (r : List (List Int)) (v1 v2 : Value) : Prop := ∃ A0 c0 A1 c1, v1 = .slice A0 s.length c0 ∧ v2 = .slice A1 r.length c1 ∧ Kd.F (Kd.int .u8) w P A0 s.length s ∧ Kd.F (Kd.slice 5 (Kd.int .u8)) w P A1 r.length r ∧ s.length ≤ c0 ∧ r.length ≤ c1
theorem HoldsV.below {w w' : World} {P : Nat → Prop} {s : List Int} {r : List (List Int)} {v1 v2 : Value} (h : HoldsV w P s r v1 v2) (hb : Below w.heap.size w w') : HoldsV w' P s r v1 v2 := by
  obtain ⟨A0, c0, A1, c1, h1, h2, h3, h4, h5, h6⟩ := h
  exact ⟨A0, c0, A1, c1, h1, h2, Kd.F_below h3 hb, Kd.F_below h4 hb, h5, h6⟩
theorem HoldsV.mono {w : World} {P P' : Nat → Prop} {s : List Int} {r : List (List Int)} {v1 v2 : Value} (h : HoldsV w P s r v1 v2) (hp : ∀ k, P k → P' k) : HoldsV w P' s r v1 v2 := by
  obtain ⟨A0, c0, A1, c1, h1, h2, h3, h4, h5, h6⟩ := h
  exact ⟨A0, c0, A1, c1, h1, h2, Kd.F_mono h3 hp, Kd.F_mono h4 hp, h5, h6⟩
theorem HoldsV.bound {w : World} {P : Nat → Prop} {s : List Int} {r : List (List Int)} {v1 v2 : Value} (h : HoldsV w P s r v1 v2) : HoldsV w (fun k => P k ∧ k < w.heap.size) s r v1 v2 := by
  obtain ⟨A0, c0, A1, c1, h1, h2, h3, h4, h5, h6⟩ := h
  exact ⟨A0, c0, A1, c1, h1, h2, Kd.F_bound h3, Kd.F_bound h4, h5, h6⟩
/-- A call with a footprint that is apart from what is read. -/
theorem HoldsV.fr {w w' : World} {P ok : Nat → Prop} {s : List Int} {r : List (List Int)} {v1 v2 : Value} (h : HoldsV w P s r v1 v2) (hf : Fr ok w w') (hn : ∀ k, P k → k < w.heap.size → ¬ ok k) : HoldsV w' P s r v1 v2 := by
  obtain ⟨A0, c0, A1, c1, h1, h2, h3, h4, h5, h6⟩ := h
  exact ⟨A0, c0, A1, c1, h1, h2, Kd.F_step h3 (fun k hk hl => hf.2.2.2.2 k hl (hn k hk hl)), Kd.F_step h4 (fun k hk hl => hf.2.2.2.2 k hl (hn k hk hl)), h5, h6⟩
theorem HoldsV.out {w : World} {P : Nat → Prop} {s : List Int} {r : List (List Int)} {v1 v2 : Value} (h : HoldsV w P s r v1 v2) : ∃ A0 c0 A1 c1, v1 = .slice A0 s.length c0 ∧ v2 = .slice A1 r.length c1 ∧ Kd.C (Kd.int .u8) w A0 s.length s ∧ Kd.C (Kd.slice 5 (Kd.int .u8)) w A1 r.length r ∧ s.length ≤ c0 ∧ r.length ≤ c1 := by
  obtain ⟨A0, c0, A1, c1, h1, h2, h3, h4, h5, h6⟩ := h
  exact ⟨A0, c0, A1, c1, h1, h2, Kd.F_now h3, Kd.F_now h4, h5, h6⟩
theorem Holds.v {w : World} {B : Nat} {b : List Int} {v1 v2 : Value} (h : Holds w B (scan b).1 v1 v2) : HoldsV w (fun k => B ≤ k) (heldS b) (heldR b) v1 v2 := h
/-- What opening answers, the deck behind it, the log, the snapshot, the rows. -/
def opE (D : Dk) (fresh : List Int) : Int := if lkG D ≠ 0 then 0 else svE D 0 1 fresh
def opD (D : Dk) (fresh : List Int) : Dk := if lkG D ≠ 0 then D else svD D 0 1 fresh
def opS (D : Dk) (fresh : List Int) : List Int := if lkG D ≠ 0 then heldS (lkB D) else fresh
def opR (D : Dk) : List (List Int) := if lkG D ≠ 0 then heldR (lkB D) else []
def opL (D : Dk) : Lg := if lkG D ≠ 0 then ⟨lkS D, lkG D, (heldR (lkB D)).length, true⟩ else ⟨0, 1, 0, false⟩
theorem op_held {D : Dk} {fresh : List Int} (h : lkG D ≠ 0) : opE D fresh = 0 ∧ opD D fresh = D ∧ opS D fresh = heldS (lkB D) ∧ opR D = heldR (lkB D) ∧ opL D = ⟨lkS D, lkG D, (heldR (lkB D)).length, true⟩ := by
  unfold opE opD opS opR opL; rw [if_pos h, if_pos h, if_pos h, if_pos h, if_pos h]; exact ⟨rfl, rfl, rfl, rfl, rfl⟩
theorem op_fresh {D : Dk} {fresh : List Int} (h : lkG D = 0) : opE D fresh = svE D 0 1 fresh ∧ opD D fresh = svD D 0 1 fresh ∧ opS D fresh = fresh ∧ opR D = [] ∧ opL D = ⟨0, 1, 0, false⟩ := by
  have h' : ¬ lkG D ≠ 0 := fun k => k h
  unfold opE opD opS opR opL; rw [if_neg h', if_neg h', if_neg h', if_neg h', if_neg h']; exact ⟨rfl, rfl, rfl, rfl, rfl⟩
def nilS : Value := .slice none 0 0
def OpenedV (w w' : World) (ok : Nat → Prop) (g : Nat) (E : Int) (D' : Dk) (s : List Int) (r : List (List Int)) (L : Lg) (e : Ending) : Prop :=
  ∃ vp v1 v2, e = .returned (.tuple #[vp, v1, v2, .int .i64 E]) ∧ Fr ok w w' ∧
    ((E ≠ 0 ∧ vp = .pointer none ∧ v1 = .slice none 0 0 ∧ v2 = .slice none 0 0 ∧ IsD w' ok g D') ∨
     (E = 0 ∧ ∃ gl M, vp = .pointer (some ⟨gl, 0, none⟩) ∧ w.heap.size ≤ M ∧ M ≤ gl ∧ IsD w' (fun k => ok k ∧ k < M) g D' ∧ IsL w' gl g L ∧ HoldsV w' (fun k => M ≤ k ∧ k ≠ gl) s r v1 v2))
def Opened (w w' : World) (ok : Nat → Prop) (g : Nat) (D : Dk) (fresh : List Int) (e : Ending) : Prop := OpenedV w w' ok g (opE D fresh) (opD D fresh) (opS D fresh) (opR D) (opL D) e
theorem OpenedV.no {w w' : World} {ok : Nat → Prop} {g : Nat} {E : Int} {D' : Dk} {s : List Int} {r : List (List Int)} {L : Lg} (h : E ≠ 0) (hf : Fr ok w w') (hd : IsD w' ok g D') : OpenedV w w' ok g E D' s r L (.returned (.tuple #[.pointer none, .slice none 0 0, .slice none 0 0, .int .i64 E])) := ⟨_, _, _, rfl, hf, .inl ⟨h, rfl, rfl, rfl, hd⟩⟩
theorem OpenedV.yes {w w' : World} {ok : Nat → Prop} {g gl M : Nat} {D' : Dk} {s : List Int} {r : List (List Int)} {L : Lg} {v1 v2 : Value} (hf : Fr ok w w') (hM : w.heap.size ≤ M) (hgl : M ≤ gl) (hd : IsD w' (fun k => ok k ∧ k < M) g D') (hL : IsL w' gl g L) (hv : HoldsV w' (fun k => M ≤ k ∧ k ≠ gl) s r v1 v2) : OpenedV w w' ok g 0 D' s r L (.returned (.tuple #[.pointer (some ⟨gl, 0, none⟩), v1, v2, .int .i64 0])) := ⟨_, _, _, rfl, hf, .inr ⟨rfl, gl, M, rfl, hM, hgl, hd, hL, hv⟩⟩
def OpenedVX (w w' : World) (ok : Nat → Prop) (g : Nat) (E : Int) (D' : Dk) (s : List Int) (r : List (List Int)) (L : Lg) (e : Ending) : Prop :=
  ∃ vp v1 v2, e = .returned (.tuple #[vp, v1, v2, .int .i64 E]) ∧ Fr ok w w' ∧
    ((E ≠ 0 ∧ vp = .pointer none ∧ v1 = .slice none 0 0 ∧ v2 = .slice none 0 0 ∧ IsX w' ok g D') ∨
     (E = 0 ∧ ∃ gl M, vp = .pointer (some ⟨gl, 0, none⟩) ∧ w.heap.size ≤ M ∧ M ≤ gl ∧ IsX w' (fun k => ok k ∧ k < M) g D' ∧ IsLX w' gl g L ∧ HoldsV w' (fun k => M ≤ k ∧ k ≠ gl) s r v1 v2))
def OpenedX (w w' : World) (ok : Nat → Prop) (g : Nat) (D : Dk) (fresh : List Int) (e : Ending) : Prop := OpenedVX w w' ok g (opE D fresh) (opD D fresh) (opS D fresh) (opR D) (opL D) e
theorem OpenedVX.no {w w' : World} {ok : Nat → Prop} {g : Nat} {E : Int} {D' : Dk} {s : List Int} {r : List (List Int)} {L : Lg} (h : E ≠ 0) (hf : Fr ok w w') (hd : IsX w' ok g D') : OpenedVX w w' ok g E D' s r L (.returned (.tuple #[.pointer none, .slice none 0 0, .slice none 0 0, .int .i64 E])) := ⟨_, _, _, rfl, hf, .inl ⟨h, rfl, rfl, rfl, hd⟩⟩
theorem OpenedVX.yes {w w' : World} {ok : Nat → Prop} {g gl M : Nat} {D' : Dk} {s : List Int} {r : List (List Int)} {L : Lg} {v1 v2 : Value} (hf : Fr ok w w') (hM : w.heap.size ≤ M) (hgl : M ≤ gl) (hd : IsX w' (fun k => ok k ∧ k < M) g D') (hL : IsLX w' gl g L) (hv : HoldsV w' (fun k => M ≤ k ∧ k ≠ gl) s r v1 v2) : OpenedVX w w' ok g 0 D' s r L (.returned (.tuple #[.pointer (some ⟨gl, 0, none⟩), v1, v2, .int .i64 0])) := ⟨_, _, _, rfl, hf, .inr ⟨rfl, gl, M, rfl, hM, hgl, hd, hL, hv⟩⟩
set_option maxHeartbeats 2000000 in
theorem lopen (g : Nat) (ok : Nat → Prop) (D : Dk) (A : Option Addr) (c : Nat) (fresh : List Int) (N : Int) (w : World) (h : IsD w ok g D) (hb : IsB D.b0 ∧ IsB D.b1) (hG : D.G N) (hN : N < 900000) (hC : Kd.C (Kd.int .u8) w A fresh.length fresh) (hl : fresh.length ≤ 100000000) (hok : ∀ k, w.heap.size ≤ k → ok k) (hA : ∀ ad, A = some ad → 0 < fresh.length → ¬ ok ad.block) :
    Calls Try.prog 37 #[.pointer (some ⟨g, 0, none⟩), .slice A fresh.length c] w fun e w' => Opened w w' ok g D fresh e := by
  have HB := Aside0.mk (Below.refl w.heap.size w)
  have HD := Aside0.mk h
  have HG := Aside0.mk hG
  have HC := Aside0.mk hC
  have HFR := Aside0.mk hok
  have HNA := Aside0.mk hA
  have HDB := Aside0.mk h.bound
  have HIB := Aside0.mk hb
  have HL := Aside0.mk (show D.b0.length ≤ 1000000 ∧ D.b1.length ≤ 1000000 by have := hG.2.2.1; have := hG.2.2.2.1; have := hG.2.2.2.2.1; omega)
  obtain ⟨q, hq⟩ : ∃ q, lkG D = q := ⟨_, rfl⟩
  have HGQ := Aside0.mk hq
  by_cases k1 : q = 0
  · subst k1
    have HGB := Aside0.mk (show decide ((0 : Int) ≠ 0) = false from rfl)
    obtain ⟨f1, f2, f3, f4, f5⟩ := op_fresh (fresh := fresh) hq
    obtain ⟨e, he⟩ : ∃ e, svE D 0 1 fresh = e := ⟨_, rfl⟩
    have HE := Aside0.mk he
    unfold Opened
    rw [f1, f2, f3, f4, f5, he]
    clear f1 f2 f3 f4 f5 he h hb hG hC hok hA hq
    by_cases k2 : e = 0
    · subst k2
      go_enter Try.func37, Try.ntmps37
      go_wp2_with (first | ((with_reducible refine gate_dst (N := 16) rfl ?_); (try (refine gate_guard (by rfl) ?_; dsimp only)); refine goesL_ (some 16) rfl rfl Try.func34 (by kernel_rfl) rfl #[.pointer (some ⟨g, 0, none⟩)] rfl (by (try simp only [List.map_toArray, List.map_cons, List.map_nil]); first | done | rfl | (simp only [List.length_drop, List.length_take]; rfl)) ?_; refine (llook g ok D _ HD.out HL.out HIB.out).mono ?_; rintro e w1 ⟨v1, v2, rfl, hh, hbl⟩; refine ⟨_, rfl, ?_⟩; rw [HGQ.out, HGB.out]; have HB' := Aside0.mk (below_step HB.out hbl); have HD' := Aside0.mk (HD.out.below hbl); clear HB hh hbl HD; have HB := HB'; have HD := HD'; clear HB' HD') | ((with_reducible refine gate_dst (N := 34) rfl ?_); (try (refine gate_guard (by rfl) ?_; dsimp only)); refine goesL_ (some 34) rfl rfl Try.func51 (by kernel_rfl) rfl #[.pointer (some ⟨g, 0, none⟩), .int .i64 0, .int .i64 1, .slice A fresh.length c] rfl (by (try simp only [List.map_toArray, List.map_cons, List.map_nil]); first | done | rfl | (simp only [List.length_drop, List.length_take]; rfl)) ?_; refine (lsaves g ok D 0 1 A c fresh N _ HD.out HG.out hN ⟨by decide, by decide⟩ (Kd.C_below HC.out HB.out) hl (fun k hk => HFR.out k (Nat.le_trans HB.out.size hk))).mono ?_; rintro e w9 ⟨rfl, hD, hfr⟩; refine ⟨_, rfl, ?_⟩; rw [HE.out]; have HD9 := Aside0.mk hD; have HF9 := Aside0.mk (Fr.trans (Fr.of_below (ok := ok) HB.out) hfr); have HC9 := Aside0.mk (C_fr (Kd.C_below HC.out HB.out) hfr HNA.out); clear hD hfr HB HD; have HB9 := Aside0.mk (Below.refl (w9.alloc (.cells #[.pointer (some ⟨g, 0, none⟩), .int .i64 0, .int .i64 1, .int .i64 0, .bool false] 89)).heap.size (w9.alloc (.cells #[.pointer (some ⟨g, 0, none⟩), .int .i64 0, .int .i64 1, .int .i64 0, .bool false] 89)))) | ((with_reducible refine gate_dst (N := 41) rfl ?_); refine Kd.R_lit (Kd.int .u8) (w0 := (w9.alloc (.cells #[.pointer (some ⟨g, 0, none⟩), .int .i64 0, .int .i64 1, .int .i64 0, .bool false] 89))) (w9.alloc (.cells #[.pointer (some ⟨g, 0, none⟩), .int .i64 0, .int .i64 1, .int .i64 0, .bool false] 89)).heap.size 5 rfl (N := 41) rfl (xs := ([] : List Int)) (inner := []) (ok := fun _ => True) (okp := fun _ => True) (by first | (go_simp; done) | (go_simp; rfl) | (go_simp; exact ⟨rfl, rfl⟩)) (Reps.none _ _) (fun _ hk => hk) trivial HB9.out HB9.out.size (by simp) ?_; intro v4 w4 ho hb hg_ hnew_; clear HB9 hg_ hnew_; have HB9 := Aside0.mk hb; have HO := Aside0.mk ho; clear ho hb) | ((with_reducible refine gate_dst (N := 43) rfl ?_); refine Kd.R_append_row (Value.int .u8) 0 (h1 := fun _ => rfl) (w0 := (w9.alloc (.cells #[.pointer (some ⟨g, 0, none⟩), .int .i64 0, .int .i64 1, .int .i64 0, .bool false] 89))) (w9.alloc (.cells #[.pointer (some ⟨g, 0, none⟩), .int .i64 0, .int .i64 1, .int .i64 0, .bool false] 89)).heap.size rfl _ _ 22 5 (.int .u8 0) 1 rfl Try.underlying22 info5 rfl (by decide) v4 ([] : List Int) fresh A fresh.length c (fun _ => True) rfl rfl (fun _ _ => trivial) HO.out (Kd.C_below HC9.out (below_step (below_alloc (Below.refl _ _) _) HB9.out)) HB9.out HB9.out.size (by simp; omega) ?_; intro v5 w5 ho hb hg_ hnew_; clear hg_ hnew_ HB9 HO; rw [List.nil_append] at ho; have HB9 := Aside0.mk hb; obtain ⟨A5, c5, e5⟩ := Kd.R_slice ho; subst e5; have HO := Aside0.mk (And.intro (Kd.R_reads' ho).2.1 (Kd.F_mono (ok' := fun k => w9.heap.size ≤ k ∧ k ≠ w9.heap.size) (Kd.R_F (Kd.R_bound ho)) (fun k hk => by have h1 := hk.2.1; have h2 : w9.heap.size + 1 ≤ k := (by simpa using h1); omega))); clear ho hb))
      refine bodyPost_ret (v := .tuple #[.pointer (some ⟨w9.heap.size, 0, none⟩), .slice A5 fresh.length c5, .slice none 0 0, .int .i64 0]) (by simp [results, Try.results37, go_sem]) rfl (OpenedV.yes (Fr.trans HF9.out (Fr.of_below (below_step (below_alloc (Below.refl _ _) _) HB9.out))) HF9.out.2.2.2.1 (Nat.le_refl _) (HD9.out.bound.below (below_step (below_alloc (Below.refl _ _) _) HB9.out)) ((HB9.out.block w9.heap.size (by simp)).trans (blk_new w9 _)) ⟨A5, c5, none, 0, rfl, rfl, HO.out.2, Kd.F_nil _ _ _, HO.out.1, Nat.le_refl _⟩)
    · have t2 : (e == 0) = false := beq_eq_false_iff_ne.2 k2
      have t2n : (e != 0) = true := by rw [bne_iff_ne]; exact k2
      have K2 := Aside0.mk k2
      clear k2
      go_enter Try.func37, Try.ntmps37
      go_wp2_with (first | ((with_reducible refine gate_dst (N := 16) rfl ?_); (try (refine gate_guard (by rfl) ?_; dsimp only)); refine goesL_ (some 16) rfl rfl Try.func34 (by kernel_rfl) rfl #[.pointer (some ⟨g, 0, none⟩)] rfl (by (try simp only [List.map_toArray, List.map_cons, List.map_nil]); first | done | rfl | (simp only [List.length_drop, List.length_take]; rfl)) ?_; refine (llook g ok D _ HD.out HL.out HIB.out).mono ?_; rintro e w1 ⟨v1, v2, rfl, hh, hbl⟩; refine ⟨_, rfl, ?_⟩; rw [HGQ.out, HGB.out]; have HB' := Aside0.mk (below_step HB.out hbl); have HD' := Aside0.mk (HD.out.below hbl); clear HB hh hbl HD; have HB := HB'; have HD := HD'; clear HB' HD') | ((with_reducible refine gate_dst (N := 34) rfl ?_); (try (refine gate_guard (by rfl) ?_; dsimp only)); refine goesL_ (some 34) rfl rfl Try.func51 (by kernel_rfl) rfl #[.pointer (some ⟨g, 0, none⟩), .int .i64 0, .int .i64 1, .slice A fresh.length c] rfl (by (try simp only [List.map_toArray, List.map_cons, List.map_nil]); first | done | rfl | (simp only [List.length_drop, List.length_take]; rfl)) ?_; refine (lsaves g ok D 0 1 A c fresh N _ HD.out HG.out hN ⟨by decide, by decide⟩ (Kd.C_below HC.out HB.out) hl (fun k hk => HFR.out k (Nat.le_trans HB.out.size hk))).mono ?_; rintro e w9 ⟨rfl, hD, hfr⟩; refine ⟨_, rfl, ?_⟩; rw [HE.out]; have HD9 := Aside0.mk hD; have HF9 := Aside0.mk (Fr.trans (Fr.of_below (ok := ok) HB.out) hfr); have HC9 := Aside0.mk (C_fr (Kd.C_below HC.out HB.out) hfr HNA.out); clear hD hfr HB HD; have HB9 := Aside0.mk (Below.refl (w9.alloc (.cells #[.pointer (some ⟨g, 0, none⟩), .int .i64 0, .int .i64 1, .int .i64 0, .bool false] 89)).heap.size (w9.alloc (.cells #[.pointer (some ⟨g, 0, none⟩), .int .i64 0, .int .i64 1, .int .i64 0, .bool false] 89)))))
      refine bodyPost_ret (v := .tuple #[.pointer none, .slice none 0 0, .slice none 0 0, .int .i64 e]) (by simp [results, Try.results37, go_sem]) rfl (OpenedV.no K2.out HF9.out HD9.out)
  · have HGB := Aside0.mk (show decide (q ≠ 0) = true from decide_eq_true k1)
    obtain ⟨f1, f2, f3, f4, f5⟩ := op_held (fresh := fresh) (D := D) (by rw [hq]; exact k1)
    unfold Opened
    rw [f1, f2, f3, f4, f5, hq]
    clear f1 f2 f3 f4 f5 h hb hG hC hok hA hq k1
    obtain ⟨s, hs⟩ : ∃ s, heldS (lkB D) = s := ⟨_, rfl⟩
    obtain ⟨rw_, hr⟩ : ∃ s, heldR (lkB D) = s := ⟨_, rfl⟩
    have HSS := Aside0.mk (And.intro hs hr)
    rw [hs, hr]
    clear hs hr
    go_enter Try.func37, Try.ntmps37
    go_wp2_with (first | ((with_reducible refine gate_dst (N := 16) rfl ?_); (try (refine gate_guard (by rfl) ?_; dsimp only)); refine goesL_ (some 16) rfl rfl Try.func34 (by kernel_rfl) rfl #[.pointer (some ⟨g, 0, none⟩)] rfl (by (try simp only [List.map_toArray, List.map_cons, List.map_nil]); first | done | rfl | (simp only [List.length_drop, List.length_take]; rfl)) ?_; refine (llook g ok D _ HD.out HL.out HIB.out).mono ?_; rintro e w1 ⟨v1, v2, rfl, hh, hbl⟩; refine ⟨_, rfl, ?_⟩; rw [HGQ.out, HGB.out]; have HH := Aside0.mk hh.v; rw [HSS.out.1, HSS.out.2] at HH; clear hh; obtain ⟨A1, c1, A2, c2, e1, e2, hx1, hx2, hx3, hx4⟩ := (Aside0.out HH); subst e1 e2; clear hx1 hx2 hx3 hx4; have HB' := Aside0.mk (below_step HB.out hbl); have HD' := Aside0.mk (HD.out.below hbl); clear HB hbl HD; have HB := HB'; have HD := HD'; clear HB' HD'))
    have HBX := below_alloc (Below.refl w1.heap.size w1) (.cells #[.pointer (some ⟨g, 0, none⟩), .int .i64 (lkS D), .int .i64 q, .int .i64 (rw_.length : Int), .bool true] 89)
    obtain ⟨_, _, _, _, e1, e2, hx1, hx2, hx3, hx4⟩ := HH.out
    cases e1
    cases e2
    refine bodyPost_ret (v := .tuple #[.pointer (some ⟨w1.heap.size, 0, none⟩), .slice A1 s.length c1, .slice A2 rw_.length c2, .int .i64 0]) (by simp [results, Try.results37, go_sem]) rfl (OpenedV.yes (Fr.of_below (below_step HB.out HBX)) (Nat.le_refl _) HB.out.size (HDB.out.below (below_step HB.out HBX)) (blk_new w1 _) ((HH.out.bound.mono (fun k hk => ⟨hk.1, Nat.ne_of_lt hk.2⟩)).below HBX))
set_option maxHeartbeats 2000000 in
theorem xopen (g : Nat) (ok : Nat → Prop) (D : Dk) (A : Option Addr) (c : Nat) (fresh : List Int) (N : Int) (w : World) (h : IsX w ok g D) (hb : IsB D.b0 ∧ IsB D.b1) (hG : D.G N) (hN : N < 900000) (hC : Kd.C (Kd.int .u8) w A fresh.length fresh) (hl : fresh.length ≤ 100000000) (hok : ∀ k, w.heap.size ≤ k → ok k) (hA : ∀ ad, A = some ad → 0 < fresh.length → ¬ ok ad.block) :
    Calls Try.prog 38 #[.pointer (some ⟨g, 0, none⟩), .slice A fresh.length c] w fun e w' => OpenedX w w' ok g D fresh e := by
  have HB := Aside0.mk (Below.refl w.heap.size w)
  have HD := Aside0.mk h
  have HG := Aside0.mk hG
  have HC := Aside0.mk hC
  have HFR := Aside0.mk hok
  have HNA := Aside0.mk hA
  have HDB := Aside0.mk h.bound
  have HIB := Aside0.mk hb
  have HL := Aside0.mk (show D.b0.length ≤ 1000000 ∧ D.b1.length ≤ 1000000 by have := hG.2.2.1; have := hG.2.2.2.1; have := hG.2.2.2.2.1; omega)
  obtain ⟨q, hq⟩ : ∃ q, lkG D = q := ⟨_, rfl⟩
  have HGQ := Aside0.mk hq
  by_cases k1 : q = 0
  · subst k1
    have HGB := Aside0.mk (show decide ((0 : Int) ≠ 0) = false from rfl)
    obtain ⟨f1, f2, f3, f4, f5⟩ := op_fresh (fresh := fresh) hq
    obtain ⟨e, he⟩ : ∃ e, svE D 0 1 fresh = e := ⟨_, rfl⟩
    have HE := Aside0.mk he
    unfold OpenedX
    rw [f1, f2, f3, f4, f5, he]
    clear f1 f2 f3 f4 f5 he h hb hG hC hok hA hq
    by_cases k2 : e = 0
    · subst k2
      go_enter Try.func38, Try.ntmps38
      go_wp2_with (first | ((with_reducible refine gate_dst (N := 16) rfl ?_); (try (refine gate_guard (by rfl) ?_; dsimp only)); refine goesL_ (some 16) rfl rfl Try.func50 (by kernel_rfl) rfl #[.pointer (some ⟨g, 0, none⟩)] rfl (by (try simp only [List.map_toArray, List.map_cons, List.map_nil]); first | done | rfl | (simp only [List.length_drop, List.length_take]; rfl)) ?_; refine (xlook g ok D _ HD.out HL.out HIB.out).mono ?_; rintro e w1 ⟨v1, v2, rfl, hh, hbl⟩; refine ⟨_, rfl, ?_⟩; rw [HGQ.out, HGB.out]; have HB' := Aside0.mk (below_step HB.out hbl); have HD' := Aside0.mk (HD.out.below hbl); clear HB hh hbl HD; have HB := HB'; have HD := HD'; clear HB' HD') | ((with_reducible refine gate_dst (N := 34) rfl ?_); (try (refine gate_guard (by rfl) ?_; dsimp only)); refine goesL_ (some 34) rfl rfl Try.func52 (by kernel_rfl) rfl #[.pointer (some ⟨g, 0, none⟩), .int .i64 1, .int .i64 0, .slice A fresh.length c] rfl (by (try simp only [List.map_toArray, List.map_cons, List.map_nil]); first | done | rfl | (simp only [List.length_drop, List.length_take]; rfl)) ?_; refine (xsave g ok D 0 1 A c fresh N _ HD.out HG.out hN ⟨by decide, by decide⟩ (Kd.C_below HC.out HB.out) hl (fun k hk => HFR.out k (Nat.le_trans HB.out.size hk))).mono ?_; rintro e w9 ⟨rfl, hD, hfr⟩; refine ⟨_, rfl, ?_⟩; rw [HE.out]; have HD9 := Aside0.mk hD; have HF9 := Aside0.mk (Fr.trans (Fr.of_below (ok := ok) HB.out) hfr); have HC9 := Aside0.mk (C_fr (Kd.C_below HC.out HB.out) hfr HNA.out); clear hD hfr HB HD; have HB9 := Aside0.mk (Below.refl (w9.alloc (.cells #[.pointer (some ⟨g, 0, none⟩), .int .i64 1, .int .i64 0, .int .i64 0, .bool false] 92)).heap.size (w9.alloc (.cells #[.pointer (some ⟨g, 0, none⟩), .int .i64 1, .int .i64 0, .int .i64 0, .bool false] 92)))) | ((with_reducible refine gate_dst (N := 41) rfl ?_); refine Kd.R_lit (Kd.int .u8) (w0 := (w9.alloc (.cells #[.pointer (some ⟨g, 0, none⟩), .int .i64 1, .int .i64 0, .int .i64 0, .bool false] 92))) (w9.alloc (.cells #[.pointer (some ⟨g, 0, none⟩), .int .i64 1, .int .i64 0, .int .i64 0, .bool false] 92)).heap.size 5 rfl (N := 41) rfl (xs := ([] : List Int)) (inner := []) (ok := fun _ => True) (okp := fun _ => True) (by first | (go_simp; done) | (go_simp; rfl) | (go_simp; exact ⟨rfl, rfl⟩)) (Reps.none _ _) (fun _ hk => hk) trivial HB9.out HB9.out.size (by simp) ?_; intro v4 w4 ho hb hg_ hnew_; clear HB9 hg_ hnew_; have HB9 := Aside0.mk hb; have HO := Aside0.mk ho; clear ho hb) | ((with_reducible refine gate_dst (N := 43) rfl ?_); refine Kd.R_append_row (Value.int .u8) 0 (h1 := fun _ => rfl) (w0 := (w9.alloc (.cells #[.pointer (some ⟨g, 0, none⟩), .int .i64 1, .int .i64 0, .int .i64 0, .bool false] 92))) (w9.alloc (.cells #[.pointer (some ⟨g, 0, none⟩), .int .i64 1, .int .i64 0, .int .i64 0, .bool false] 92)).heap.size rfl _ _ 22 5 (.int .u8 0) 1 rfl Try.underlying22 info5 rfl (by decide) v4 ([] : List Int) fresh A fresh.length c (fun _ => True) rfl rfl (fun _ _ => trivial) HO.out (Kd.C_below HC9.out (below_step (below_alloc (Below.refl _ _) _) HB9.out)) HB9.out HB9.out.size (by simp; omega) ?_; intro v5 w5 ho hb hg_ hnew_; clear hg_ hnew_ HB9 HO; rw [List.nil_append] at ho; have HB9 := Aside0.mk hb; obtain ⟨A5, c5, e5⟩ := Kd.R_slice ho; subst e5; have HO := Aside0.mk (And.intro (Kd.R_reads' ho).2.1 (Kd.F_mono (ok' := fun k => w9.heap.size ≤ k ∧ k ≠ w9.heap.size) (Kd.R_F (Kd.R_bound ho)) (fun k hk => by have h1 := hk.2.1; have h2 : w9.heap.size + 1 ≤ k := (by simpa using h1); omega))); clear ho hb))
      refine bodyPost_ret (v := .tuple #[.pointer (some ⟨w9.heap.size, 0, none⟩), .slice A5 fresh.length c5, .slice none 0 0, .int .i64 0]) (by simp [results, Try.results38, go_sem]) rfl (OpenedVX.yes (Fr.trans HF9.out (Fr.of_below (below_step (below_alloc (Below.refl _ _) _) HB9.out))) HF9.out.2.2.2.1 (Nat.le_refl _) (HD9.out.bound.below (below_step (below_alloc (Below.refl _ _) _) HB9.out)) ((HB9.out.block w9.heap.size (by simp)).trans (blk_new w9 _)) ⟨A5, c5, none, 0, rfl, rfl, HO.out.2, Kd.F_nil _ _ _, HO.out.1, Nat.le_refl _⟩)
    · have t2 : (e == 0) = false := beq_eq_false_iff_ne.2 k2
      have t2n : (e != 0) = true := by rw [bne_iff_ne]; exact k2
      have K2 := Aside0.mk k2
      clear k2
      go_enter Try.func38, Try.ntmps38
      go_wp2_with (first | ((with_reducible refine gate_dst (N := 16) rfl ?_); (try (refine gate_guard (by rfl) ?_; dsimp only)); refine goesL_ (some 16) rfl rfl Try.func50 (by kernel_rfl) rfl #[.pointer (some ⟨g, 0, none⟩)] rfl (by (try simp only [List.map_toArray, List.map_cons, List.map_nil]); first | done | rfl | (simp only [List.length_drop, List.length_take]; rfl)) ?_; refine (xlook g ok D _ HD.out HL.out HIB.out).mono ?_; rintro e w1 ⟨v1, v2, rfl, hh, hbl⟩; refine ⟨_, rfl, ?_⟩; rw [HGQ.out, HGB.out]; have HB' := Aside0.mk (below_step HB.out hbl); have HD' := Aside0.mk (HD.out.below hbl); clear HB hh hbl HD; have HB := HB'; have HD := HD'; clear HB' HD') | ((with_reducible refine gate_dst (N := 34) rfl ?_); (try (refine gate_guard (by rfl) ?_; dsimp only)); refine goesL_ (some 34) rfl rfl Try.func52 (by kernel_rfl) rfl #[.pointer (some ⟨g, 0, none⟩), .int .i64 1, .int .i64 0, .slice A fresh.length c] rfl (by (try simp only [List.map_toArray, List.map_cons, List.map_nil]); first | done | rfl | (simp only [List.length_drop, List.length_take]; rfl)) ?_; refine (xsave g ok D 0 1 A c fresh N _ HD.out HG.out hN ⟨by decide, by decide⟩ (Kd.C_below HC.out HB.out) hl (fun k hk => HFR.out k (Nat.le_trans HB.out.size hk))).mono ?_; rintro e w9 ⟨rfl, hD, hfr⟩; refine ⟨_, rfl, ?_⟩; rw [HE.out]; have HD9 := Aside0.mk hD; have HF9 := Aside0.mk (Fr.trans (Fr.of_below (ok := ok) HB.out) hfr); have HC9 := Aside0.mk (C_fr (Kd.C_below HC.out HB.out) hfr HNA.out); clear hD hfr HB HD; have HB9 := Aside0.mk (Below.refl (w9.alloc (.cells #[.pointer (some ⟨g, 0, none⟩), .int .i64 1, .int .i64 0, .int .i64 0, .bool false] 92)).heap.size (w9.alloc (.cells #[.pointer (some ⟨g, 0, none⟩), .int .i64 1, .int .i64 0, .int .i64 0, .bool false] 92)))))
      refine bodyPost_ret (v := .tuple #[.pointer none, .slice none 0 0, .slice none 0 0, .int .i64 e]) (by simp [results, Try.results38, go_sem]) rfl (OpenedVX.no K2.out HF9.out HD9.out)
  · have HGB := Aside0.mk (show decide (q ≠ 0) = true from decide_eq_true k1)
    obtain ⟨f1, f2, f3, f4, f5⟩ := op_held (fresh := fresh) (D := D) (by rw [hq]; exact k1)
    unfold OpenedX
    rw [f1, f2, f3, f4, f5, hq]
    clear f1 f2 f3 f4 f5 h hb hG hC hok hA hq k1
    obtain ⟨s, hs⟩ : ∃ s, heldS (lkB D) = s := ⟨_, rfl⟩
    obtain ⟨rw_, hr⟩ : ∃ s, heldR (lkB D) = s := ⟨_, rfl⟩
    have HSS := Aside0.mk (And.intro hs hr)
    rw [hs, hr]
    clear hs hr
    go_enter Try.func38, Try.ntmps38
    go_wp2_with (first | ((with_reducible refine gate_dst (N := 16) rfl ?_); (try (refine gate_guard (by rfl) ?_; dsimp only)); refine goesL_ (some 16) rfl rfl Try.func50 (by kernel_rfl) rfl #[.pointer (some ⟨g, 0, none⟩)] rfl (by (try simp only [List.map_toArray, List.map_cons, List.map_nil]); first | done | rfl | (simp only [List.length_drop, List.length_take]; rfl)) ?_; refine (xlook g ok D _ HD.out HL.out HIB.out).mono ?_; rintro e w1 ⟨v1, v2, rfl, hh, hbl⟩; refine ⟨_, rfl, ?_⟩; rw [HGQ.out, HGB.out]; have HH := Aside0.mk hh.v; rw [HSS.out.1, HSS.out.2] at HH; clear hh; obtain ⟨A1, c1, A2, c2, e1, e2, hx1, hx2, hx3, hx4⟩ := (Aside0.out HH); subst e1 e2; clear hx1 hx2 hx3 hx4; have HB' := Aside0.mk (below_step HB.out hbl); have HD' := Aside0.mk (HD.out.below hbl); clear HB hbl HD; have HB := HB'; have HD := HD'; clear HB' HD'))
    have HBX := below_alloc (Below.refl w1.heap.size w1) (.cells #[.pointer (some ⟨g, 0, none⟩), .int .i64 q, .int .i64 (lkS D), .int .i64 (rw_.length : Int), .bool true] 92)
    obtain ⟨_, _, _, _, e1, e2, hx1, hx2, hx3, hx4⟩ := HH.out
    cases e1
    cases e2
    refine bodyPost_ret (v := .tuple #[.pointer (some ⟨w1.heap.size, 0, none⟩), .slice A1 s.length c1, .slice A2 rw_.length c2, .int .i64 0]) (by simp [results, Try.results38, go_sem]) rfl (OpenedVX.yes (Fr.of_below (below_step HB.out HBX)) (Nat.le_refl _) HB.out.size (HDB.out.below (below_step HB.out HBX)) (blk_new w1 _) ((HH.out.bound.mono (fun k hk => ⟨hk.1, Nat.ne_of_lt hk.2⟩)).below HBX))
/-- What adding a row answers, the deck behind it, the log. -/
def adOk (L : Lg) (row : List Int) : Bool := recok row && !L.stale
def adE (D : Dk) (L : Lg) (row : List Int) : Int := if adOk L row = false then 10 else if D.appE L.side (recp row) = 3 then 10 else if D.appE L.side (recp row) ≠ 0 then D.appE L.side (recp row) else (D.app L.side (recp row)).syncE
def adD (D : Dk) (L : Lg) (row : List Int) : Dk := if adOk L row = false then D else if D.appE L.side (recp row) = 3 then D.app L.side (recp row) else if D.appE L.side (recp row) ≠ 0 then D.app L.side (recp row) else (D.app L.side (recp row)).sync
def adL (D : Dk) (L : Lg) (row : List Int) : Lg := if adE D L row = 0 then { L with rows := L.rows + 1 } else L
theorem ad_no {D : Dk} {L : Lg} {row : List Int} (h : adOk L row = false) : adE D L row = 10 ∧ adD D L row = D ∧ adL D L row = L := by
  have e : adE D L row = 10 := if_pos h
  exact ⟨e, if_pos h, if_neg (by rw [e]; decide)⟩
theorem ad_app {D : Dk} {L : Lg} {row : List Int} {e : Int} (h : adOk L row = true) (h1 : D.appE L.side (recp row) = e) (h2 : e ≠ 0) (h3 : e ≠ 3) : adE D L row = e ∧ adD D L row = D.app L.side (recp row) ∧ adL D L row = L := by
  have e1 : adE D L row = e := by unfold adE; rw [h1]; simp [h, h2, h3]
  exact ⟨e1, by unfold adD; rw [h1]; simp [h, h2, h3], if_neg (by rw [e1]; exact h2)⟩
theorem ad_full {D : Dk} {L : Lg} {row : List Int} (h : adOk L row = true) (h1 : D.appE L.side (recp row) = 3) : adE D L row = 10 ∧ adD D L row = D.app L.side (recp row) ∧ adL D L row = L := by
  have e1 : adE D L row = 10 := by unfold adE; rw [h1]; simp [h]
  exact ⟨e1, by unfold adD; rw [h1]; simp [h], if_neg (by rw [e1]; decide)⟩
theorem ad_sync {D : Dk} {L : Lg} {row : List Int} (h : adOk L row = true) (h1 : D.appE L.side (recp row) = 0) : adE D L row = (D.app L.side (recp row)).syncE ∧ adD D L row = (D.app L.side (recp row)).sync ∧ adL D L row = if (D.app L.side (recp row)).syncE = 0 then { L with rows := L.rows + 1 } else L := by
  have e1 : adE D L row = (D.app L.side (recp row)).syncE := by unfold adE; rw [h1]; simp [h]
  exact ⟨e1, by unfold adD; rw [h1]; simp [h], by unfold adL; rw [e1]⟩
/-- A log's numbers as they should be. -/
def Lg.G (L : Lg) (N : Int) : Prop := (L.side = 0 ∨ L.side = 1) ∧ 1 ≤ L.gen ∧ L.gen ≤ 4611686018427387904 ∧ 0 ≤ L.rows ∧ L.rows ≤ N
/-- What saving leaves of the log. -/
def saL (D : Dk) (L : Lg) (snap : List Int) : Lg := if svE D (1 - L.side) (L.gen + 1) snap = 0 then ⟨1 - L.side, L.gen + 1, 0, false⟩ else L
theorem fr_gl {ok : Nat → Prop} {w w' : World} {gl : Nat} {o : Obj} (h : Fr ok w w') (hn : ¬ ok gl) (hg : w.heap[gl]? = some o) : w'.heap[gl]? = some o := (h.2.2.2.2 gl (by
  rcases Nat.lt_or_ge gl w.heap.size with h | h
  · exact h
  · rw [Array.getElem?_eq_none h] at hg; cases hg) hn).trans hg
theorem cells5v {W : World} {g t : Nat} {a0 a1 a2 a3 a4 : Value} (h : W.heap[g]? = some (.cells #[a0, a1, a2, a3, a4] t (0, 0))) : W.cell? ⟨g, 0, none⟩ = some a0 ∧ W.cell? ⟨g, 1, none⟩ = some a1 ∧ W.cell? ⟨g, 2, none⟩ = some a2 ∧ W.cell? ⟨g, 3, none⟩ = some a3 ∧ W.cell? ⟨g, 4, none⟩ = some a4 :=
  ⟨blk_cell h 0, blk_cell h 1, blk_cell h 2, blk_cell h 3, blk_cell h 4⟩
theorem Kd.R_fr_nil : True := trivial
theorem fr_only {ok : Nat → Prop} {gl : Nat} {w w' : World} (h : Only gl w w') : Fr (fun k => ok k ∨ k = gl) w w' := h.fr (.inr rfl)
def laddPost (w w' : World) (ok : Nat → Prop) (gl g : Nat) (E : Int) (D' : Dk) (L' : Lg) (e : Ending) : Prop := e = .returned (.int .i64 E) ∧ IsD w' ok g D' ∧ IsL w' gl g L' ∧ Fr (fun k => ok k ∨ k = gl) w w'
set_option maxHeartbeats 2000000 in
theorem ladd (g gl : Nat) (ok : Nat → Prop) (D : Dk) (L : Lg) (A : Option Addr) (c : Nat) (row : List Int) (N : Int) (w : World) (h : IsD w ok g D) (hL : IsL w gl g L) (hng : ¬ ok gl) (hG : D.G N) (hN : N < 900000) (hLG : L.G 900000) (hC : Kd.C (Kd.int .u8) w A row.length row) (hc : row.length ≤ c) (hl : row.length ≤ 100000000) (hok : ∀ k, w.heap.size ≤ k → ok k) :
    Calls Try.prog 40 #[.pointer (some ⟨gl, 0, none⟩), .slice A row.length c] w fun e w' => laddPost w w' ok gl g (adE D L row) (adD D L row) (adL D L row) e := by
  have HB := Aside0.mk (Below.refl w.heap.size w)
  have HD := Aside0.mk h
  have HG := Aside0.mk hG
  have HC := Aside0.mk hC
  have HFR := Aside0.mk hok
  have HNG := Aside0.mk hng
  have HGG := Aside0.mk h.lt
  obtain ⟨sd, gn, rows, st⟩ := L
  have HGL := Aside0.mk (show w.heap[gl]? = some (.cells #[.pointer (some ⟨g, 0, none⟩), .int .i64 sd, .int .i64 gn, .int .i64 rows, .bool st] 89 (0, 0)) from hL)
  have HGLL := Aside0.mk (blk_lt HGL.out)
  have hrw : 0 ≤ rows ∧ rows ≤ 900000 := hLG.2.2.2
  have hc0 := hc
  obtain ⟨b, hb⟩ : ∃ b, recp row = b := ⟨_, rfl⟩
  have HSB := Aside0.mk hb
  have hrl : row.length ≤ 140737488351232 := by omega
  obtain ⟨z0, z1, z2, z3, z4⟩ := cells5v HGL.out
  by_cases k1 : row.length ≤ 60000
  · have hbl2 : b.length ≤ 140737488351232 := by rw [← hb, recp_length k1]; omega
    have HOK := Aside0.mk (show recok row = true from decide_eq_true k1)
    cases st with
    | true =>
      obtain ⟨f1, f2, f3⟩ := ad_no (D := D) (L := ⟨sd, gn, rows, true⟩) (row := row) (by unfold adOk; simp)
      rw [f1, f2, f3]
      clear f1 f2 f3 h hG hC hok hb k1 hL hLG hng hc
      go_enter Try.func40, Try.ntmps40
      go_wp2_with (first | ((with_reducible refine gate_dst (N := 12) rfl ?_); (try (refine gate_guard (by rfl) ?_; dsimp only)); refine goesL_ (some 12) rfl rfl Try.func53 (by kernel_rfl) rfl #[.slice A row.length c] rfl (by (try simp only [List.map_toArray, List.map_cons, List.map_nil]); first | done | rfl | (simp only [List.length_drop, List.length_take]; rfl)) ?_; refine (rput A c row _ (Kd.C_below HC.out HB.out) hc0 hrl).mono ?_; rintro e w6 ⟨v6, rfl, ho, hbl⟩; refine ⟨_, rfl, ?_⟩; rw [HOK.out]; rw [HSB.out] at ho; have HO := Aside0.mk (Kd.R_lower ho HB.out.size); have HB' := Aside0.mk (below_step HB.out hbl); clear HB hbl ho; have HB := HB'; clear HB'; obtain ⟨A6, c6, e6⟩ := Kd.R_slice HO.out; subst e6; have HGL' := Aside0.mk ((HB.out.block gl HGLL.out).trans HGL.out); clear HGL; have HGL := HGL'; clear HGL'; obtain ⟨z0, z1, z2, z3, z4⟩ := cells5v HGL.out))
      go_ret
      exact ⟨rfl, HD.out.below HB.out, HGL.out, Fr.of_below HB.out⟩
    | false =>
      have KY := Aside0.mk (show adOk ⟨sd, gn, rows, false⟩ row = true by unfold adOk; rw [HOK.out]; rfl)
      obtain ⟨e2, he2⟩ : ∃ x, D.appE sd b = x := ⟨_, rfl⟩
      obtain ⟨D2, hd2⟩ : ∃ x, D.app sd b = x := ⟨_, rfl⟩
      have HG2 := Aside0.mk (show D2.G (N + 1) by rw [← hd2]; exact hG.app sd b)
      have HE2 := Aside0.mk he2
      have HD2 := Aside0.mk hd2
      by_cases k3 : e2 = 3
      · subst k3
        obtain ⟨f1, f2, f3⟩ := ad_full KY.out (show D.appE sd (recp row) = 3 by rw [hb]; exact he2)
        rw [f1, f2, f3, hb, hd2]
        clear f1 f2 f3 h hG hC hok hb k1 hL hLG hng hc he2 hd2
        go_enter Try.func40, Try.ntmps40
        go_wp2_with (first | ((with_reducible refine gate_dst (N := 12) rfl ?_); (try (refine gate_guard (by rfl) ?_; dsimp only)); refine goesL_ (some 12) rfl rfl Try.func53 (by kernel_rfl) rfl #[.slice A row.length c] rfl (by (try simp only [List.map_toArray, List.map_cons, List.map_nil]); first | done | rfl | (simp only [List.length_drop, List.length_take]; rfl)) ?_; refine (rput A c row _ (Kd.C_below HC.out HB.out) hc0 hrl).mono ?_; rintro e w6 ⟨v6, rfl, ho, hbl⟩; refine ⟨_, rfl, ?_⟩; rw [HOK.out]; rw [HSB.out] at ho; have HO := Aside0.mk (Kd.R_lower ho HB.out.size); have HB' := Aside0.mk (below_step HB.out hbl); clear HB hbl ho; have HB := HB'; clear HB'; obtain ⟨A6, c6, e6⟩ := Kd.R_slice HO.out; subst e6; have HGL' := Aside0.mk ((HB.out.block gl HGLL.out).trans HGL.out); clear HGL; have HGL := HGL'; clear HGL'; obtain ⟨z0, z1, z2, z3, z4⟩ := cells5v HGL.out))
        go_region_held (fun w' => w'.cell? ⟨gl, 0, none⟩ = some (.pointer (some ⟨g, 0, none⟩)) ∧ w'.cell? ⟨gl, 1, none⟩ = some (.int .i64 sd)) (first | exact ⟨z0, z1⟩ | exact ⟨y0, y1⟩) ((go_at_call 15; (refine (tapp g (fun k => (ok k ∧ k < w.heap.size) ∨ w6.heap.size ≤ k) D sd A6 c6 b _ ((HD.out.bound.below (below_drew HB.out)).mono (fun _ => .inl)) (HG.out.wf (by omega)) (Kd.C_drew (Kd.R_reads' HO.out).2.2) hbl2 (fun ad e hn hk => absurd (fresh_ne HO.out ad e hn) (by have := HGG.out; omega)) (fun k hk => .inr hk)).mono ?_); rintro e w9 ⟨rfl, hD, hfr⟩; rw [HE2.out]; rw [HD2.out] at hD; have HD9 := Aside0.mk hD; have HF9 := Aside0.mk (Fr.trans (Fr.of_below (ok := fun k => ok k ∨ k = gl) (below_drew HB.out)) (hfr.mono (fun k _ hk => .inl (by rcases hk with h | h; exact h.1; exact HFR.out k (Nat.le_trans HB.out.size h))))); have HGL9 := Aside0.mk (fr_gl hfr (fun hk => by rcases hk with h | h; exact HNG.out h.1; exact absurd h (Nat.not_le.2 (Nat.lt_of_lt_of_le HGLL.out HB.out.size))) (show (w6.drew).heap[gl]? = _ from HGL.out)); clear hD hfr; obtain ⟨y0, y1, y2, y3, y4⟩ := cells5v HGL9.out))
        go_wp2
        go_ret
        exact ⟨rfl, HD9.out.mono (fun k hk => by rcases hk with h | h; exact h.1; exact HFR.out k (Nat.le_trans HB.out.size h)), HGL9.out, HF9.out⟩
      by_cases k5 : e2 = 0
      · subst k5
        obtain ⟨e3, he3⟩ : ∃ x, D2.syncE = x := ⟨_, rfl⟩
        obtain ⟨D3, hd3⟩ : ∃ x, D2.sync = x := ⟨_, rfl⟩
        have HE3 := Aside0.mk he3
        have HD3 := Aside0.mk hd3
        obtain ⟨f1, f2, f3⟩ := ad_sync KY.out (show D.appE sd (recp row) = 0 by rw [hb]; exact he2)
        rw [f1, f2, f3, hb, hd2, he3, hd3]
        clear f1 f2 f3 h hG hC hok hb k1 hL hLG hng hc he2 hd2 he3 hd3 k3
        by_cases k6 : e3 = 0
        · subst k6
          rw [if_pos rfl]
          go_enter Try.func40, Try.ntmps40
          go_wp2_with (first | ((with_reducible refine gate_dst (N := 12) rfl ?_); (try (refine gate_guard (by rfl) ?_; dsimp only)); refine goesL_ (some 12) rfl rfl Try.func53 (by kernel_rfl) rfl #[.slice A row.length c] rfl (by (try simp only [List.map_toArray, List.map_cons, List.map_nil]); first | done | rfl | (simp only [List.length_drop, List.length_take]; rfl)) ?_; refine (rput A c row _ (Kd.C_below HC.out HB.out) hc0 hrl).mono ?_; rintro e w6 ⟨v6, rfl, ho, hbl⟩; refine ⟨_, rfl, ?_⟩; rw [HOK.out]; rw [HSB.out] at ho; have HO := Aside0.mk (Kd.R_lower ho HB.out.size); have HB' := Aside0.mk (below_step HB.out hbl); clear HB hbl ho; have HB := HB'; clear HB'; obtain ⟨A6, c6, e6⟩ := Kd.R_slice HO.out; subst e6; have HGL' := Aside0.mk ((HB.out.block gl HGLL.out).trans HGL.out); clear HGL; have HGL := HGL'; clear HGL'; obtain ⟨z0, z1, z2, z3, z4⟩ := cells5v HGL.out))
          go_region_held (fun w' => w'.cell? ⟨gl, 0, none⟩ = some (.pointer (some ⟨g, 0, none⟩)) ∧ w'.cell? ⟨gl, 1, none⟩ = some (.int .i64 sd)) (first | exact ⟨z0, z1⟩ | exact ⟨y0, y1⟩) ((go_at_call 15; (refine (tapp g (fun k => (ok k ∧ k < w.heap.size) ∨ w6.heap.size ≤ k) D sd A6 c6 b _ ((HD.out.bound.below (below_drew HB.out)).mono (fun _ => .inl)) (HG.out.wf (by omega)) (Kd.C_drew (Kd.R_reads' HO.out).2.2) hbl2 (fun ad e hn hk => absurd (fresh_ne HO.out ad e hn) (by have := HGG.out; omega)) (fun k hk => .inr hk)).mono ?_); rintro e w9 ⟨rfl, hD, hfr⟩; rw [HE2.out]; rw [HD2.out] at hD; have HD9 := Aside0.mk hD; have HF9 := Aside0.mk (Fr.trans (Fr.of_below (ok := fun k => ok k ∨ k = gl) (below_drew HB.out)) (hfr.mono (fun k _ hk => .inl (by rcases hk with h | h; exact h.1; exact HFR.out k (Nat.le_trans HB.out.size h))))); have HGL9 := Aside0.mk (fr_gl hfr (fun hk => by rcases hk with h | h; exact HNG.out h.1; exact absurd h (Nat.not_le.2 (Nat.lt_of_lt_of_le HGLL.out HB.out.size))) (show (w6.drew).heap[gl]? = _ from HGL.out)); clear hD hfr; obtain ⟨y0, y1, y2, y3, y4⟩ := cells5v HGL9.out))
          go_wp2_with (first | ((with_reducible refine gate_dst (N := 41) rfl ?_); (try (refine gate_guard (by rfl) ?_; dsimp only)); refine goesL_ (some 41) rfl rfl Try.func21 (by kernel_rfl) rfl #[.pointer (some ⟨g, 0, none⟩)] rfl (by (try simp only [List.map_toArray, List.map_cons, List.map_nil]); first | done | rfl | (simp only [List.length_drop, List.length_take]; rfl)) ?_; refine (tsync g (fun k => (ok k ∧ k < w.heap.size) ∨ w6.heap.size ≤ k) D2 _ HD9.out (HG2.out.wf (by omega))).mono ?_; rintro e w10 ⟨rfl, hD, hfr⟩; refine ⟨_, rfl, ?_⟩; rw [HE3.out]; rw [HD3.out] at hD; have HD10 := Aside0.mk hD; have HF10 := Aside0.mk (Fr.trans HF9.out (hfr.mono (fun k _ hk => .inl (by rcases hk with h | h; exact h.1; exact HFR.out k (Nat.le_trans HB.out.size h))))); have HGL10 := Aside0.mk (fr_gl hfr (fun hk => by rcases hk with h | h; exact HNG.out h.1; exact absurd h (Nat.not_le.2 (Nat.lt_of_lt_of_le HGLL.out HB.out.size))) HGL9.out); clear hD hfr HF9 HD9 HGL9 y0 y1 y2 y3 y4; obtain ⟨y0, y1, y2, y3, y4⟩ := cells5v HGL10.out) | (refine gate_store (t := 3) (p := 50) rfl ?_; (refine store_only rfl _ _ _ rfl gl 3 (.int .i64 (rows + 1)) rfl rfl 89 _ (#[.pointer (some ⟨g, 0, none⟩), .int .i64 sd, .int .i64 gn, .int .i64 (rows + 1), .bool false]) HGL10.out (by kernel_rfl) (by simp) rfl rfl rfl ?_; intro w11 hG11 ho11; have HG11 := Aside0.mk hG11; have HO11 := Aside0.mk ho11; clear hG11 ho11)))
          go_ret
          exact ⟨rfl, (HD10.out.mono (fun k hk => by rcases hk with h | h; exact h.1; exact HFR.out k (Nat.le_trans HB.out.size h))).move (fun k hk hl => HO11.out.2.2.2.2 k (fun e => HNG.out (by rw [← e]; exact hk))), HG11.out, Fr.trans HF10.out (HO11.out.fr (.inr rfl))⟩
        · have t6 : (e3 == 0) = false := beq_eq_false_iff_ne.2 k6
          rw [if_neg k6]
          clear k6
          go_enter Try.func40, Try.ntmps40
          go_wp2_with (first | ((with_reducible refine gate_dst (N := 12) rfl ?_); (try (refine gate_guard (by rfl) ?_; dsimp only)); refine goesL_ (some 12) rfl rfl Try.func53 (by kernel_rfl) rfl #[.slice A row.length c] rfl (by (try simp only [List.map_toArray, List.map_cons, List.map_nil]); first | done | rfl | (simp only [List.length_drop, List.length_take]; rfl)) ?_; refine (rput A c row _ (Kd.C_below HC.out HB.out) hc0 hrl).mono ?_; rintro e w6 ⟨v6, rfl, ho, hbl⟩; refine ⟨_, rfl, ?_⟩; rw [HOK.out]; rw [HSB.out] at ho; have HO := Aside0.mk (Kd.R_lower ho HB.out.size); have HB' := Aside0.mk (below_step HB.out hbl); clear HB hbl ho; have HB := HB'; clear HB'; obtain ⟨A6, c6, e6⟩ := Kd.R_slice HO.out; subst e6; have HGL' := Aside0.mk ((HB.out.block gl HGLL.out).trans HGL.out); clear HGL; have HGL := HGL'; clear HGL'; obtain ⟨z0, z1, z2, z3, z4⟩ := cells5v HGL.out))
          go_region_held (fun w' => w'.cell? ⟨gl, 0, none⟩ = some (.pointer (some ⟨g, 0, none⟩)) ∧ w'.cell? ⟨gl, 1, none⟩ = some (.int .i64 sd)) (first | exact ⟨z0, z1⟩ | exact ⟨y0, y1⟩) ((go_at_call 15; (refine (tapp g (fun k => (ok k ∧ k < w.heap.size) ∨ w6.heap.size ≤ k) D sd A6 c6 b _ ((HD.out.bound.below (below_drew HB.out)).mono (fun _ => .inl)) (HG.out.wf (by omega)) (Kd.C_drew (Kd.R_reads' HO.out).2.2) hbl2 (fun ad e hn hk => absurd (fresh_ne HO.out ad e hn) (by have := HGG.out; omega)) (fun k hk => .inr hk)).mono ?_); rintro e w9 ⟨rfl, hD, hfr⟩; rw [HE2.out]; rw [HD2.out] at hD; have HD9 := Aside0.mk hD; have HF9 := Aside0.mk (Fr.trans (Fr.of_below (ok := fun k => ok k ∨ k = gl) (below_drew HB.out)) (hfr.mono (fun k _ hk => .inl (by rcases hk with h | h; exact h.1; exact HFR.out k (Nat.le_trans HB.out.size h))))); have HGL9 := Aside0.mk (fr_gl hfr (fun hk => by rcases hk with h | h; exact HNG.out h.1; exact absurd h (Nat.not_le.2 (Nat.lt_of_lt_of_le HGLL.out HB.out.size))) (show (w6.drew).heap[gl]? = _ from HGL.out)); clear hD hfr; obtain ⟨y0, y1, y2, y3, y4⟩ := cells5v HGL9.out))
          go_wp2_with (first | ((with_reducible refine gate_dst (N := 41) rfl ?_); (try (refine gate_guard (by rfl) ?_; dsimp only)); refine goesL_ (some 41) rfl rfl Try.func21 (by kernel_rfl) rfl #[.pointer (some ⟨g, 0, none⟩)] rfl (by (try simp only [List.map_toArray, List.map_cons, List.map_nil]); first | done | rfl | (simp only [List.length_drop, List.length_take]; rfl)) ?_; refine (tsync g (fun k => (ok k ∧ k < w.heap.size) ∨ w6.heap.size ≤ k) D2 _ HD9.out (HG2.out.wf (by omega))).mono ?_; rintro e w10 ⟨rfl, hD, hfr⟩; refine ⟨_, rfl, ?_⟩; rw [HE3.out]; rw [HD3.out] at hD; have HD10 := Aside0.mk hD; have HF10 := Aside0.mk (Fr.trans HF9.out (hfr.mono (fun k _ hk => .inl (by rcases hk with h | h; exact h.1; exact HFR.out k (Nat.le_trans HB.out.size h))))); have HGL10 := Aside0.mk (fr_gl hfr (fun hk => by rcases hk with h | h; exact HNG.out h.1; exact absurd h (Nat.not_le.2 (Nat.lt_of_lt_of_le HGLL.out HB.out.size))) HGL9.out); clear hD hfr HF9 HD9 HGL9 y0 y1 y2 y3 y4; obtain ⟨y0, y1, y2, y3, y4⟩ := cells5v HGL10.out))
          go_ret
          exact ⟨rfl, HD10.out.mono (fun k hk => by rcases hk with h | h; exact h.1; exact HFR.out k (Nat.le_trans HB.out.size h)), HGL10.out, HF10.out⟩
      · have t5 : (e2 == 0) = false := beq_eq_false_iff_ne.2 k5
        have t3 : (e2 == 3) = false := beq_eq_false_iff_ne.2 k3
        obtain ⟨f1, f2, f3⟩ := ad_app KY.out (show D.appE sd (recp row) = e2 by rw [hb]; exact he2) k5 k3
        rw [f1, f2, f3, hb, hd2]
        clear f1 f2 f3 h hG hC hok hb k1 hL hLG hng hc he2 hd2 k3 k5
        go_enter Try.func40, Try.ntmps40
        go_wp2_with (first | ((with_reducible refine gate_dst (N := 12) rfl ?_); (try (refine gate_guard (by rfl) ?_; dsimp only)); refine goesL_ (some 12) rfl rfl Try.func53 (by kernel_rfl) rfl #[.slice A row.length c] rfl (by (try simp only [List.map_toArray, List.map_cons, List.map_nil]); first | done | rfl | (simp only [List.length_drop, List.length_take]; rfl)) ?_; refine (rput A c row _ (Kd.C_below HC.out HB.out) hc0 hrl).mono ?_; rintro e w6 ⟨v6, rfl, ho, hbl⟩; refine ⟨_, rfl, ?_⟩; rw [HOK.out]; rw [HSB.out] at ho; have HO := Aside0.mk (Kd.R_lower ho HB.out.size); have HB' := Aside0.mk (below_step HB.out hbl); clear HB hbl ho; have HB := HB'; clear HB'; obtain ⟨A6, c6, e6⟩ := Kd.R_slice HO.out; subst e6; have HGL' := Aside0.mk ((HB.out.block gl HGLL.out).trans HGL.out); clear HGL; have HGL := HGL'; clear HGL'; obtain ⟨z0, z1, z2, z3, z4⟩ := cells5v HGL.out))
        go_region_held (fun w' => w'.cell? ⟨gl, 0, none⟩ = some (.pointer (some ⟨g, 0, none⟩)) ∧ w'.cell? ⟨gl, 1, none⟩ = some (.int .i64 sd)) (first | exact ⟨z0, z1⟩ | exact ⟨y0, y1⟩) ((go_at_call 15; (refine (tapp g (fun k => (ok k ∧ k < w.heap.size) ∨ w6.heap.size ≤ k) D sd A6 c6 b _ ((HD.out.bound.below (below_drew HB.out)).mono (fun _ => .inl)) (HG.out.wf (by omega)) (Kd.C_drew (Kd.R_reads' HO.out).2.2) hbl2 (fun ad e hn hk => absurd (fresh_ne HO.out ad e hn) (by have := HGG.out; omega)) (fun k hk => .inr hk)).mono ?_); rintro e w9 ⟨rfl, hD, hfr⟩; rw [HE2.out]; rw [HD2.out] at hD; have HD9 := Aside0.mk hD; have HF9 := Aside0.mk (Fr.trans (Fr.of_below (ok := fun k => ok k ∨ k = gl) (below_drew HB.out)) (hfr.mono (fun k _ hk => .inl (by rcases hk with h | h; exact h.1; exact HFR.out k (Nat.le_trans HB.out.size h))))); have HGL9 := Aside0.mk (fr_gl hfr (fun hk => by rcases hk with h | h; exact HNG.out h.1; exact absurd h (Nat.not_le.2 (Nat.lt_of_lt_of_le HGLL.out HB.out.size))) (show (w6.drew).heap[gl]? = _ from HGL.out)); clear hD hfr; obtain ⟨y0, y1, y2, y3, y4⟩ := cells5v HGL9.out))
        go_wp2
        go_ret
        exact ⟨rfl, HD9.out.mono (fun k hk => by rcases hk with h | h; exact h.1; exact HFR.out k (Nat.le_trans HB.out.size h)), HGL9.out, HF9.out⟩
  · have HOK := Aside0.mk (show recok row = false from decide_eq_false k1)
    obtain ⟨f1, f2, f3⟩ := ad_no (D := D) (L := ⟨sd, gn, rows, st⟩) (row := row) (by unfold adOk; rw [HOK.out]; rfl)
    rw [f1, f2, f3]
    clear f1 f2 f3 h hG hC hok hb k1 hL hLG hng hc
    go_enter Try.func40, Try.ntmps40
    go_wp2_with (first | ((with_reducible refine gate_dst (N := 12) rfl ?_); (try (refine gate_guard (by rfl) ?_; dsimp only)); refine goesL_ (some 12) rfl rfl Try.func53 (by kernel_rfl) rfl #[.slice A row.length c] rfl (by (try simp only [List.map_toArray, List.map_cons, List.map_nil]); first | done | rfl | (simp only [List.length_drop, List.length_take]; rfl)) ?_; refine (rput A c row _ (Kd.C_below HC.out HB.out) hc0 hrl).mono ?_; rintro e w6 ⟨v6, rfl, ho, hbl⟩; refine ⟨_, rfl, ?_⟩; rw [HOK.out]; rw [HSB.out] at ho; have HO := Aside0.mk (Kd.R_lower ho HB.out.size); have HB' := Aside0.mk (below_step HB.out hbl); clear HB hbl ho; have HB := HB'; clear HB'; obtain ⟨A6, c6, e6⟩ := Kd.R_slice HO.out; subst e6; have HGL' := Aside0.mk ((HB.out.block gl HGLL.out).trans HGL.out); clear HGL; have HGL := HGL'; clear HGL'; obtain ⟨z0, z1, z2, z3, z4⟩ := cells5v HGL.out))
    go_ret
    exact ⟨rfl, HD.out.below HB.out, HGL.out, Fr.of_below HB.out⟩
def xaddPost (w w' : World) (ok : Nat → Prop) (gl g : Nat) (E : Int) (D' : Dk) (L' : Lg) (e : Ending) : Prop := e = .returned (.int .i64 E) ∧ IsX w' ok g D' ∧ IsLX w' gl g L' ∧ Fr (fun k => ok k ∨ k = gl) w w'
set_option maxHeartbeats 2000000 in
theorem xadd (g gl : Nat) (ok : Nat → Prop) (D : Dk) (L : Lg) (A : Option Addr) (c : Nat) (row : List Int) (N : Int) (w : World) (h : IsX w ok g D) (hL : IsLX w gl g L) (hng : ¬ ok gl) (hG : D.G N) (hN : N < 900000) (hLG : L.G 900000) (hC : Kd.C (Kd.int .u8) w A row.length row) (hc : row.length ≤ c) (hl : row.length ≤ 100000000) (hok : ∀ k, w.heap.size ≤ k → ok k) :
    Calls Try.prog 41 #[.pointer (some ⟨gl, 0, none⟩), .slice A row.length c] w fun e w' => xaddPost w w' ok gl g (adE D L row) (adD D L row) (adL D L row) e := by
  have HB := Aside0.mk (Below.refl w.heap.size w)
  have HD := Aside0.mk h
  have HG := Aside0.mk hG
  have HC := Aside0.mk hC
  have HFR := Aside0.mk hok
  have HNG := Aside0.mk hng
  have HGG := Aside0.mk h.lt
  obtain ⟨sd, gn, rows, st⟩ := L
  have HGL := Aside0.mk (show w.heap[gl]? = some (.cells #[.pointer (some ⟨g, 0, none⟩), .int .i64 gn, .int .i64 sd, .int .i64 rows, .bool st] 92 (0, 0)) from hL)
  have HGLL := Aside0.mk (blk_lt HGL.out)
  have hrw : 0 ≤ rows ∧ rows ≤ 900000 := hLG.2.2.2
  have hc0 := hc
  obtain ⟨b, hb⟩ : ∃ b, recp row = b := ⟨_, rfl⟩
  have HSB := Aside0.mk hb
  have hrl : row.length ≤ 140737488351232 := by omega
  obtain ⟨z0, z1, z2, z3, z4⟩ := cells5v HGL.out
  by_cases k1 : row.length ≤ 60000
  · have hbl2 : b.length ≤ 140737488351232 := by rw [← hb, recp_length k1]; omega
    have HOK := Aside0.mk (show recok row = true from decide_eq_true k1)
    cases st with
    | true =>
      obtain ⟨f1, f2, f3⟩ := ad_no (D := D) (L := ⟨sd, gn, rows, true⟩) (row := row) (by unfold adOk; simp)
      rw [f1, f2, f3]
      clear f1 f2 f3 h hG hC hok hb k1 hL hLG hng hc
      go_enter Try.func41, Try.ntmps41
      go_wp2_with (first | ((with_reducible refine gate_dst (N := 10) rfl ?_); (try (refine gate_guard (by rfl) ?_; dsimp only)); refine goesL_ (some 10) rfl rfl Try.func32 (by kernel_rfl) rfl #[.slice A row.length c] rfl (by (try simp only [List.map_toArray, List.map_cons, List.map_nil]); first | done | rfl | (simp only [List.length_drop, List.length_take]; rfl)) ?_; refine (rput5 A c row _ (Kd.C_below HC.out HB.out) hc0 hrl).mono ?_; rintro e w6 ⟨v6, rfl, ho, hbl⟩; refine ⟨_, rfl, ?_⟩; rw [HOK.out]; rw [HSB.out] at ho; have HO := Aside0.mk (Kd.R_lower ho HB.out.size); have HB' := Aside0.mk (below_step HB.out hbl); clear HB hbl ho; have HB := HB'; clear HB'; obtain ⟨A6, c6, e6⟩ := Kd.R_slice HO.out; subst e6; have HGL' := Aside0.mk ((HB.out.block gl HGLL.out).trans HGL.out); clear HGL; have HGL := HGL'; clear HGL'; obtain ⟨z0, z1, z2, z3, z4⟩ := cells5v HGL.out))
      go_ret
      exact ⟨rfl, HD.out.below HB.out, HGL.out, Fr.of_below HB.out⟩
    | false =>
      have KY := Aside0.mk (show adOk ⟨sd, gn, rows, false⟩ row = true by unfold adOk; rw [HOK.out]; rfl)
      obtain ⟨e2, he2⟩ : ∃ x, D.appE sd b = x := ⟨_, rfl⟩
      obtain ⟨D2, hd2⟩ : ∃ x, D.app sd b = x := ⟨_, rfl⟩
      have HG2 := Aside0.mk (show D2.G (N + 1) by rw [← hd2]; exact hG.app sd b)
      have HE2 := Aside0.mk he2
      have HD2 := Aside0.mk hd2
      by_cases k3 : e2 = 3
      · subst k3
        obtain ⟨f1, f2, f3⟩ := ad_full KY.out (show D.appE sd (recp row) = 3 by rw [hb]; exact he2)
        rw [f1, f2, f3, hb, hd2]
        clear f1 f2 f3 h hG hC hok hb k1 hL hLG hng hc he2 hd2
        go_enter Try.func41, Try.ntmps41
        go_wp2_with (first | ((with_reducible refine gate_dst (N := 10) rfl ?_); (try (refine gate_guard (by rfl) ?_; dsimp only)); refine goesL_ (some 10) rfl rfl Try.func32 (by kernel_rfl) rfl #[.slice A row.length c] rfl (by (try simp only [List.map_toArray, List.map_cons, List.map_nil]); first | done | rfl | (simp only [List.length_drop, List.length_take]; rfl)) ?_; refine (rput5 A c row _ (Kd.C_below HC.out HB.out) hc0 hrl).mono ?_; rintro e w6 ⟨v6, rfl, ho, hbl⟩; refine ⟨_, rfl, ?_⟩; rw [HOK.out]; rw [HSB.out] at ho; have HO := Aside0.mk (Kd.R_lower ho HB.out.size); have HB' := Aside0.mk (below_step HB.out hbl); clear HB hbl ho; have HB := HB'; clear HB'; obtain ⟨A6, c6, e6⟩ := Kd.R_slice HO.out; subst e6; have HGL' := Aside0.mk ((HB.out.block gl HGLL.out).trans HGL.out); clear HGL; have HGL := HGL'; clear HGL'; obtain ⟨z0, z1, z2, z3, z4⟩ := cells5v HGL.out))
        go_region_held (fun w' => w'.cell? ⟨gl, 0, none⟩ = some (.pointer (some ⟨g, 0, none⟩)) ∧ w'.cell? ⟨gl, 2, none⟩ = some (.int .i64 sd)) (first | exact ⟨z0, z2⟩ | exact ⟨y0, y2⟩) ((go_at_call 25; (refine (xapp g (fun k => (ok k ∧ k < w.heap.size) ∨ w6.heap.size ≤ k) D sd A6 c6 b _ ((HD.out.bound.below (below_drew HB.out)).mono (fun _ => .inl)) (HG.out.wf (by omega)) (Kd.C_drew (Kd.R_reads' HO.out).2.2) hbl2 (fun ad e hn hk => absurd (fresh_ne HO.out ad e hn) (by have := HGG.out; omega)) (fun k hk => .inr hk)).mono ?_); rintro e w9 ⟨rfl, hD, hfr⟩; rw [HE2.out]; rw [HD2.out] at hD; have HD9 := Aside0.mk hD; have HF9 := Aside0.mk (Fr.trans (Fr.of_below (ok := fun k => ok k ∨ k = gl) (below_drew HB.out)) (hfr.mono (fun k _ hk => .inl (by rcases hk with h | h; exact h.1; exact HFR.out k (Nat.le_trans HB.out.size h))))); have HGL9 := Aside0.mk (fr_gl hfr (fun hk => by rcases hk with h | h; exact HNG.out h.1; exact absurd h (Nat.not_le.2 (Nat.lt_of_lt_of_le HGLL.out HB.out.size))) (show (w6.drew).heap[gl]? = _ from HGL.out)); clear hD hfr; obtain ⟨y0, y1, y2, y3, y4⟩ := cells5v HGL9.out))
        go_wp2
        go_ret
        exact ⟨rfl, HD9.out.mono (fun k hk => by rcases hk with h | h; exact h.1; exact HFR.out k (Nat.le_trans HB.out.size h)), HGL9.out, HF9.out⟩
      by_cases k5 : e2 = 0
      · subst k5
        obtain ⟨e3, he3⟩ : ∃ x, D2.syncE = x := ⟨_, rfl⟩
        obtain ⟨D3, hd3⟩ : ∃ x, D2.sync = x := ⟨_, rfl⟩
        have HE3 := Aside0.mk he3
        have HD3 := Aside0.mk hd3
        obtain ⟨f1, f2, f3⟩ := ad_sync KY.out (show D.appE sd (recp row) = 0 by rw [hb]; exact he2)
        rw [f1, f2, f3, hb, hd2, he3, hd3]
        clear f1 f2 f3 h hG hC hok hb k1 hL hLG hng hc he2 hd2 he3 hd3 k3
        by_cases k6 : e3 = 0
        · subst k6
          rw [if_pos rfl]
          go_enter Try.func41, Try.ntmps41
          go_wp2_with (first | ((with_reducible refine gate_dst (N := 10) rfl ?_); (try (refine gate_guard (by rfl) ?_; dsimp only)); refine goesL_ (some 10) rfl rfl Try.func32 (by kernel_rfl) rfl #[.slice A row.length c] rfl (by (try simp only [List.map_toArray, List.map_cons, List.map_nil]); first | done | rfl | (simp only [List.length_drop, List.length_take]; rfl)) ?_; refine (rput5 A c row _ (Kd.C_below HC.out HB.out) hc0 hrl).mono ?_; rintro e w6 ⟨v6, rfl, ho, hbl⟩; refine ⟨_, rfl, ?_⟩; rw [HOK.out]; rw [HSB.out] at ho; have HO := Aside0.mk (Kd.R_lower ho HB.out.size); have HB' := Aside0.mk (below_step HB.out hbl); clear HB hbl ho; have HB := HB'; clear HB'; obtain ⟨A6, c6, e6⟩ := Kd.R_slice HO.out; subst e6; have HGL' := Aside0.mk ((HB.out.block gl HGLL.out).trans HGL.out); clear HGL; have HGL := HGL'; clear HGL'; obtain ⟨z0, z1, z2, z3, z4⟩ := cells5v HGL.out))
          go_region_held (fun w' => w'.cell? ⟨gl, 0, none⟩ = some (.pointer (some ⟨g, 0, none⟩)) ∧ w'.cell? ⟨gl, 2, none⟩ = some (.int .i64 sd)) (first | exact ⟨z0, z2⟩ | exact ⟨y0, y2⟩) ((go_at_call 25; (refine (xapp g (fun k => (ok k ∧ k < w.heap.size) ∨ w6.heap.size ≤ k) D sd A6 c6 b _ ((HD.out.bound.below (below_drew HB.out)).mono (fun _ => .inl)) (HG.out.wf (by omega)) (Kd.C_drew (Kd.R_reads' HO.out).2.2) hbl2 (fun ad e hn hk => absurd (fresh_ne HO.out ad e hn) (by have := HGG.out; omega)) (fun k hk => .inr hk)).mono ?_); rintro e w9 ⟨rfl, hD, hfr⟩; rw [HE2.out]; rw [HD2.out] at hD; have HD9 := Aside0.mk hD; have HF9 := Aside0.mk (Fr.trans (Fr.of_below (ok := fun k => ok k ∨ k = gl) (below_drew HB.out)) (hfr.mono (fun k _ hk => .inl (by rcases hk with h | h; exact h.1; exact HFR.out k (Nat.le_trans HB.out.size h))))); have HGL9 := Aside0.mk (fr_gl hfr (fun hk => by rcases hk with h | h; exact HNG.out h.1; exact absurd h (Nat.not_le.2 (Nat.lt_of_lt_of_le HGLL.out HB.out.size))) (show (w6.drew).heap[gl]? = _ from HGL.out)); clear hD hfr; obtain ⟨y0, y1, y2, y3, y4⟩ := cells5v HGL9.out))
          go_wp2_with (first | ((with_reducible refine gate_dst (N := 39) rfl ?_); (try (refine gate_guard (by rfl) ?_; dsimp only)); refine goesL_ (some 39) rfl rfl Try.func26 (by kernel_rfl) rfl #[.pointer (some ⟨g, 0, none⟩)] rfl (by (try simp only [List.map_toArray, List.map_cons, List.map_nil]); first | done | rfl | (simp only [List.length_drop, List.length_take]; rfl)) ?_; refine (xsync g (fun k => (ok k ∧ k < w.heap.size) ∨ w6.heap.size ≤ k) D2 _ HD9.out (HG2.out.wf (by omega))).mono ?_; rintro e w10 ⟨rfl, hD, hfr⟩; refine ⟨_, rfl, ?_⟩; rw [HE3.out]; rw [HD3.out] at hD; have HD10 := Aside0.mk hD; have HF10 := Aside0.mk (Fr.trans HF9.out (hfr.mono (fun k _ hk => .inl (by rcases hk with h | h; exact h.1; exact HFR.out k (Nat.le_trans HB.out.size h))))); have HGL10 := Aside0.mk (fr_gl hfr (fun hk => by rcases hk with h | h; exact HNG.out h.1; exact absurd h (Nat.not_le.2 (Nat.lt_of_lt_of_le HGLL.out HB.out.size))) HGL9.out); clear hD hfr HF9 HD9 HGL9 y0 y1 y2 y3 y4; obtain ⟨y0, y1, y2, y3, y4⟩ := cells5v HGL10.out) | (refine gate_store (t := 3) (p := 48) rfl ?_; (refine store_only rfl _ _ _ rfl gl 3 (.int .i64 (rows + 1)) rfl rfl 92 _ (#[.pointer (some ⟨g, 0, none⟩), .int .i64 gn, .int .i64 sd, .int .i64 (rows + 1), .bool false]) HGL10.out (by kernel_rfl) (by simp) rfl rfl rfl ?_; intro w11 hG11 ho11; have HG11 := Aside0.mk hG11; have HO11 := Aside0.mk ho11; clear hG11 ho11)))
          go_ret
          exact ⟨rfl, (HD10.out.mono (fun k hk => by rcases hk with h | h; exact h.1; exact HFR.out k (Nat.le_trans HB.out.size h))).move (fun k hk hl => HO11.out.2.2.2.2 k (fun e => HNG.out (by rw [← e]; exact hk))), HG11.out, Fr.trans HF10.out (HO11.out.fr (.inr rfl))⟩
        · have t6 : (e3 == 0) = false := beq_eq_false_iff_ne.2 k6
          rw [if_neg k6]
          clear k6
          go_enter Try.func41, Try.ntmps41
          go_wp2_with (first | ((with_reducible refine gate_dst (N := 10) rfl ?_); (try (refine gate_guard (by rfl) ?_; dsimp only)); refine goesL_ (some 10) rfl rfl Try.func32 (by kernel_rfl) rfl #[.slice A row.length c] rfl (by (try simp only [List.map_toArray, List.map_cons, List.map_nil]); first | done | rfl | (simp only [List.length_drop, List.length_take]; rfl)) ?_; refine (rput5 A c row _ (Kd.C_below HC.out HB.out) hc0 hrl).mono ?_; rintro e w6 ⟨v6, rfl, ho, hbl⟩; refine ⟨_, rfl, ?_⟩; rw [HOK.out]; rw [HSB.out] at ho; have HO := Aside0.mk (Kd.R_lower ho HB.out.size); have HB' := Aside0.mk (below_step HB.out hbl); clear HB hbl ho; have HB := HB'; clear HB'; obtain ⟨A6, c6, e6⟩ := Kd.R_slice HO.out; subst e6; have HGL' := Aside0.mk ((HB.out.block gl HGLL.out).trans HGL.out); clear HGL; have HGL := HGL'; clear HGL'; obtain ⟨z0, z1, z2, z3, z4⟩ := cells5v HGL.out))
          go_region_held (fun w' => w'.cell? ⟨gl, 0, none⟩ = some (.pointer (some ⟨g, 0, none⟩)) ∧ w'.cell? ⟨gl, 2, none⟩ = some (.int .i64 sd)) (first | exact ⟨z0, z2⟩ | exact ⟨y0, y2⟩) ((go_at_call 25; (refine (xapp g (fun k => (ok k ∧ k < w.heap.size) ∨ w6.heap.size ≤ k) D sd A6 c6 b _ ((HD.out.bound.below (below_drew HB.out)).mono (fun _ => .inl)) (HG.out.wf (by omega)) (Kd.C_drew (Kd.R_reads' HO.out).2.2) hbl2 (fun ad e hn hk => absurd (fresh_ne HO.out ad e hn) (by have := HGG.out; omega)) (fun k hk => .inr hk)).mono ?_); rintro e w9 ⟨rfl, hD, hfr⟩; rw [HE2.out]; rw [HD2.out] at hD; have HD9 := Aside0.mk hD; have HF9 := Aside0.mk (Fr.trans (Fr.of_below (ok := fun k => ok k ∨ k = gl) (below_drew HB.out)) (hfr.mono (fun k _ hk => .inl (by rcases hk with h | h; exact h.1; exact HFR.out k (Nat.le_trans HB.out.size h))))); have HGL9 := Aside0.mk (fr_gl hfr (fun hk => by rcases hk with h | h; exact HNG.out h.1; exact absurd h (Nat.not_le.2 (Nat.lt_of_lt_of_le HGLL.out HB.out.size))) (show (w6.drew).heap[gl]? = _ from HGL.out)); clear hD hfr; obtain ⟨y0, y1, y2, y3, y4⟩ := cells5v HGL9.out))
          go_wp2_with (first | ((with_reducible refine gate_dst (N := 39) rfl ?_); (try (refine gate_guard (by rfl) ?_; dsimp only)); refine goesL_ (some 39) rfl rfl Try.func26 (by kernel_rfl) rfl #[.pointer (some ⟨g, 0, none⟩)] rfl (by (try simp only [List.map_toArray, List.map_cons, List.map_nil]); first | done | rfl | (simp only [List.length_drop, List.length_take]; rfl)) ?_; refine (xsync g (fun k => (ok k ∧ k < w.heap.size) ∨ w6.heap.size ≤ k) D2 _ HD9.out (HG2.out.wf (by omega))).mono ?_; rintro e w10 ⟨rfl, hD, hfr⟩; refine ⟨_, rfl, ?_⟩; rw [HE3.out]; rw [HD3.out] at hD; have HD10 := Aside0.mk hD; have HF10 := Aside0.mk (Fr.trans HF9.out (hfr.mono (fun k _ hk => .inl (by rcases hk with h | h; exact h.1; exact HFR.out k (Nat.le_trans HB.out.size h))))); have HGL10 := Aside0.mk (fr_gl hfr (fun hk => by rcases hk with h | h; exact HNG.out h.1; exact absurd h (Nat.not_le.2 (Nat.lt_of_lt_of_le HGLL.out HB.out.size))) HGL9.out); clear hD hfr HF9 HD9 HGL9 y0 y1 y2 y3 y4; obtain ⟨y0, y1, y2, y3, y4⟩ := cells5v HGL10.out))
          go_ret
          exact ⟨rfl, HD10.out.mono (fun k hk => by rcases hk with h | h; exact h.1; exact HFR.out k (Nat.le_trans HB.out.size h)), HGL10.out, HF10.out⟩
      · have t5 : (e2 == 0) = false := beq_eq_false_iff_ne.2 k5
        have t3 : (e2 == 3) = false := beq_eq_false_iff_ne.2 k3
        obtain ⟨f1, f2, f3⟩ := ad_app KY.out (show D.appE sd (recp row) = e2 by rw [hb]; exact he2) k5 k3
        rw [f1, f2, f3, hb, hd2]
        clear f1 f2 f3 h hG hC hok hb k1 hL hLG hng hc he2 hd2 k3 k5
        go_enter Try.func41, Try.ntmps41
        go_wp2_with (first | ((with_reducible refine gate_dst (N := 10) rfl ?_); (try (refine gate_guard (by rfl) ?_; dsimp only)); refine goesL_ (some 10) rfl rfl Try.func32 (by kernel_rfl) rfl #[.slice A row.length c] rfl (by (try simp only [List.map_toArray, List.map_cons, List.map_nil]); first | done | rfl | (simp only [List.length_drop, List.length_take]; rfl)) ?_; refine (rput5 A c row _ (Kd.C_below HC.out HB.out) hc0 hrl).mono ?_; rintro e w6 ⟨v6, rfl, ho, hbl⟩; refine ⟨_, rfl, ?_⟩; rw [HOK.out]; rw [HSB.out] at ho; have HO := Aside0.mk (Kd.R_lower ho HB.out.size); have HB' := Aside0.mk (below_step HB.out hbl); clear HB hbl ho; have HB := HB'; clear HB'; obtain ⟨A6, c6, e6⟩ := Kd.R_slice HO.out; subst e6; have HGL' := Aside0.mk ((HB.out.block gl HGLL.out).trans HGL.out); clear HGL; have HGL := HGL'; clear HGL'; obtain ⟨z0, z1, z2, z3, z4⟩ := cells5v HGL.out))
        go_region_held (fun w' => w'.cell? ⟨gl, 0, none⟩ = some (.pointer (some ⟨g, 0, none⟩)) ∧ w'.cell? ⟨gl, 2, none⟩ = some (.int .i64 sd)) (first | exact ⟨z0, z2⟩ | exact ⟨y0, y2⟩) ((go_at_call 25; (refine (xapp g (fun k => (ok k ∧ k < w.heap.size) ∨ w6.heap.size ≤ k) D sd A6 c6 b _ ((HD.out.bound.below (below_drew HB.out)).mono (fun _ => .inl)) (HG.out.wf (by omega)) (Kd.C_drew (Kd.R_reads' HO.out).2.2) hbl2 (fun ad e hn hk => absurd (fresh_ne HO.out ad e hn) (by have := HGG.out; omega)) (fun k hk => .inr hk)).mono ?_); rintro e w9 ⟨rfl, hD, hfr⟩; rw [HE2.out]; rw [HD2.out] at hD; have HD9 := Aside0.mk hD; have HF9 := Aside0.mk (Fr.trans (Fr.of_below (ok := fun k => ok k ∨ k = gl) (below_drew HB.out)) (hfr.mono (fun k _ hk => .inl (by rcases hk with h | h; exact h.1; exact HFR.out k (Nat.le_trans HB.out.size h))))); have HGL9 := Aside0.mk (fr_gl hfr (fun hk => by rcases hk with h | h; exact HNG.out h.1; exact absurd h (Nat.not_le.2 (Nat.lt_of_lt_of_le HGLL.out HB.out.size))) (show (w6.drew).heap[gl]? = _ from HGL.out)); clear hD hfr; obtain ⟨y0, y1, y2, y3, y4⟩ := cells5v HGL9.out))
        go_wp2
        go_ret
        exact ⟨rfl, HD9.out.mono (fun k hk => by rcases hk with h | h; exact h.1; exact HFR.out k (Nat.le_trans HB.out.size h)), HGL9.out, HF9.out⟩
  · have HOK := Aside0.mk (show recok row = false from decide_eq_false k1)
    obtain ⟨f1, f2, f3⟩ := ad_no (D := D) (L := ⟨sd, gn, rows, st⟩) (row := row) (by unfold adOk; rw [HOK.out]; rfl)
    rw [f1, f2, f3]
    clear f1 f2 f3 h hG hC hok hb k1 hL hLG hng hc
    cases st <;> (go_enter Try.func41, Try.ntmps41; go_wp2_with (first | ((with_reducible refine gate_dst (N := 10) rfl ?_); (try (refine gate_guard (by rfl) ?_; dsimp only)); refine goesL_ (some 10) rfl rfl Try.func32 (by kernel_rfl) rfl #[.slice A row.length c] rfl (by (try simp only [List.map_toArray, List.map_cons, List.map_nil]); first | done | rfl | (simp only [List.length_drop, List.length_take]; rfl)) ?_; refine (rput5 A c row _ (Kd.C_below HC.out HB.out) hc0 hrl).mono ?_; rintro e w6 ⟨v6, rfl, ho, hbl⟩; refine ⟨_, rfl, ?_⟩; rw [HOK.out]; rw [HSB.out] at ho; have HO := Aside0.mk (Kd.R_lower ho HB.out.size); have HB' := Aside0.mk (below_step HB.out hbl); clear HB hbl ho; have HB := HB'; clear HB'; obtain ⟨A6, c6, e6⟩ := Kd.R_slice HO.out; subst e6; have HGL' := Aside0.mk ((HB.out.block gl HGLL.out).trans HGL.out); clear HGL; have HGL := HGL'; clear HGL'; obtain ⟨z0, z1, z2, z3, z4⟩ := cells5v HGL.out)); go_ret; exact ⟨rfl, HD.out.below HB.out, HGL.out, Fr.of_below HB.out⟩)
def lsavePost (w w' : World) (ok : Nat → Prop) (gl g : Nat) (E : Int) (D' : Dk) (L' : Lg) (e : Ending) : Prop := e = .returned (.int .i64 E) ∧ IsD w' ok g D' ∧ IsL w' gl g L' ∧ Fr (fun k => ok k ∨ k = gl) w w'
set_option maxHeartbeats 2000000 in
theorem lsave (g gl : Nat) (ok : Nat → Prop) (D : Dk) (L : Lg) (A : Option Addr) (c : Nat) (snap : List Int) (N : Int) (w : World) (h : IsD w ok g D) (hL : IsL w gl g L) (hng : ¬ ok gl) (hG : D.G N) (hN : N < 900000) (hLG : L.G 900000) (hC : Kd.C (Kd.int .u8) w A snap.length snap) (hl : snap.length ≤ 100000000) (hok : ∀ k, w.heap.size ≤ k → ok k) :
    Calls Try.prog 42 #[.pointer (some ⟨gl, 0, none⟩), .slice A snap.length c] w fun e w' => lsavePost w w' ok gl g (svE D (1 - L.side) (L.gen + 1) snap) (svD D (1 - L.side) (L.gen + 1) snap) (saL D L snap) e := by
  have HD := Aside0.mk h
  have HG := Aside0.mk hG
  have HC := Aside0.mk hC
  have HFR := Aside0.mk hok
  have HNG := Aside0.mk hng
  obtain ⟨sd, gn, rows, st⟩ := L
  have HGL := Aside0.mk (show w.heap[gl]? = some (.cells #[.pointer (some ⟨g, 0, none⟩), .int .i64 sd, .int .i64 gn, .int .i64 rows, .bool st] 89 (0, 0)) from hL)
  obtain ⟨z0, z1, z2, z3, z4⟩ := cells5v HGL.out
  have hsd : sd = 0 ∨ sd = 1 := hLG.1
  have hgn : 1 ≤ gn ∧ gn ≤ 4611686018427387904 := ⟨hLG.2.1, hLG.2.2.1⟩
  obtain ⟨ns, hns⟩ : ∃ ns, 1 - sd = ns := ⟨_, rfl⟩
  obtain ⟨ng, hng'⟩ : ∃ ng, gn + 1 = ng := ⟨_, rfl⟩
  have hng2 : -9223372036854775808 ≤ ng ∧ ng < 9223372036854775808 := by omega
  have wn : wrap64 (1 - sd) = ns := by rw [← hns]; unfold wrap64; omega
  have wg : wrap64 (gn + 1) = ng := by rw [← hng']; unfold wrap64; omega
  have wn2 : IntKind.i64.wrap (1 - sd) = ns := by rw [IntKind.wrap_i64]; omega
  have wg2 : IntKind.i64.wrap (gn + 1) = ng := by rw [IntKind.wrap_i64]; omega
  have HN2 := Aside0.mk hng2
  obtain ⟨e, he⟩ : ∃ e, svE D ns ng snap = e := ⟨_, rfl⟩
  have HE := Aside0.mk he
  have HSL := Aside0.mk (show saL D ⟨sd, gn, rows, st⟩ snap = if e = 0 then ⟨ns, ng, 0, false⟩ else ⟨sd, gn, rows, st⟩ by unfold saL; simp only [hns, hng', he])
  simp only [hns, hng']
  rw [HSL.out, he]
  clear h hG hC hok hL hLG hng he hsd hgn hng2 HSL hns hng'
  by_cases k1 : e = 0
  · subst k1
    rw [if_pos rfl]
    go_enter Try.func42, Try.ntmps42
    go_wp2_with fail
    go_region_held (fun w' => w'.cell? ⟨gl, 0, none⟩ = some (.pointer (some ⟨g, 0, none⟩)) ∧ w'.cell? ⟨gl, 1, none⟩ = some (.int .i64 sd) ∧ w'.cell? ⟨gl, 2, none⟩ = some (.int .i64 gn)) (first | exact ⟨z0, z1, z2⟩ | exact ⟨y0, y1, y2⟩) ((go_at_call 51; (refine (lsaves g ok D ns ng A c snap N _ (HD.out.below (below_drew (Below.refl _ _))) HG.out hN HN2.out (Kd.C_drew HC.out) hl HFR.out).mono ?_); rintro e w9 ⟨rfl, hD, hfr⟩; rw [HE.out]; have HD9 := Aside0.mk hD; have HF9 := Aside0.mk (Fr.trans (Fr.of_below (ok := fun k => ok k ∨ k = gl) (below_drew (Below.refl _ _))) (hfr.mono (fun k _ hk => .inl hk))); have HGL9 := Aside0.mk (fr_gl hfr HNG.out (show (w.drew).heap[gl]? = _ from HGL.out)); clear hD hfr; obtain ⟨y0, y1, y2, y3, y4⟩ := cells5v HGL9.out))
    go_wp2_with (first | (refine gate_store (t := 3) (p := 33) rfl ?_; (refine store_only rfl _ _ _ rfl gl 1 (.int .i64 ns) rfl rfl 89 _ (#[.pointer (some ⟨g, 0, none⟩), .int .i64 ns, .int .i64 gn, .int .i64 rows, .bool st]) HGL9.out (by kernel_rfl) (by simp) rfl rfl rfl ?_; intro u0 hGs hos; have HGS0 := Aside0.mk hGs; have HOS0 := Aside0.mk (hos); clear hGs hos; clear y0 y1 y2 y3 y4; obtain ⟨y0, y1, y2, y3, y4⟩ := cells5v HGS0.out)) | (refine gate_store (t := 3) (p := 35) rfl ?_; (refine store_only rfl _ _ _ rfl gl 3 (.int .i64 0) rfl rfl 89 _ (#[.pointer (some ⟨g, 0, none⟩), .int .i64 ns, .int .i64 gn, .int .i64 0, .bool st]) HGS0.out (by kernel_rfl) (by simp) rfl rfl rfl ?_; intro u1 hGs hos; have HGS1 := Aside0.mk hGs; have HOS1 := Aside0.mk (Only.trans HOS0.out hos); clear hGs hos; clear y0 y1 y2 y3 y4; obtain ⟨y0, y1, y2, y3, y4⟩ := cells5v HGS1.out)) | (refine gate_store (t := 4) (p := 37) rfl ?_; (refine store_only rfl _ _ _ rfl gl 4 (.bool false) rfl rfl 89 _ (#[.pointer (some ⟨g, 0, none⟩), .int .i64 ns, .int .i64 gn, .int .i64 0, .bool false]) HGS1.out (by kernel_rfl) (by simp) rfl rfl rfl ?_; intro u2 hGs hos; have HGS2 := Aside0.mk hGs; have HOS2 := Aside0.mk (Only.trans HOS1.out hos); clear hGs hos; clear y0 y1 y2 y3 y4; obtain ⟨y0, y1, y2, y3, y4⟩ := cells5v HGS2.out)) | (refine gate_store (t := 2) (p := 44) rfl ?_; (refine store_only rfl _ _ _ rfl gl 2 (.int .i64 ng) rfl rfl 89 _ (#[.pointer (some ⟨g, 0, none⟩), .int .i64 ns, .int .i64 ng, .int .i64 0, .bool false]) HGS2.out (by kernel_rfl) (by simp) rfl rfl rfl ?_; intro u3 hGs hos; have HGS3 := Aside0.mk hGs; have HOS3 := Aside0.mk (Only.trans HOS2.out hos); clear hGs hos; clear y0 y1 y2 y3 y4; obtain ⟨y0, y1, y2, y3, y4⟩ := cells5v HGS3.out)))
    go_ret
    exact ⟨rfl, HD9.out.move (fun k hk hl => HOS3.out.2.2.2.2 k (fun e => HNG.out (by rw [← e]; exact hk))), HGS3.out, Fr.trans HF9.out (HOS3.out.fr (.inr rfl))⟩
  · have t1 : (e == 0) = false := beq_eq_false_iff_ne.2 k1
    rw [if_neg k1]
    clear k1
    go_enter Try.func42, Try.ntmps42
    go_wp2_with fail
    go_region_held (fun w' => w'.cell? ⟨gl, 0, none⟩ = some (.pointer (some ⟨g, 0, none⟩)) ∧ w'.cell? ⟨gl, 1, none⟩ = some (.int .i64 sd) ∧ w'.cell? ⟨gl, 2, none⟩ = some (.int .i64 gn)) (first | exact ⟨z0, z1, z2⟩ | exact ⟨y0, y1, y2⟩) ((go_at_call 51; (refine (lsaves g ok D ns ng A c snap N _ (HD.out.below (below_drew (Below.refl _ _))) HG.out hN HN2.out (Kd.C_drew HC.out) hl HFR.out).mono ?_); rintro e w9 ⟨rfl, hD, hfr⟩; rw [HE.out]; have HD9 := Aside0.mk hD; have HF9 := Aside0.mk (Fr.trans (Fr.of_below (ok := fun k => ok k ∨ k = gl) (below_drew (Below.refl _ _))) (hfr.mono (fun k _ hk => .inl hk))); have HGL9 := Aside0.mk (fr_gl hfr HNG.out (show (w.drew).heap[gl]? = _ from HGL.out)); clear hD hfr; obtain ⟨y0, y1, y2, y3, y4⟩ := cells5v HGL9.out))
    go_wp2
    go_ret
    exact ⟨rfl, HD9.out, HGL9.out, HF9.out⟩
def xsaveLPost (w w' : World) (ok : Nat → Prop) (gl g : Nat) (E : Int) (D' : Dk) (L' : Lg) (e : Ending) : Prop := e = .returned (.int .i64 E) ∧ IsX w' ok g D' ∧ IsLX w' gl g L' ∧ Fr (fun k => ok k ∨ k = gl) w w'
set_option maxHeartbeats 2000000 in
theorem xsaveL (g gl : Nat) (ok : Nat → Prop) (D : Dk) (L : Lg) (A : Option Addr) (c : Nat) (snap : List Int) (N : Int) (w : World) (h : IsX w ok g D) (hL : IsLX w gl g L) (hng : ¬ ok gl) (hG : D.G N) (hN : N < 900000) (hLG : L.G 900000) (hC : Kd.C (Kd.int .u8) w A snap.length snap) (hl : snap.length ≤ 100000000) (hok : ∀ k, w.heap.size ≤ k → ok k) :
    Calls Try.prog 43 #[.pointer (some ⟨gl, 0, none⟩), .slice A snap.length c] w fun e w' => xsaveLPost w w' ok gl g (svE D (1 - L.side) (L.gen + 1) snap) (svD D (1 - L.side) (L.gen + 1) snap) (saL D L snap) e := by
  have HD := Aside0.mk h
  have HG := Aside0.mk hG
  have HC := Aside0.mk hC
  have HFR := Aside0.mk hok
  have HNG := Aside0.mk hng
  obtain ⟨sd, gn, rows, st⟩ := L
  have HGL := Aside0.mk (show w.heap[gl]? = some (.cells #[.pointer (some ⟨g, 0, none⟩), .int .i64 gn, .int .i64 sd, .int .i64 rows, .bool st] 92 (0, 0)) from hL)
  obtain ⟨z0, z1, z2, z3, z4⟩ := cells5v HGL.out
  have hsd : sd = 0 ∨ sd = 1 := hLG.1
  have hgn : 1 ≤ gn ∧ gn ≤ 4611686018427387904 := ⟨hLG.2.1, hLG.2.2.1⟩
  obtain ⟨ns, hns⟩ : ∃ ns, 1 - sd = ns := ⟨_, rfl⟩
  obtain ⟨ng, hng'⟩ : ∃ ng, gn + 1 = ng := ⟨_, rfl⟩
  have hng2 : -9223372036854775808 ≤ ng ∧ ng < 9223372036854775808 := by omega
  have wn : wrap64 (1 - sd) = ns := by rw [← hns]; unfold wrap64; omega
  have wg : wrap64 (gn + 1) = ng := by rw [← hng']; unfold wrap64; omega
  have wn2 : IntKind.i64.wrap (1 - sd) = ns := by rw [IntKind.wrap_i64]; omega
  have wg2 : IntKind.i64.wrap (gn + 1) = ng := by rw [IntKind.wrap_i64]; omega
  have HN2 := Aside0.mk hng2
  obtain ⟨e, he⟩ : ∃ e, svE D ns ng snap = e := ⟨_, rfl⟩
  have HE := Aside0.mk he
  have HSL := Aside0.mk (show saL D ⟨sd, gn, rows, st⟩ snap = if e = 0 then ⟨ns, ng, 0, false⟩ else ⟨sd, gn, rows, st⟩ by unfold saL; simp only [hns, hng', he])
  simp only [hns, hng']
  rw [HSL.out, he]
  clear h hG hC hok hL hLG hng he hsd hgn hng2 HSL hns hng'
  by_cases k1 : e = 0
  · subst k1
    rw [if_pos rfl]
    go_enter Try.func43, Try.ntmps43
    go_wp2_with fail
    go_region_held (fun w' => w'.cell? ⟨gl, 0, none⟩ = some (.pointer (some ⟨g, 0, none⟩)) ∧ w'.cell? ⟨gl, 2, none⟩ = some (.int .i64 sd) ∧ w'.cell? ⟨gl, 1, none⟩ = some (.int .i64 gn)) (first | exact ⟨z0, z2, z1⟩ | exact ⟨y0, y2, y1⟩) ((go_at_call 52; (refine (xsave g ok D ns ng A c snap N _ (HD.out.below (below_drew (Below.refl _ _))) HG.out hN HN2.out (Kd.C_drew HC.out) hl HFR.out).mono ?_); rintro e w9 ⟨rfl, hD, hfr⟩; rw [HE.out]; have HD9 := Aside0.mk hD; have HF9 := Aside0.mk (Fr.trans (Fr.of_below (ok := fun k => ok k ∨ k = gl) (below_drew (Below.refl _ _))) (hfr.mono (fun k _ hk => .inl hk))); have HGL9 := Aside0.mk (fr_gl hfr HNG.out (show (w.drew).heap[gl]? = _ from HGL.out)); clear hD hfr; obtain ⟨y0, y1, y2, y3, y4⟩ := cells5v HGL9.out))
    go_wp2_with (first | (refine gate_store (t := 2) (p := 30) rfl ?_; (refine store_only rfl _ _ _ rfl gl 1 (.int .i64 ng) rfl rfl 92 _ (#[.pointer (some ⟨g, 0, none⟩), .int .i64 ng, .int .i64 sd, .int .i64 rows, .bool st]) HGL9.out (by kernel_rfl) (by simp) rfl rfl rfl ?_; intro u0 hGs hos; have HGS0 := Aside0.mk hGs; have HOS0 := Aside0.mk (hos); clear hGs hos; clear y0 y1 y2 y3 y4; obtain ⟨y0, y1, y2, y3, y4⟩ := cells5v HGS0.out)) | (refine gate_store (t := 3) (p := 40) rfl ?_; (refine store_only rfl _ _ _ rfl gl 2 (.int .i64 ns) rfl rfl 92 _ (#[.pointer (some ⟨g, 0, none⟩), .int .i64 ng, .int .i64 ns, .int .i64 rows, .bool st]) HGS0.out (by kernel_rfl) (by simp) rfl rfl rfl ?_; intro u1 hGs hos; have HGS1 := Aside0.mk hGs; have HOS1 := Aside0.mk (Only.trans HOS0.out hos); clear hGs hos; clear y0 y1 y2 y3 y4; obtain ⟨y0, y1, y2, y3, y4⟩ := cells5v HGS1.out)) | (refine gate_store (t := 3) (p := 42) rfl ?_; (refine store_only rfl _ _ _ rfl gl 3 (.int .i64 0) rfl rfl 92 _ (#[.pointer (some ⟨g, 0, none⟩), .int .i64 ng, .int .i64 ns, .int .i64 0, .bool st]) HGS1.out (by kernel_rfl) (by simp) rfl rfl rfl ?_; intro u2 hGs hos; have HGS2 := Aside0.mk hGs; have HOS2 := Aside0.mk (Only.trans HOS1.out hos); clear hGs hos; clear y0 y1 y2 y3 y4; obtain ⟨y0, y1, y2, y3, y4⟩ := cells5v HGS2.out)) | (refine gate_store (t := 4) (p := 44) rfl ?_; (refine store_only rfl _ _ _ rfl gl 4 (.bool false) rfl rfl 92 _ (#[.pointer (some ⟨g, 0, none⟩), .int .i64 ng, .int .i64 ns, .int .i64 0, .bool false]) HGS2.out (by kernel_rfl) (by simp) rfl rfl rfl ?_; intro u3 hGs hos; have HGS3 := Aside0.mk hGs; have HOS3 := Aside0.mk (Only.trans HOS2.out hos); clear hGs hos; clear y0 y1 y2 y3 y4; obtain ⟨y0, y1, y2, y3, y4⟩ := cells5v HGS3.out)))
    go_ret
    exact ⟨rfl, HD9.out.move (fun k hk hl => HOS3.out.2.2.2.2 k (fun e => HNG.out (by rw [← e]; exact hk))), HGS3.out, Fr.trans HF9.out (HOS3.out.fr (.inr rfl))⟩
  · have t1 : (e == 0) = false := beq_eq_false_iff_ne.2 k1
    rw [if_neg k1]
    clear k1
    go_enter Try.func43, Try.ntmps43
    go_wp2_with fail
    go_region_held (fun w' => w'.cell? ⟨gl, 0, none⟩ = some (.pointer (some ⟨g, 0, none⟩)) ∧ w'.cell? ⟨gl, 2, none⟩ = some (.int .i64 sd) ∧ w'.cell? ⟨gl, 1, none⟩ = some (.int .i64 gn)) (first | exact ⟨z0, z2, z1⟩ | exact ⟨y0, y2, y1⟩) ((go_at_call 52; (refine (xsave g ok D ns ng A c snap N _ (HD.out.below (below_drew (Below.refl _ _))) HG.out hN HN2.out (Kd.C_drew HC.out) hl HFR.out).mono ?_); rintro e w9 ⟨rfl, hD, hfr⟩; rw [HE.out]; have HD9 := Aside0.mk hD; have HF9 := Aside0.mk (Fr.trans (Fr.of_below (ok := fun k => ok k ∨ k = gl) (below_drew (Below.refl _ _))) (hfr.mono (fun k _ hk => .inl hk))); have HGL9 := Aside0.mk (fr_gl hfr HNG.out (show (w.drew).heap[gl]? = _ from HGL.out)); clear hD hfr; obtain ⟨y0, y1, y2, y3, y4⟩ := cells5v HGL9.out))
    go_wp2
    go_ret
    exact ⟨rfl, HD9.out, HGL9.out, HF9.out⟩
theorem lrows (gl g : Nat) (L : Lg) (w : World) (hL : IsL w gl g L) : Calls Try.prog 44 #[.pointer (some ⟨gl, 0, none⟩)] w fun e w' => e = .returned (.int .i64 L.rows) ∧ Below w.heap.size w w' := by
  have HB := Aside0.mk (Below.refl w.heap.size w)
  obtain ⟨z0, z1, z2, z3, z4⟩ := cells5v (show w.heap[gl]? = some (.cells #[.pointer (some ⟨g, 0, none⟩), .int .i64 L.side, .int .i64 L.gen, .int .i64 L.rows, .bool L.stale] 89 (0, 0)) from hL)
  clear hL
  go_enter Try.func44, Try.ntmps44
  go_wp2
  go_ret
  exact ⟨rfl, HB.out⟩
/-- A deck's bytes are bytes. -/
def Dk.IB (D : Dk) : Prop := IsB D.b0 ∧ IsB D.b1
theorem Dk.IB.crash {D : Dk} (h : D.IB) : D.crash.IB := ⟨h.1.take _, h.2.take _⟩
theorem Dk.IB.app {D : Dk} (h : D.IB) (side : Int) {l : List Int} (hl : IsB l) : (D.app side l).IB := by
  rcases D.app_cases side l with e | e | ⟨e, _⟩ | ⟨e, _⟩ <;> rw [e]
  · exact h
  · exact h.crash
  · exact ⟨h.1.append hl, h.2⟩
  · exact ⟨h.1, h.2.append hl⟩
theorem Dk.IB.sync {D : Dk} (h : D.IB) : D.sync.IB := by
  rcases D.sync_cases with e | e | e <;> rw [e]
  · exact h
  · exact h.crash
  · exact h
theorem Dk.IB.wipe {D : Dk} (h : D.IB) (side : Int) : (D.wipe side).IB := by
  rcases D.wipe_cases side with e | e | ⟨_, e⟩ | ⟨_, e⟩ <;> rw [e]
  · exact h
  · exact h.crash
  · exact ⟨IsB.nil, h.2⟩
  · exact ⟨h.1, IsB.nil⟩
theorem Dk.IB.restart {D : Dk} (h : D.IB) : D.restart.IB := ⟨h.1.take _, h.2.take _⟩
theorem Dk.IB.arm {D : Dk} (h : D.IB) (x y : Int) : (D.arm x y).IB := h
theorem svB_bytes {gen : Int} {snap : List Int} (h : IsB snap) : IsB (svB gen snap) := recp_bytes ((puts_bytes _).append h)
theorem svD_IB {D : Dk} (h : D.IB) (side gen : Int) {snap : List Int} (hs : IsB snap) : (svD D side gen snap).IB := by
  unfold svD
  split
  · exact h
  split
  · exact h.wipe side
  split
  · exact (h.wipe side).app side (svB_bytes hs)
  · exact ((h.wipe side).app side (svB_bytes hs)).sync
theorem svD_G {D : Dk} {N : Int} (h : D.G N) (side gen : Int) (snap : List Int) : (svD D side gen snap).G (N + 3) := by
  unfold svD
  split
  · exact h.mono (by omega)
  split
  · exact (h.wipe side).mono (by omega)
  split
  · exact ((h.wipe side).app side _).mono (by omega)
  · exact ((h.wipe side).app side _).sync.mono (by omega)
theorem opD_IB {D : Dk} (h : D.IB) {fresh : List Int} (hs : IsB fresh) : (opD D fresh).IB := by
  unfold opD
  split
  · exact h
  · exact svD_IB h 0 1 hs
theorem opD_G {D : Dk} {N : Int} (h : D.G N) (fresh : List Int) : (opD D fresh).G (N + 3) := by
  unfold opD
  split
  · exact h.mono (by omega)
  · exact svD_G h 0 1 fresh
theorem adD_IB {D : Dk} (h : D.IB) (L : Lg) {row : List Int} (hs : IsB row) : (adD D L row).IB := by
  unfold adD
  split
  · exact h
  split
  · exact h.app _ (recp_bytes hs)
  split
  · exact h.app _ (recp_bytes hs)
  · exact (h.app _ (recp_bytes hs)).sync
theorem adD_G {D : Dk} {N : Int} (h : D.G N) (L : Lg) (row : List Int) : (adD D L row).G (N + 2) := by
  unfold adD
  split
  · exact h.mono (by omega)
  split
  · exact (h.app _ _).mono (by omega)
  split
  · exact (h.app _ _).mono (by omega)
  · exact (h.app _ _).sync.mono (by omega)
theorem lkB_IB {D : Dk} (h : D.IB) : IsB (lkB D) := by unfold lkB; split; exact h.2; exact h.1
theorem lkB_len {D : Dk} {N : Int} (h : D.G N) : (lkB D).length ≤ 200000 := by
  have := h.2.2.1; have := h.2.2.2.1; have := h.2.2.2.2.1
  unfold lkB; split <;> omega
theorem heldR_facts {b : List Int} (h : IsB b) (hl : b.length ≤ 1000000) : IsBs (heldR b) ∧ (heldR b).length ≤ 1000000 := by
  obtain ⟨h1, h2⟩ := scan_facts h hl
  unfold heldR rowsL
  split
  · exact ⟨IsBs.nil, Nat.zero_le _⟩
  · exact ⟨fun x hx => h2 x (List.mem_of_mem_drop hx), by rw [List.length_drop]; omega⟩
theorem heldS_facts {b : List Int} (h : IsB b) (hl : b.length ≤ 1000000) : IsB (heldS b) := by
  obtain ⟨h1, h2⟩ := scan_facts h hl
  unfold heldS snapL
  split
  · exact IsB.nil
  · exact (IsBs.getD h2 0).drop 8
theorem OpenedV.inv {w w' : World} {ok : Nat → Prop} {g : Nat} {E : Int} {D' : Dk} {s : List Int} {r : List (List Int)} {L : Lg} {e : Ending} (h : OpenedV w w' ok g E D' s r L e) (hE : E = 0) : ∃ gl M v1 v2, e = .returned (.tuple #[.pointer (some ⟨gl, 0, none⟩), v1, v2, .int .i64 0]) ∧ Fr ok w w' ∧ w.heap.size ≤ M ∧ M ≤ gl ∧ IsD w' (fun k => ok k ∧ k < M) g D' ∧ IsL w' gl g L ∧ HoldsV w' (fun k => M ≤ k ∧ k ≠ gl) s r v1 v2 := by
  obtain ⟨vp, v1, v2, rfl, hf, h | ⟨_, gl, M, rfl, h1, h2, h3, h4, h5⟩⟩ := h
  · exact absurd hE h.1
  · rw [hE]; exact ⟨gl, M, v1, v2, rfl, hf, h1, h2, h3, h4, h5⟩
theorem OpenedV.inv_no {w w' : World} {ok : Nat → Prop} {g : Nat} {E : Int} {D' : Dk} {s : List Int} {r : List (List Int)} {L : Lg} {e : Ending} (h : OpenedV w w' ok g E D' s r L e) (hE : E ≠ 0) : e = .returned (.tuple #[.pointer none, .slice none 0 0, .slice none 0 0, .int .i64 E]) ∧ Fr ok w w' ∧ IsD w' ok g D' := by
  obtain ⟨vp, v1, v2, rfl, hf, ⟨_, rfl, rfl, rfl, h⟩ | ⟨h, _⟩⟩ := h
  · exact ⟨rfl, hf, h⟩
  · exact absurd h hE
theorem OpenedVX.inv {w w' : World} {ok : Nat → Prop} {g : Nat} {E : Int} {D' : Dk} {s : List Int} {r : List (List Int)} {L : Lg} {e : Ending} (h : OpenedVX w w' ok g E D' s r L e) (hE : E = 0) : ∃ gl M v1 v2, e = .returned (.tuple #[.pointer (some ⟨gl, 0, none⟩), v1, v2, .int .i64 0]) ∧ Fr ok w w' ∧ w.heap.size ≤ M ∧ M ≤ gl ∧ IsX w' (fun k => ok k ∧ k < M) g D' ∧ IsLX w' gl g L ∧ HoldsV w' (fun k => M ≤ k ∧ k ≠ gl) s r v1 v2 := by
  obtain ⟨vp, v1, v2, rfl, hf, h | ⟨_, gl, M, rfl, h1, h2, h3, h4, h5⟩⟩ := h
  · exact absurd hE h.1
  · rw [hE]; exact ⟨gl, M, v1, v2, rfl, hf, h1, h2, h3, h4, h5⟩
theorem OpenedVX.inv_no {w w' : World} {ok : Nat → Prop} {g : Nat} {E : Int} {D' : Dk} {s : List Int} {r : List (List Int)} {L : Lg} {e : Ending} (h : OpenedVX w w' ok g E D' s r L e) (hE : E ≠ 0) : e = .returned (.tuple #[.pointer none, .slice none 0 0, .slice none 0 0, .int .i64 E]) ∧ Fr ok w w' ∧ IsX w' ok g D' := by
  obtain ⟨vp, v1, v2, rfl, hf, ⟨_, rfl, rfl, rfl, h⟩ | ⟨h, _⟩⟩ := h
  · exact ⟨rfl, hf, h⟩
  · exact absurd h hE
/-- Both decks hold the same: looks answers yes. -/
theorem tlooks (g gx : Nat) (okd okx : Nat → Prop) (D : Dk) (N : Int) (w : World) (h : IsD w okd g D) (hx : IsX w okx gx D) (hG : D.G N) (hI : D.IB) :
    Calls Try.prog 36 #[.pointer (some ⟨g, 0, none⟩), .pointer (some ⟨gx, 0, none⟩)] w fun e w' => e = .returned (.bool true) ∧ Below w.heap.size w w' := by
  have HB := Aside0.mk (Below.refl w.heap.size w)
  have HD := Aside0.mk h
  have HX := Aside0.mk hx
  have HIB := Aside0.mk hI
  have HL := Aside0.mk (show D.b0.length ≤ 1000000 ∧ D.b1.length ≤ 1000000 by have := hG.2.2.1; have := hG.2.2.2.1; have := hG.2.2.2.2.1; omega)
  have hlb : (lkB D).length ≤ 1000000 := Nat.le_trans (lkB_len hG) (by decide)
  obtain ⟨q, hq⟩ : ∃ q, lkG D = q := ⟨_, rfl⟩
  obtain ⟨sd, hsd⟩ : ∃ q, lkS D = q := ⟨_, rfl⟩
  obtain ⟨gb, hgb⟩ : ∃ gb, decide (q ≠ 0) = gb := ⟨_, rfl⟩
  obtain ⟨s, hs⟩ : ∃ s, heldS (lkB D) = s := ⟨_, rfl⟩
  obtain ⟨r, hr⟩ : ∃ s, heldR (lkB D) = s := ⟨_, rfl⟩
  have HQ := Aside0.mk hq
  have HSD := Aside0.mk hsd
  have HGB := Aside0.mk hgb
  have HSS := Aside0.mk (And.intro hs hr)
  have HRF := Aside0.mk (show IsBs r ∧ r.length ≤ 140737488351232 from by
    rw [← hr]
    have := heldR_facts (lkB_IB hI) hlb
    exact ⟨this.1, by omega⟩)
  clear h hx hG hI hlb hq hsd hgb hs hr
  go_enter Try.func36, Try.ntmps36
  go_wp2_with (first | ((with_reducible refine gate_dst (N := 17) rfl ?_); (try (refine gate_guard (by rfl) ?_; dsimp only)); refine goesL_ (some 17) rfl rfl Try.func34 (by kernel_rfl) rfl #[.pointer (some ⟨g, 0, none⟩)] rfl (by (try simp only [List.map_toArray, List.map_cons, List.map_nil]); first | done | rfl | (simp only [List.length_drop, List.length_take]; rfl)) ?_; refine (llook g okd D _ HD.out HL.out HIB.out).mono ?_; rintro e w1 ⟨v1, v2, rfl, hh, hbl⟩; refine ⟨_, rfl, ?_⟩; rw [HQ.out, HSD.out, HGB.out]; have HH := Aside0.mk hh.v; rw [HSS.out.1, HSS.out.2] at HH; clear hh; obtain ⟨A1, c1, A2, c2, e1, e2, hx1, hx2, hx3, hx4⟩ := HH.out.out; subst e1 e2; clear hx1 hx2 hx3 hx4; have HX' := Aside0.mk (HX.out.below hbl); have HB' := Aside0.mk (below_step HB.out hbl); clear HB hbl HX HD; have HB := HB'; have HX := HX'; clear HB' HX') | ((with_reducible refine gate_dst (N := 25) rfl ?_); (try (refine gate_guard (by rfl) ?_; dsimp only)); refine goesL_ (some 25) rfl rfl Try.func50 (by kernel_rfl) rfl #[.pointer (some ⟨gx, 0, none⟩)] rfl (by (try simp only [List.map_toArray, List.map_cons, List.map_nil]); first | done | rfl | (simp only [List.length_drop, List.length_take]; rfl)) ?_; refine (xlook gx okx D _ HX.out HL.out HIB.out).mono ?_; rintro e w2 ⟨v3, v4, rfl, hh, hbl⟩; refine ⟨_, rfl, ?_⟩; rw [HQ.out, HSD.out, HGB.out]; have HH3 := Aside0.mk hh.v; rw [HSS.out.1, HSS.out.2] at HH3; clear hh; have HH1 := Aside0.mk (HH.out.below hbl); obtain ⟨A3, c3, A4, c4, e3, e4, hy1, hy2, hy3, hy4⟩ := HH3.out.out; subst e3 e4; obtain ⟨B1, d1, B2, d2, e1, e2, hx1, hx2, hx3, hx4⟩ := HH1.out.out; cases e1; cases e2; have hs1 := cstr (c := c1) hx1; have hs2 := cstr (c := c3) hy1; have HR1 := Aside0.mk hx2; have HR2 := Aside0.mk hy2; clear hx1 hx2 hx3 hx4 hy1 hy2 hy3 hy4; have HB' := Aside0.mk (below_step HB.out hbl); clear HB hbl HX HH HH1 HH3; have HB := HB'; clear HB') | ((with_reducible refine gate_dst (N := 49) rfl ?_); (try (refine gate_guard (by rfl) ?_; dsimp only)); refine goesL_ (some 49) rfl rfl Try.func39 (by kernel_rfl) rfl #[.slice A2 r.length c2, .slice A4 r.length c4] rfl (by (try simp only [List.map_toArray, List.map_cons, List.map_nil]); first | done | rfl | (simp only [List.length_drop, List.length_take]; rfl)) ?_; refine (same5 A2 c2 r A4 c4 r _ HR1.out HR2.out HRF.out.1 HRF.out.1 HRF.out.2).mono ?_; rintro e w3 ⟨rfl, hdr⟩; refine ⟨_, rfl, ?_⟩; rw [show decide (r = r) = true from decide_eq_true rfl]; have HB' := Aside0.mk (below_step HB.out hdr.below); clear HB hdr; have HB := HB'; clear HB'))
  go_ret
  exact ⟨by cases gb <;> rfl, HB.out⟩
/-- The known log: a snapshot 's', a row 'a'. -/
def K0 : Dk := ⟨100, [], 0, [], 0, 0, 0, false, false, 0⟩
def KL0 : Lg := ⟨0, 1, 0, false⟩
def K1 : Dk := opD K0 [115]
def K2 : Dk := adD K1 KL0 [97]
theorem k_open : opE K0 [115] = 0 ∧ opS K0 [115] = [115] ∧ opR K0 = [] ∧ lkG K0 = 0 := by decide +kernel
theorem k_openL : opL K0 = KL0 := (op_fresh (fresh := []) k_open.2.2.2).2.2.2.2
theorem kl0_G : KL0.G 900000 := ⟨.inl rfl, by decide, by decide, by decide, by decide⟩
theorem k_add : adE K1 KL0 [97] = 0 := by decide +kernel
theorem k_addL : adL K1 KL0 [97] = ⟨0, 1, 1, false⟩ := if_pos k_add
theorem k_look : lkG K2 = 1 ∧ lkS K2 = 0 ∧ heldS (lkB K2) = [115] ∧ heldR (lkB K2) = [[97]] := by decide +kernel
theorem k0_G : K0.G 0 := by unfold Dk.G K0; decide
theorem k0_IB : K0.IB := ⟨IsB.nil, IsB.nil⟩
theorem b1_bytes {x : Int} (h : 0 ≤ x ∧ x < 256) : IsB [x] := fun y hy => by rw [List.mem_singleton.1 hy]; exact h
theorem k1_G : K1.G 3 := (opD_G k0_G [115]).mono (by decide)
theorem k1_IB : K1.IB := opD_IB k0_IB (b1_bytes (by decide))
theorem k2_G : K2.G 5 := (adD_G k1_G KL0 [97]).mono (by decide)
theorem k2_IB : K2.IB := adD_IB k1_IB KL0 (b1_bytes (by decide))
theorem G_len {D : Dk} {N : Int} (h : D.G N) : D.b0.length ≤ 1000000 ∧ D.b1.length ≤ 1000000 := by have := h.2.2.1; have := h.2.2.2.1; have := h.2.2.2.2.1; omega
theorem str115 : strOfNums [115] = { data := #[115] } := by decide
set_option maxRecDepth 100000 in
set_option maxHeartbeats 2000000 in
theorem known6 (w : World) : Calls Try.prog 35 #[] w fun e w' => e = .returned (.bool true) ∧ Below w.heap.size w w' := by
  have kc := fun (w : World) (C : Array Value) (n c : Nat) => Lib.run_convert_bytes_const (P := Try.prog) w 22 5 C n c Try.underlying22 Try.underlying5
  have HB := Aside0.mk (Below.refl w.heap.size w)
  go_enter Try.func35, Try.ntmps35
  go_wp2_with (first | ((with_reducible refine gate_dst (N := 12) rfl ?_); (try (refine gate_guard (by rfl) ?_; dsimp only)); refine goesL_ (some 12) rfl rfl Try.func14 (by kernel_rfl) rfl #[.int .i64 100] rfl (by (try simp only [List.map_toArray, List.map_cons, List.map_nil]); first | done | rfl | (simp only [List.length_drop, List.length_take]; rfl)) ?_; refine (tnew 100 _ (by decide) (by decide) (fun k => w.heap.size ≤ k) (Nat.le_refl _)).mono ?_; rintro e w1 ⟨rfl, hD, hbl⟩; refine ⟨_, rfl, ?_⟩; have HD := Aside0.mk (show IsD w1 (fun k => w.heap.size ≤ k) w.heap.size K0 from hD); have HB' := Aside0.mk (below_step HB.out hbl); clear HB hbl hD; have HB := HB'; clear HB') | ((with_reducible refine gate_dst (N := 17) rfl ?_); (try (refine gate_guard (by rfl) ?_; dsimp only)); refine goesL_ (some 17) rfl rfl Try.func37 (by kernel_rfl) rfl #[.pointer (some ⟨w.heap.size, 0, none⟩), .slice (some ⟨w1.heap.size, 0, none⟩) 1 1] rfl (by (try simp only [List.map_toArray, List.map_cons, List.map_nil]); first | done | rfl | (simp only [List.length_drop, List.length_take]; rfl)) ?_; refine ((lopen w.heap.size (fun k => w.heap.size ≤ k ∧ k ≠ w1.heap.size) K0 (some ⟨w1.heap.size, 0, none⟩) 1 [115] 0 _ ((HD.out.bound.mono (fun k hk => ⟨hk.1, Nat.ne_of_lt hk.2⟩)).below (below_alloc (Below.refl _ _) _)) k0_IB k0_G (by decide) (C_const w1 [115] _ _ _ rfl (by decide)) (by decide) (fun k hk => by have h1 := HB.out.size; have h2 : w1.heap.size + 1 ≤ k := (by simpa using hk); exact ⟨by omega, by omega⟩) (fun ad e _ hk => by cases e; exact hk.2 rfl)).mono (fun e w' h => OpenedV.inv h k_open.1)).mono ?_; rintro e w3 ⟨gl, M, v1, v2, rfl, hfr, hM, hgl, hD, hL, hv⟩; refine ⟨_, rfl, ?_⟩; rw [k_open.2.1, k_open.2.2.1] at hv; rw [k_openL] at hL; have HML := Aside0.mk (show w.heap.size ≤ M ∧ M ≤ gl from ⟨Nat.le_trans (below_alloc HB.out _).size hM, hgl⟩); have HB' := Aside0.mk (hfr.below' (below_alloc HB.out _) (fun k h => h.1)); have HGLL := Aside0.mk (blk_lt hL); have HD' := Aside0.mk (hD.mono (ok' := fun k => w.heap.size ≤ k ∧ k < M) (fun k hk => ⟨hk.1.1, hk.2⟩)); have HL := Aside0.mk hL; have HV := Aside0.mk hv; clear HB HD hfr hM hgl hD hL hv; have HB := HB'; have HD := HD'; clear HB' HD'; obtain ⟨A1, c1, A2, c2, e1, e2, hx1, hx2, hx3, hx4⟩ := HV.out.out; subst e1 e2; clear hx1 hx2 hx3 hx4) | ((with_reducible refine gate_dst (N := 25) rfl ?_); (try (refine gate_guard (by rfl) ?_; dsimp only)); refine goesL_ (some 25) rfl rfl Try.func40 (by kernel_rfl) rfl #[.pointer (some ⟨gl, 0, none⟩), .slice (some ⟨w3.heap.size, 0, none⟩) 1 1] rfl (by (try simp only [List.map_toArray, List.map_cons, List.map_nil]); first | done | rfl | (simp only [List.length_drop, List.length_take]; rfl)) ?_; refine (ladd w.heap.size gl (fun k => (w.heap.size ≤ k ∧ k < M) ∨ w3.heap.size < k) K1 KL0 (some ⟨w3.heap.size, 0, none⟩) 1 [97] 3 _ ((HD.out.mono (fun _ => .inl)).below (below_alloc (Below.refl _ _) _)) (((below_alloc (Below.refl w3.heap.size w3) _).block gl HGLL.out).trans HL.out) (fun h => by have h1 := HML.out; have h2 := HGLL.out; omega) k1_G (by decide) kl0_G (C_const w3 [97] _ _ _ rfl (by decide)) (by decide) (by decide) (fun k hk => by have h2 : w3.heap.size + 1 ≤ k := (by simpa using hk); exact .inr (by omega))).mono ?_; rintro e w4 ⟨rfl, hD, hL, hfr⟩; refine ⟨_, rfl, ?_⟩; rw [k_add]; have HV' := Aside0.mk ((HV.out.bound.below (below_alloc (Below.refl _ _) _)).fr hfr (fun k hk _ h => by have h1 := hk.1.1; have h2 := hk.1.2; have h3 := hk.2; omega)); have HB' := Aside0.mk (hfr.below' (below_alloc HB.out _) (fun k h => by have h1 := HML.out; have h2 := HB.out.size; omega)); have HD' := Aside0.mk hD; rw [k_addL] at hL; have HL' := Aside0.mk hL; clear HB HD HL HV hfr hD hL; have HB := HB'; have HD := HD'; have HL := HL'; have HV := HV'; clear HB' HD' HL' HV') | ((with_reducible refine gate_dst (N := 28) rfl ?_); (try (refine gate_guard (by rfl) ?_; dsimp only)); refine goesL_ (some 28) rfl rfl Try.func34 (by kernel_rfl) rfl #[.pointer (some ⟨w.heap.size, 0, none⟩)] rfl (by (try simp only [List.map_toArray, List.map_cons, List.map_nil]); first | done | rfl | (simp only [List.length_drop, List.length_take]; rfl)) ?_; refine (llook w.heap.size (fun k => (w.heap.size ≤ k ∧ k < M) ∨ w3.heap.size < k) K2 _ HD.out (G_len k2_G) k2_IB).mono ?_; rintro e w5 ⟨v5, v6, rfl, hh, hbl⟩; refine ⟨_, rfl, ?_⟩; rw [k_look.1, k_look.2.1]; have HH := Aside0.mk hh.v; rw [k_look.2.2.1, k_look.2.2.2] at HH; clear hh; obtain ⟨A3, c3, A4, c4, e3, e4, hx1, hx2, hx3, hx4⟩ := HH.out.out; subst e3 e4; have hs3 := (show (convert 22 9 (.slice A3 1 c3)).run Try.prog w5 = .ok (.string (strOfNums [115])) w5 from cstr (c := c3) hx1); rw [str115] at hs3; obtain ⟨B1, d1, B2, d2, e1, e2, hy1, hy2, hy3, hy4⟩ := (HV.out.below hbl).out; cases e1; cases e2; have hs1 := (show (convert 22 9 (.slice A1 1 c1)).run Try.prog w5 = .ok (.string (strOfNums [115])) w5 from cstr (c := c1) hy1); rw [str115] at hs1; obtain ⟨ad, A5, c5, eA, hcell, hc5, hC5⟩ := at_L1 hx2 0 (by decide) (by decide); subst eA; rw [show (0 : Int).toNat = 0 from rfl, Addr.add_zero'] at hcell; replace hcell := (show w5.cell? ad = some (.slice A5 1 c5) from hcell); replace hC5 := (show Kd.C (Kd.int .u8) w5 A5 1 [97] from hC5); have hs5 := (show (convert 22 9 (.slice A5 1 c5)).run Try.prog w5 = .ok (.string (strOfNums [97])) w5 from cstr (c := c5) hC5); rw [str97] at hs5; have HL' := Aside0.mk ((hbl.block gl (blk_lt HL.out)).trans HL.out); have HB' := Aside0.mk (below_step HB.out hbl); clear HB HL HV HH hbl hx1 hx2 hx3 hx4 hy1 hy2 hy3 hy4 hc5 hC5 HD; have HB := HB'; have HL := HL'; clear HB' HL') | ((with_reducible refine gate_dst (N := 80) rfl ?_); (try (refine gate_guard (by rfl) ?_; dsimp only)); refine goesL_ (some 80) rfl rfl Try.func44 (by kernel_rfl) rfl #[.pointer (some ⟨gl, 0, none⟩)] rfl (by (try simp only [List.map_toArray, List.map_cons, List.map_nil]); first | done | rfl | (simp only [List.length_drop, List.length_take]; rfl)) ?_; refine (lrows gl w.heap.size ⟨0, 1, 1, false⟩ _ HL.out).mono ?_; rintro e w6 ⟨rfl, hbl⟩; refine ⟨_, rfl, ?_⟩; have HB_ := Aside0.mk (below_step HB.out hbl); clear HB; have HB := HB_; clear HB_; clear hbl))
  go_ret
  exact ⟨rfl, HB.out⟩
end Go.Proofs.Ythaeppjhmjpecaa.B
