/- LogLast: plain laws of a round. -/
import Derived.Test.YthaeppjhmjpecaaV5
namespace Go.Proofs.Ythaeppjhmjpecaa.B
open Go.RowKit Go.Proofs.YthaeppjhmjpecaaW.PrintWords Go.Proofs.YthaeppjhmjpecaaW.PrintLast Go.Proofs.YthaeppjhmjpecaaW.PrintMore
set_option linter.unusedVariables false
/-- What is held is what was kept, and the side's bytes are just these. -/
def Stt (D : Dk) (side g : Int) (s : List Int) (rows : List (List Int)) : Prop := Lk 5000 D side g s rows ∧ (side = 0 → D.b0 = lf g s rows) ∧ (side = 1 → D.b1 = lf g s rows)
/-- Sizes. -/
def Sz (s : List Int) (rows : List (List Int)) : Prop := IsB s ∧ IsBs rows ∧ s.length ≤ 40 ∧ ∀ r ∈ rows, r.length ≤ 40
theorem Sz.fit {s : List Int} {rows : List (List Int)} (h : Sz s rows) : Fit s rows := ⟨by have := h.2.2.1; omega, fun r hr => by have := h.2.2.2 r hr; omega⟩
theorem Sz.snoc {s b : List Int} {rows : List (List Int)} (h : Sz s rows) (hb : IsB b) (hl : b.length ≤ 40) : Sz s (rows ++ [b]) :=
  ⟨h.1, h.2.1.append (IsBs.one hb), h.2.2.1, fun r hr => by rcases List.mem_append.1 hr with hr | hr; exact h.2.2.2 r hr; rw [List.mem_singleton.1 hr]; exact hl⟩
theorem Sz.nil {b : List Int} (hb : IsB b) (hl : b.length ≤ 40) : Sz b [] := ⟨hb, IsBs.nil, hl, fun r hr => by cases hr⟩
theorem Sz.norows {s : List Int} {rows : List (List Int)} (h : Sz s rows) : Sz s [] := Sz.nil h.1 h.2.2.1
theorem recs_le (rows : List (List Int)) (h : ∀ r ∈ rows, r.length ≤ 40) : (recs rows).length ≤ 42 * rows.length := by
  induction rows with
  | nil => exact Nat.zero_le _
  | cons r rows ih =>
    rw [recs_cons, List.length_append, recp_length (by have := h r (List.mem_cons_self ..); omega), List.length_cons]
    have h1 := h r (List.mem_cons_self ..)
    have h2 := ih (fun x hx => h x (List.mem_cons_of_mem _ hx))
    omega
theorem lf_le {g : Int} {s : List Int} {rows : List (List Int)} (h : Sz s rows) : (lf g s rows).length ≤ 50 + 42 * rows.length := by
  rw [lf_len h.fit]
  have h1 := recs_le rows h.2.2.2
  have h2 := h.2.2.1
  omega
theorem Stt.side01 {D : Dk} {side g : Int} {s : List Int} {rows : List (List Int)} (h : Stt D side g s rows) : side = 0 ∨ side = 1 := h.1.side01
theorem Stt.same {D D' : Dk} {side g : Int} {s : List Int} {rows : List (List Int)} (h : Stt D side g s rows) (h1 : D'.room = D.room) (h2 : D'.down = false) (h3 : D'.b0 = D.b0) (h4 : D'.s0 = D.s0) (h5 : D'.b1 = D.b1) (h6 : D'.s1 = D.s1) : Stt D' side g s rows :=
  ⟨h.1.same h1 h2 h3 h4 h5 h6, fun e => by rw [h3]; exact h.2.1 e, fun e => by rw [h5]; exact h.2.2 e⟩
theorem Stt.arm {D : Dk} {side g : Int} {s : List Int} {rows : List (List Int)} (h : Stt D side g s rows) (x y : Int) : Stt (D.arm x y) side g s rows := h.same rfl h.1.down rfl rfl rfl rfl
theorem add_round {D : Dk} {side g : Int} (n : Int) {s b : List Int} {rows : List (List Int)} (h : Stt D side g s rows) (hz : Sz s rows) (hb : IsB b) (hl : b.length ≤ 40) (hn : rows.length ≤ 60) :
    (adE D ⟨side, g, n, false⟩ b = 0 ∧ adL D ⟨side, g, n, false⟩ b = ⟨side, g, n + 1, false⟩ ∧ Stt (adD D ⟨side, g, n, false⟩ b) side g s (rows ++ [b])) ∨
    (adE D ⟨side, g, n, false⟩ b = 11 ∧ adL D ⟨side, g, n, false⟩ b = ⟨side, g, n, false⟩ ∧ (Lk 5000 (adD D ⟨side, g, n, false⟩ b).restart side g s rows ∨ Lk 5000 (adD D ⟨side, g, n, false⟩ b).restart side g s (rows ++ [b]))) := by
  have hle := lf_le (g := g) hz
  rcases h.side01 with rfl | rfl
  · have he := h.2.1 rfl
    rcases add_cases0 (n := n) h.1 he hz.fit (by omega) hb (by rw [he]; omega) with ⟨a1, a2, a3, a4, a5⟩ | ⟨a1, a2, a3, a4⟩
    · exact .inl ⟨a1, a5, a2, fun _ => a3, fun e => absurd e (by decide)⟩
    · exact .inr ⟨a2, a3, a4⟩
  · have he := h.2.2 rfl
    rcases add_cases1 (n := n) h.1 he hz.fit (by omega) hb (by rw [he]; omega) with ⟨a1, a2, a3, a4, a5⟩ | ⟨a1, a2, a3, a4⟩
    · exact .inl ⟨a1, a5, a2, fun e => absurd e (by decide), fun _ => a3⟩
    · exact .inr ⟨a2, a3, a4⟩
theorem save_round {D : Dk} {side g : Int} (n : Int) (st : Bool) {s b : List Int} {rows : List (List Int)} (h : Lk 5000 D side g s rows) (hb : IsB b) (hl : b.length ≤ 40) (hg : g < 4611686018427387904) :
    (svE D (1 - side) (g + 1) b = 0 ∧ saL D ⟨side, g, n, st⟩ b = ⟨1 - side, g + 1, 0, false⟩ ∧ Stt (svD D (1 - side) (g + 1) b) (1 - side) (g + 1) b []) ∨
    (D.armed = true ∧ svE D (1 - side) (g + 1) b = 11 ∧ saL D ⟨side, g, n, st⟩ b = ⟨side, g, n, st⟩ ∧ (Lk 5000 (svD D (1 - side) (g + 1) b).restart side g s rows ∨ Lk 5000 (svD D (1 - side) (g + 1) b).restart (1 - side) (g + 1) b [])) := by
  rcases h.side01 with rfl | rfl
  · rcases save_cases0 (n := n) (st := st) h (by omega) hb (show (10 : Int) + (b.length : Int) ≤ 5000 by omega) hg with ⟨a1, a2, a3, a4, a5⟩ | ⟨a1, a2, a3, a4⟩
    · exact .inl ⟨a1, a5, a2, fun e => absurd e (by decide), fun _ => a3⟩
    · exact .inr ⟨a1, a2, a3, a4⟩
  · rcases save_cases1 (n := n) (st := st) h (by omega) hb (show (10 : Int) + (b.length : Int) ≤ 5000 by omega) hg with ⟨a1, a2, a3, a4, a5⟩ | ⟨a1, a2, a3, a4⟩
    · exact .inl ⟨a1, a5, a2, fun _ => a3, fun e => absurd e (by decide)⟩
    · exact .inr ⟨a1, a2, a3, a4⟩
theorem save_calm {D : Dk} {side g : Int} (n : Int) (st : Bool) {s b : List Int} {rows : List (List Int)} (h : Lk 5000 D.restart side g s rows) (hb : IsB b) (hl : b.length ≤ 40) (hg : g < 4611686018427387904) :
    svE D.restart (1 - side) (g + 1) b = 0 ∧ saL D.restart ⟨side, g, n, st⟩ b = ⟨1 - side, g + 1, 0, false⟩ ∧ Stt (svD D.restart (1 - side) (g + 1) b) (1 - side) (g + 1) b [] := by
  rcases save_round n st h hb hl hg with h1 | ⟨h1, _⟩
  · exact h1
  · cases h1
theorem stt_start : Stt (Dk.one 5000 (lf 1 [115] []) 3) 0 1 [115] [] := by
  have hl : (lf 1 [115] []).length = 11 := by rw [lf_nil]; exact svB_length (snap := [115]) (show 8 + 1 ≤ 60000 by decide)
  obtain ⟨q1, q2, q3⟩ := heldG_lf (g := 1) (s := [115]) (rows := []) ⟨show 8 + 1 ≤ 60000 by decide, fun r hr => by cases hr⟩ (by decide)
  refine ⟨⟨rfl, rfl, rfl, rfl, ⟨lf_bytes (b1_bytes (by decide)) IsBs.nil, IsB.nil⟩, ?_, ?_, by decide, .inl ⟨rfl, q1, q2, q3, ?_⟩⟩, fun _ => rfl, fun h => absurd h (by decide)⟩
  · show ((lf 1 [115] []).length : Int) ≤ 5000; omega
  · show ((0 : Nat) : Int) ≤ 5000; omega
  · show heldG [] < 1; rw [heldG_nil]; decide
theorem five_open : opE (Dk.zero 5000) [115] = 0 ∧ opD (Dk.zero 5000) [115] = Dk.one 5000 (lf 1 [115] []) 3 ∧ opS (Dk.zero 5000) [115] = [115] ∧ opR (Dk.zero 5000) = [] ∧ opL (Dk.zero 5000) = ⟨0, 1, 0, false⟩ := zero_open_yes (room := 5000) (s := [115]) (show 8 + 1 ≤ 60000 by decide) (show (10 : Int) + ((1 : Nat) : Int) ≤ 5000 by decide)
theorem five_len : (lf 1 [115] []).length = 11 := by rw [lf_nil]; exact svB_length (snap := [115]) (show 8 + 1 ≤ 60000 by decide)
theorem five_G : (Dk.one 5000 (lf 1 [115] []) 3).G 3 := one_G (by rw [five_len]; decide) (by decide) (by decide)
theorem str_ne {a b : List Int} (ha : IsB a) (hb : IsB b) (h : a ≠ b) : ((strOfNums a).toList == (strOfNums b).toList) = false := by rw [str_beq ha hb]; exact decide_eq_false h
theorem str_eq (a : List Int) : ((strOfNums a).toList == (strOfNums a).toList) = true := beq_self_eq_true _
theorem rows_ne (rows : List (List Int)) (b : List Int) : decide (rows ++ [b] = rows) = false := decide_eq_false (fun h => by have := congrArg List.length h; simp at this)
theorem rows_ne' (rows : List (List Int)) (b : List Int) : decide (rows = rows ++ [b]) = false := decide_eq_false (fun h => by have := congrArg List.length h; simp at this)
/-- How adding a row ends: f, the deck behind a restart, the log, the rows that are held. -/
def Path1 (D1 : Dk) (side g n : Int) (s : List Int) (rows R1 : List (List Int)) (f : Int) (D2 : Dk) (L1 : Lg) (R : List (List Int)) : Prop :=
  (f = 0 ∧ D2 = D1 ∧ L1 = ⟨side, g, n + 1, false⟩ ∧ R = R1 ∧ Stt D2 side g s R1) ∨ (f = 11 ∧ D2 = D1.restart ∧ L1 = ⟨side, g, n, false⟩ ∧ Lk 5000 D2 side g s R ∧ (R = rows ∨ R = R1))
theorem path1 {D D1 : Dk} {side g : Int} (n : Int) {s b : List Int} {rows R1 : List (List Int)} (h : Stt D side g s rows) (hz : Sz s rows) (hb : IsB b) (hl : b.length ≤ 40) (hn : rows.length ≤ 60) (hD : adD D ⟨side, g, n, false⟩ b = D1) (hR : rows ++ [b] = R1) :
    ∃ f D2 L1 R, adE D ⟨side, g, n, false⟩ b = f ∧ adL D ⟨side, g, n, false⟩ b = L1 ∧ Path1 D1 side g n s rows R1 f D2 L1 R := by
  rcases add_round n h hz hb hl hn with ⟨a1, a2, a3⟩ | ⟨a1, a2, a3⟩
  · rw [hD, hR] at a3
    exact ⟨_, _, _, R1, a1, a2, .inl ⟨rfl, rfl, rfl, rfl, a3⟩⟩
  · rw [hD, hR] at a3
    rcases a3 with a3 | a3
    · exact ⟨_, _, _, rows, a1, a2, .inr ⟨rfl, rfl, rfl, a3, .inl rfl⟩⟩
    · exact ⟨_, _, _, R1, a1, a2, .inr ⟨rfl, rfl, rfl, a3, .inr rfl⟩⟩
theorem Path1.lk {D1 : Dk} {side g n : Int} {s : List Int} {rows R1 : List (List Int)} {f : Int} {D2 : Dk} {L1 : Lg} {R : List (List Int)} (h : Path1 D1 side g n s rows R1 f D2 L1 R) : Lk 5000 D2 side g s R ∧ (f == 10) = false ∧ (R = rows ∨ R = R1) := by
  rcases h with ⟨rfl, _, _, rfl, h⟩ | ⟨rfl, _, _, h, k⟩
  · exact ⟨h.1, rfl, .inr rfl⟩
  · exact ⟨h, rfl, k⟩
/-- How saving ends. -/
def Path2 (D1 : Dk) (side g n : Int) (s b : List Int) (rows : List (List Int)) (f : Int) (D2 : Dk) (L1 : Lg) (sd gn : Int) (X : List Int) (R : List (List Int)) : Prop :=
  (f = 0 ∧ D2 = D1 ∧ L1 = ⟨1 - side, g + 1, 0, false⟩ ∧ sd = 1 - side ∧ gn = g + 1 ∧ X = b ∧ R = [] ∧ Stt D2 (1 - side) (g + 1) b []) ∨ (f = 11 ∧ D2 = D1.restart ∧ L1 = ⟨side, g, n, false⟩ ∧ Lk 5000 D2 sd gn X R ∧ ((X = s ∧ R = rows ∧ sd = side ∧ gn = g) ∨ (X = b ∧ R = [] ∧ sd = 1 - side ∧ gn = g + 1)))
theorem path2 {D D1 : Dk} {side g : Int} (n : Int) {s b : List Int} {rows : List (List Int)} (h : Stt D side g s rows) (hb : IsB b) (hl : b.length ≤ 40) (hg : g < 4611686018427387904) (hD : svD D (1 - side) (g + 1) b = D1) :
    ∃ f D2 L1 sd gn X R, svE D (1 - side) (g + 1) b = f ∧ saL D ⟨side, g, n, false⟩ b = L1 ∧ Path2 D1 side g n s b rows f D2 L1 sd gn X R := by
  rcases save_round n false h.1 hb hl hg with ⟨a1, a2, a3⟩ | ⟨_, a1, a2, a3⟩
  · rw [hD] at a3
    exact ⟨_, _, _, _, _, _, _, a1, a2, .inl ⟨rfl, rfl, rfl, rfl, rfl, rfl, rfl, a3⟩⟩
  · rw [hD] at a3
    rcases a3 with a3 | a3
    · exact ⟨_, _, _, _, _, _, _, a1, a2, .inr ⟨rfl, rfl, rfl, a3, .inl ⟨rfl, rfl, rfl, rfl⟩⟩⟩
    · exact ⟨_, _, _, _, _, _, _, a1, a2, .inr ⟨rfl, rfl, rfl, a3, .inr ⟨rfl, rfl, rfl, rfl⟩⟩⟩
theorem Path2.lk {D1 : Dk} {side g n : Int} {s b : List Int} {rows : List (List Int)} {f : Int} {D2 : Dk} {L1 : Lg} {sd gn : Int} {X : List Int} {R : List (List Int)} (h : Path2 D1 side g n s b rows f D2 L1 sd gn X R) : Lk 5000 D2 sd gn X R ∧ (f == 10) = false ∧ ((X = s ∧ R = rows) ∨ (X = b ∧ R = [])) ∧ g ≤ gn ∧ gn ≤ g + 1 := by
  rcases h with ⟨rfl, _, _, rfl, rfl, rfl, rfl, h⟩ | ⟨rfl, _, _, h, k⟩
  · exact ⟨h.1, rfl, .inr ⟨rfl, rfl⟩, by omega, by omega⟩
  · rcases k with ⟨rfl, rfl, rfl, rfl⟩ | ⟨rfl, rfl, rfl, rfl⟩
    · exact ⟨h, rfl, .inl ⟨rfl, rfl⟩, by omega, by omega⟩
    · exact ⟨h, rfl, .inr ⟨rfl, rfl⟩, by omega, by omega⟩
theorem kbytes {s : List Int} (hs : IsB s) (W : World) : (convert 9 22 (.string (strOfNums s))).run Try.prog W = .ok (.slice (some ⟨W.heap.size, 0, none⟩) s.length (grownCap W s.length 0 5)) (Lib.bytesWorld W 5 (strOfNums s)) := by
  have h1 : (strOfNums s).size = s.length := by rw [← bytesOf_length, bytesOf_str hs]
  have h2 := Go.Proofs.YthaeppjhmjpecaaW.PrintWords.print_bytes (P := Try.prog) 9 22 5 Try.underlying9 Try.underlying22 Try.underlying5 (strOfNums s) W
  rw [h1] at h2
  exact h2
theorem kbytes_C {s : List Int} (hs : IsB s) (hl : s.length ≤ 1000000) (W : World) (e : TypeId) : Kd.C (Kd.int .u8) (Lib.bytesWorld W e (strOfNums s)) (some ⟨W.heap.size, 0, none⟩) s.length s := by
  have h1 : (strOfNums s).size = s.length := by rw [← bytesOf_length, bytesOf_str hs]
  have := bytes_reads W e (strOfNums s) (by omega)
  rw [bytesOf_str hs, h1] at this
  exact Kd.C_of_reads (d := (0 : Int)) (h1 := fun _ => rfl) this
theorem C_rowlit {w V : World} {g : Nat} {A : Option Addr} {b : List Int} {c e : Nat} (hb : V.heap[g]? = some (.cells #[.slice A b.length c] e (0, 0))) (hbc : b.length ≤ c) (hC : Kd.C (Kd.int .u8) w A b.length b) : (KR w).C V (some ⟨g, 0, none⟩) 1 [b] := C_row1 (blk_cell hb 0) hbc hC
theorem R_rows0' (w W : World) (o : Obj) (e base : Nat) (hb : base ≤ W.heap.size) : (KR w).R e ((W.alloc o).alloc (.cells #[] e)) base (fun _ => True) (.slice (some ⟨W.heap.size + 1, 0, none⟩) 0 0) [] := by
  have h := R_rows0 w (W.alloc o) e base (by simp; omega)
  rw [show (W.alloc o).heap.size = W.heap.size + 1 by simp] at h
  exact h
theorem lit_b {W w5 : World} {v : Value} {e : Nat} (hgF : World.grownBy ((W.alloc (.cells #[] e)).alloc (.cells #[v] e)).drew w5 (Value.ownBlock (.slice (some ⟨W.heap.size, 0, none⟩) 0 0))) : w5.heap[W.heap.size + 1]? = some (.cells #[v] e (0, 0)) :=
  (hgF.block (W.heap.size + 1) (by simp) (by intro e; simp [Value.ownBlock] at e)).trans (show (((W.alloc _).alloc _).heap[W.heap.size + 1]?) = _ from by rw [show W.heap.size + 1 = (W.alloc (.cells #[] e)).heap.size by simp]; exact blk_new _ _)
theorem lit_c {W w5 : World} {v : Value} {e : Nat} (hgF : World.grownBy ((W.alloc (.cells #[v] e)).alloc (.cells #[] e)).drew w5 (Value.ownBlock (.slice (some ⟨W.heap.size + 1, 0, none⟩) 0 0))) : w5.heap[W.heap.size]? = some (.cells #[v] e (0, 0)) :=
  (hgF.block W.heap.size (by simp; omega) (by intro e; simp [Value.ownBlock] at e)).trans (((below_alloc (Below.refl (W.alloc _).heap.size _) _).block W.heap.size (by simp)).trans (blk_new W _))
/-- What a drawn region reads: one cell, one string. -/
theorem S31 {W0 W : World} {g : Nat} {vb : Value} {A : Option Addr} {s : List Int} {c : Nat} (hc : W0.cell? ⟨g, 1, none⟩ = some vb) (hC : Kd.C (Kd.int .u8) W0 A s.length s) (hb : Below W0.heap.size W0 W) : Aside0 (Below W0.heap.size W0 W) ∧ W.cell? ⟨g, 1, none⟩ = some vb ∧ (convert 22 9 (.slice A s.length c)).run Try.prog W = .ok (.string (strOfNums s)) W :=
  ⟨⟨hb⟩, pw_cell_below hb hc, cstr (c := c) (Kd.C_below hC hb)⟩
end Go.Proofs.Ythaeppjhmjpecaa.B
