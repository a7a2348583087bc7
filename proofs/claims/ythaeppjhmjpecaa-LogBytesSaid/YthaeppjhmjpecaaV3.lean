/- Both decks and their logs: Open, Add, Save, looks, that keep both. -/
import Derived.Test.YthaeppjhmjpecaaL6
namespace Go.Proofs.Ythaeppjhmjpecaa.B
open Go.RowKit Go.Proofs.YthaeppjhmjpecaaW.PrintWords Go.Proofs.YthaeppjhmjpecaaW.PrintLast Go.Proofs.YthaeppjhmjpecaaW.PrintMore
set_option linter.unusedVariables false
theorem Lg.G.mono {L : Lg} {N M : Int} (h : L.G N) (hm : N ≤ M) : L.G M := ⟨h.1, h.2.1, h.2.2.1, h.2.2.2.1, by have := h.2.2.2.2; omega⟩
theorem heldR_len {b : List Int} (h : IsB b) : (heldR b).length ≤ b.length := by
  have h2 := (scanK_facts (b.length + 1) b [] h IsBs.nil).2.1
  have h3 : (scan b).1.length ≤ b.length := by simpa [scan] using h2
  unfold heldR rowsL
  split
  · exact Nat.zero_le _
  · rw [List.length_drop]; omega
theorem opL_G {D : Dk} {N : Int} (hI : D.IB) (hG : D.G N) : (opL D).G 200000 := by
  unfold opL
  split
  · rename_i h
    have h1 := heldG_bd (lkB D)
    have h2 := heldR_len (lkB_IB hI)
    have h3 := lkB_len hG
    have h4 : heldG (lkB D) ≠ 0 := h
    refine ⟨?_, ?_, ?_, ?_, ?_⟩
    · show lkS D = 0 ∨ lkS D = 1
      unfold lkS; split; exact .inr rfl; exact .inl rfl
    · show 1 ≤ heldG (lkB D); omega
    · show heldG (lkB D) ≤ 4611686018427387904; omega
    · show (0 : Int) ≤ ((heldR (lkB D)).length : Nat); omega
    · show (((heldR (lkB D)).length : Nat) : Int) ≤ 200000; omega
  · exact ⟨.inl rfl, by decide, by decide, by decide, by decide⟩
theorem adL_G {D : Dk} {L : Lg} {N : Int} (h : L.G N) (row : List Int) : (adL D L row).G (N + 1) := by
  unfold adL
  split
  · exact ⟨h.1, h.2.1, h.2.2.1, show 0 ≤ L.rows + 1 by have := h.2.2.2.1; omega, show L.rows + 1 ≤ N + 1 by have := h.2.2.2.2; omega⟩
  · exact h.mono (by omega)
/-- What a call leaves, but one block. -/
def LeftBut (gl B : Nat) (K : Nat → Prop) (W W' : World) : Prop := Below B W W' ∧ ∀ k, K k → k ≠ gl → k < W.heap.size → W'.heap[k]? = W.heap[k]?
theorem LeftBut.below {gl B : Nat} {K : Nat → Prop} {W W' : World} (h : LeftBut gl B K W W') : Below B W W' := h.1
theorem Duo.looks {W : World} {B gd gx : Nat} {K : Nat → Prop} {D : Dk} {N : Int} (h : Duo W B gd gx K D D) (hG : D.G N) (hI : D.IB) :
    Calls Try.prog 36 #[.pointer (some ⟨gd, 0, none⟩), .pointer (some ⟨gx, 0, none⟩)] W fun e w' => e = .returned (.bool true) ∧ Below W.heap.size W w' := by
  obtain ⟨okd, okx, h1, h2, h3, h4, h5⟩ := h
  exact tlooks gd gx okd okx D N W h1 h2 hG hI
theorem Duo.open1_no {W : World} {B gd gx : Nat} {K : Nat → Prop} {D X : Dk} (h : Duo W B gd gx K D X) (hB : B ≤ W.heap.size) (hK : ∀ k, K k → k < W.heap.size) (A : Option Addr) (c : Nat) (fresh : List Int) (N : Int) (hI : D.IB) (hG : D.G N) (hN : N < 900000) (hC : Kd.C (Kd.int .u8) W A fresh.length fresh) (hl : fresh.length ≤ 100000000) (hA : ∀ ad, A = some ad → 0 < fresh.length → ad.block < B) (hE : opE D fresh ≠ 0) :
    Calls Try.prog 37 #[.pointer (some ⟨gd, 0, none⟩), .slice A fresh.length c] W fun e w' => e = .returned (.tuple #[.pointer none, .slice none 0 0, .slice none 0 0, .int .i64 (opE D fresh)]) ∧ Duo w' B gd gx K (opD D fresh) X ∧ Left B K W w' := by
  obtain ⟨okd, okx, h1, h2, h3, h4, h5⟩ := h
  refine (lopen gd (fun k => okd k ∨ W.heap.size ≤ k) D A c fresh N W (h1.mono (fun _ => .inl)) hI hG hN hC hl (fun k hk => .inr hk) (fun ad e hp hk => by have h6 := hA ad e hp; rcases hk with hk | hk; exact absurd h6 (Nat.not_lt.2 (h4 _ hk).1); omega)).mono ?_
  intro e w' hop
  obtain ⟨he, hf, hd⟩ := OpenedV.inv_no hop hE
  exact ⟨he, Duo.step1 h2 h3 h4 h5 hB hK hd hf⟩
theorem Duo.open1_yes {W : World} {B gd gx : Nat} {K : Nat → Prop} {D X : Dk} (h : Duo W B gd gx K D X) (hB : B ≤ W.heap.size) (hK : ∀ k, K k → k < W.heap.size) (A : Option Addr) (c : Nat) (fresh : List Int) (N : Int) (hI : D.IB) (hG : D.G N) (hN : N < 900000) (hC : Kd.C (Kd.int .u8) W A fresh.length fresh) (hl : fresh.length ≤ 100000000) (hA : ∀ ad, A = some ad → 0 < fresh.length → ad.block < B) (hE : opE D fresh = 0) :
    Calls Try.prog 37 #[.pointer (some ⟨gd, 0, none⟩), .slice A fresh.length c] W fun e w' => ∃ gl M A1 c1 A2 c2, e = .returned (.tuple #[.pointer (some ⟨gl, 0, none⟩), .slice A1 (opS D fresh).length c1, .slice A2 (opR D).length c2, .int .i64 0]) ∧ W.heap.size ≤ M ∧ M ≤ gl ∧ gl < w'.heap.size ∧ Duo w' B gd gx (fun k => K k ∨ (M ≤ k ∧ k < w'.heap.size)) (opD D fresh) X ∧ IsL w' gl gd (opL D) ∧ HoldsV w' (fun k => M ≤ k ∧ k ≠ gl) (opS D fresh) (opR D) (.slice A1 (opS D fresh).length c1) (.slice A2 (opR D).length c2) ∧ Left B K W w' := by
  obtain ⟨okd, okx, h1, h2, h3, h4, h5⟩ := h
  refine (lopen gd (fun k => okd k ∨ W.heap.size ≤ k) D A c fresh N W (h1.mono (fun _ => .inl)) hI hG hN hC hl (fun k hk => .inr hk) (fun ad e hp hk => by have h6 := hA ad e hp; rcases hk with hk | hk; exact absurd h6 (Nat.not_lt.2 (h4 _ hk).1); omega)).mono ?_
  intro e w' hop
  obtain ⟨gl, M, v1, v2, he, hf, hM, hgl, hd, hL, hv⟩ := OpenedV.inv hop hE
  obtain ⟨A1, c1, A2, c2, e1, e2, _, _, _, _⟩ := hv.out
  subst e1 e2
  have hs := hf.2.2.2.1
  have hlt : gl < w'.heap.size := blk_lt hL
  refine ⟨gl, M, A1, c1, A2, c2, he, hM, hgl, hlt, ⟨fun k => (okd k ∨ W.heap.size ≤ k) ∧ k < M, okx, hd, (h2.move (fun k hk hl => hf.2.2.2.2 k hl (fun h => by rcases h with h | h; exact h3 k h hk; exact absurd h (Nat.not_le.2 hl)))), fun k hk hx => by rcases hk.1 with h | h; exact h3 k h hx; exact absurd (h5 k hx).2.1 (Nat.not_lt.2 h), ?_, ?_⟩, hL, hv, hf.below (Below.refl B W) hB (fun k hk => by rcases hk with hk | hk; exact (h4 k hk).1; exact Nat.le_trans hB hk), fun k hk hl => hf.2.2.2.2 k hl (fun h => by rcases h with h | h; exact (h4 k h).2.2 hk; exact absurd hl (Nat.not_lt.2 h))⟩
  · refine fun k hk => ⟨?_, by have := hk.2; omega, fun e => ?_⟩
    · rcases hk.1 with h | h
      · exact (h4 k h).1
      · exact Nat.le_trans hB h
    · rcases e with e | e
      · rcases hk.1 with h | h
        · exact (h4 k h).2.2 e
        · exact absurd (hK k e) (Nat.not_lt.2 h)
      · exact absurd e.1 (Nat.not_le.2 hk.2)
  · refine fun k hk => ⟨(h5 k hk).1, Nat.lt_of_lt_of_le (h5 k hk).2.1 hs, fun e => ?_⟩
    rcases e with e | e
    · exact (h5 k hk).2.2 e
    · have := (h5 k hk).2.1; omega
theorem Duo.add1 {W : World} {B gd gx gl : Nat} {K : Nat → Prop} {D X : Dk} {L : Lg} (h : Duo W B gd gx K D X) (hL : IsL W gl gd L) (hKg : K gl) (hBg : B ≤ gl) (hB : B ≤ W.heap.size) (hK : ∀ k, K k → k < W.heap.size) (A : Option Addr) (c : Nat) (row : List Int) (N : Int) (hG : D.G N) (hN : N < 900000) (hLG : L.G 900000) (hC : Kd.C (Kd.int .u8) W A row.length row) (hc : row.length ≤ c) (hl : row.length ≤ 100000000) :
    Calls Try.prog 40 #[.pointer (some ⟨gl, 0, none⟩), .slice A row.length c] W fun e w' => e = .returned (.int .i64 (adE D L row)) ∧ Duo w' B gd gx K (adD D L row) X ∧ IsL w' gl gd (adL D L row) ∧ LeftBut gl B K W w' := by
  obtain ⟨okd, okx, h1, h2, h3, h4, h5⟩ := h
  refine (ladd gd gl (fun k => okd k ∨ W.heap.size ≤ k) D L A c row N W (h1.mono (fun _ => .inl)) hL (fun hk => by rcases hk with hk | hk; exact (h4 _ hk).2.2 hKg; exact absurd (hK _ hKg) (Nat.not_lt.2 hk)) hG hN hLG hC hc hl (fun k hk => .inr hk)).mono ?_
  rintro e w' ⟨he, hd, hL', hf⟩
  have hs := hf.2.2.2.1
  refine ⟨he, ⟨fun k => (okd k ∨ W.heap.size ≤ k) ∧ k < w'.heap.size, okx, hd.bound, (h2.move (fun k hk hl => hf.2.2.2.2 k hl (fun h => by rcases h with (h | h) | h; exact h3 k h hk; exact absurd h (Nat.not_le.2 hl); subst h; exact (h5 _ hk).2.2 hKg))), fun k hk hx => by rcases hk.1 with h | h; exact h3 k h hx; exact absurd (h5 k hx).2.1 (Nat.not_lt.2 h), ?_, ?_⟩, hL', hf.below (Below.refl B W) hB (fun k hk => by rcases hk with (hk | hk) | hk; exact (h4 k hk).1; exact Nat.le_trans hB hk; rw [hk]; exact hBg), fun k hk hne hl => hf.2.2.2.2 k hl (fun h => by rcases h with (h | h) | h; exact (h4 k h).2.2 hk; exact absurd hl (Nat.not_lt.2 h); exact hne h)⟩
  · refine fun k hk => ⟨?_, hk.2, fun e => ?_⟩
    · rcases hk.1 with h | h
      · exact (h4 k h).1
      · exact Nat.le_trans hB h
    · rcases hk.1 with h | h
      · exact (h4 k h).2.2 e
      · exact absurd (hK k e) (Nat.not_lt.2 h)
  · exact fun k hk => ⟨(h5 k hk).1, Nat.lt_of_lt_of_le (h5 k hk).2.1 hs, (h5 k hk).2.2⟩
theorem Duo.save1 {W : World} {B gd gx gl : Nat} {K : Nat → Prop} {D X : Dk} {L : Lg} (h : Duo W B gd gx K D X) (hL : IsL W gl gd L) (hKg : K gl) (hBg : B ≤ gl) (hB : B ≤ W.heap.size) (hK : ∀ k, K k → k < W.heap.size) (A : Option Addr) (c : Nat) (row : List Int) (N : Int) (hG : D.G N) (hN : N < 900000) (hLG : L.G 900000) (hC : Kd.C (Kd.int .u8) W A row.length row)  (hl : row.length ≤ 100000000) :
    Calls Try.prog 42 #[.pointer (some ⟨gl, 0, none⟩), .slice A row.length c] W fun e w' => e = .returned (.int .i64 (svE D (1 - L.side) (L.gen + 1) row)) ∧ Duo w' B gd gx K (svD D (1 - L.side) (L.gen + 1) row) X ∧ IsL w' gl gd (saL D L row) ∧ LeftBut gl B K W w' := by
  obtain ⟨okd, okx, h1, h2, h3, h4, h5⟩ := h
  refine (lsave gd gl (fun k => okd k ∨ W.heap.size ≤ k) D L A c row N W (h1.mono (fun _ => .inl)) hL (fun hk => by rcases hk with hk | hk; exact (h4 _ hk).2.2 hKg; exact absurd (hK _ hKg) (Nat.not_lt.2 hk)) hG hN hLG hC hl (fun k hk => .inr hk)).mono ?_
  rintro e w' ⟨he, hd, hL', hf⟩
  have hs := hf.2.2.2.1
  refine ⟨he, ⟨fun k => (okd k ∨ W.heap.size ≤ k) ∧ k < w'.heap.size, okx, hd.bound, (h2.move (fun k hk hl => hf.2.2.2.2 k hl (fun h => by rcases h with (h | h) | h; exact h3 k h hk; exact absurd h (Nat.not_le.2 hl); subst h; exact (h5 _ hk).2.2 hKg))), fun k hk hx => by rcases hk.1 with h | h; exact h3 k h hx; exact absurd (h5 k hx).2.1 (Nat.not_lt.2 h), ?_, ?_⟩, hL', hf.below (Below.refl B W) hB (fun k hk => by rcases hk with (hk | hk) | hk; exact (h4 k hk).1; exact Nat.le_trans hB hk; rw [hk]; exact hBg), fun k hk hne hl => hf.2.2.2.2 k hl (fun h => by rcases h with (h | h) | h; exact (h4 k h).2.2 hk; exact absurd hl (Nat.not_lt.2 h); exact hne h)⟩
  · refine fun k hk => ⟨?_, hk.2, fun e => ?_⟩
    · rcases hk.1 with h | h
      · exact (h4 k h).1
      · exact Nat.le_trans hB h
    · rcases hk.1 with h | h
      · exact (h4 k h).2.2 e
      · exact absurd (hK k e) (Nat.not_lt.2 h)
  · exact fun k hk => ⟨(h5 k hk).1, Nat.lt_of_lt_of_le (h5 k hk).2.1 hs, (h5 k hk).2.2⟩
theorem Duo.open2_no {W : World} {B gd gx : Nat} {K : Nat → Prop} {D X : Dk} (h : Duo W B gd gx K D X) (hB : B ≤ W.heap.size) (hK : ∀ k, K k → k < W.heap.size) (A : Option Addr) (c : Nat) (fresh : List Int) (N : Int) (hI : X.IB) (hG : X.G N) (hN : N < 900000) (hC : Kd.C (Kd.int .u8) W A fresh.length fresh) (hl : fresh.length ≤ 100000000) (hA : ∀ ad, A = some ad → 0 < fresh.length → ad.block < B) (hE : opE X fresh ≠ 0) :
    Calls Try.prog 38 #[.pointer (some ⟨gx, 0, none⟩), .slice A fresh.length c] W fun e w' => e = .returned (.tuple #[.pointer none, .slice none 0 0, .slice none 0 0, .int .i64 (opE X fresh)]) ∧ Duo w' B gd gx K D (opD X fresh) ∧ Left B K W w' := by
  obtain ⟨okd, okx, h1, h2, h3, h4, h5⟩ := h
  refine (xopen gx (fun k => okx k ∨ W.heap.size ≤ k) X A c fresh N W (h2.mono (fun _ => .inl)) hI hG hN hC hl (fun k hk => .inr hk) (fun ad e hp hk => by have h6 := hA ad e hp; rcases hk with hk | hk; exact absurd h6 (Nat.not_lt.2 (h5 _ hk).1); omega)).mono ?_
  intro e w' hop
  obtain ⟨he, hf, hd⟩ := OpenedVX.inv_no hop hE
  exact ⟨he, Duo.step2 h1 h3 h4 h5 hB hK hd hf⟩
theorem Duo.open2_yes {W : World} {B gd gx : Nat} {K : Nat → Prop} {D X : Dk} (h : Duo W B gd gx K D X) (hB : B ≤ W.heap.size) (hK : ∀ k, K k → k < W.heap.size) (A : Option Addr) (c : Nat) (fresh : List Int) (N : Int) (hI : X.IB) (hG : X.G N) (hN : N < 900000) (hC : Kd.C (Kd.int .u8) W A fresh.length fresh) (hl : fresh.length ≤ 100000000) (hA : ∀ ad, A = some ad → 0 < fresh.length → ad.block < B) (hE : opE X fresh = 0) :
    Calls Try.prog 38 #[.pointer (some ⟨gx, 0, none⟩), .slice A fresh.length c] W fun e w' => ∃ gl M A1 c1 A2 c2, e = .returned (.tuple #[.pointer (some ⟨gl, 0, none⟩), .slice A1 (opS X fresh).length c1, .slice A2 (opR X).length c2, .int .i64 0]) ∧ W.heap.size ≤ M ∧ M ≤ gl ∧ gl < w'.heap.size ∧ Duo w' B gd gx (fun k => K k ∨ (M ≤ k ∧ k < w'.heap.size)) D (opD X fresh) ∧ IsLX w' gl gx (opL X) ∧ HoldsV w' (fun k => M ≤ k ∧ k ≠ gl) (opS X fresh) (opR X) (.slice A1 (opS X fresh).length c1) (.slice A2 (opR X).length c2) ∧ Left B K W w' := by
  obtain ⟨okd, okx, h1, h2, h3, h4, h5⟩ := h
  refine (xopen gx (fun k => okx k ∨ W.heap.size ≤ k) X A c fresh N W (h2.mono (fun _ => .inl)) hI hG hN hC hl (fun k hk => .inr hk) (fun ad e hp hk => by have h6 := hA ad e hp; rcases hk with hk | hk; exact absurd h6 (Nat.not_lt.2 (h5 _ hk).1); omega)).mono ?_
  intro e w' hop
  obtain ⟨gl, M, v1, v2, he, hf, hM, hgl, hd, hL, hv⟩ := OpenedVX.inv hop hE
  obtain ⟨A1, c1, A2, c2, e1, e2, _, _, _, _⟩ := hv.out
  subst e1 e2
  have hs := hf.2.2.2.1
  have hlt : gl < w'.heap.size := blk_lt hL
  refine ⟨gl, M, A1, c1, A2, c2, he, hM, hgl, hlt, ⟨okd, fun k => (okx k ∨ W.heap.size ≤ k) ∧ k < M, (h1.move (fun k hk hl => hf.2.2.2.2 k hl (fun h => by rcases h with h | h; exact h3 k hk h; exact absurd h (Nat.not_le.2 hl)))), hd, fun k hk hx => by rcases hx.1 with h | h; exact h3 k hk h; exact absurd (h4 k hk).2.1 (Nat.not_lt.2 h), ?_, ?_⟩, hL, hv, hf.below (Below.refl B W) hB (fun k hk => by rcases hk with hk | hk; exact (h5 k hk).1; exact Nat.le_trans hB hk), fun k hk hl => hf.2.2.2.2 k hl (fun h => by rcases h with h | h; exact (h5 k h).2.2 hk; exact absurd hl (Nat.not_lt.2 h))⟩
  · refine fun k hk => ⟨(h4 k hk).1, Nat.lt_of_lt_of_le (h4 k hk).2.1 hs, fun e => ?_⟩
    rcases e with e | e
    · exact (h4 k hk).2.2 e
    · have := (h4 k hk).2.1; omega
  · refine fun k hk => ⟨?_, by have := hk.2; omega, fun e => ?_⟩
    · rcases hk.1 with h | h
      · exact (h5 k h).1
      · exact Nat.le_trans hB h
    · rcases e with e | e
      · rcases hk.1 with h | h
        · exact (h5 k h).2.2 e
        · exact absurd (hK k e) (Nat.not_lt.2 h)
      · exact absurd e.1 (Nat.not_le.2 hk.2)
theorem Duo.add2 {W : World} {B gd gx gl : Nat} {K : Nat → Prop} {D X : Dk} {L : Lg} (h : Duo W B gd gx K D X) (hL : IsLX W gl gx L) (hKg : K gl) (hBg : B ≤ gl) (hB : B ≤ W.heap.size) (hK : ∀ k, K k → k < W.heap.size) (A : Option Addr) (c : Nat) (row : List Int) (N : Int) (hG : X.G N) (hN : N < 900000) (hLG : L.G 900000) (hC : Kd.C (Kd.int .u8) W A row.length row) (hc : row.length ≤ c) (hl : row.length ≤ 100000000) :
    Calls Try.prog 41 #[.pointer (some ⟨gl, 0, none⟩), .slice A row.length c] W fun e w' => e = .returned (.int .i64 (adE X L row)) ∧ Duo w' B gd gx K D (adD X L row) ∧ IsLX w' gl gx (adL X L row) ∧ LeftBut gl B K W w' := by
  obtain ⟨okd, okx, h1, h2, h3, h4, h5⟩ := h
  refine (xadd gx gl (fun k => okx k ∨ W.heap.size ≤ k) X L A c row N W (h2.mono (fun _ => .inl)) hL (fun hk => by rcases hk with hk | hk; exact (h5 _ hk).2.2 hKg; exact absurd (hK _ hKg) (Nat.not_lt.2 hk)) hG hN hLG hC hc hl (fun k hk => .inr hk)).mono ?_
  rintro e w' ⟨he, hd, hL', hf⟩
  have hs := hf.2.2.2.1
  refine ⟨he, ⟨okd, fun k => (okx k ∨ W.heap.size ≤ k) ∧ k < w'.heap.size, (h1.move (fun k hk hl => hf.2.2.2.2 k hl (fun h => by rcases h with (h | h) | h; exact h3 k hk h; exact absurd h (Nat.not_le.2 hl); subst h; exact (h4 _ hk).2.2 hKg))), hd.bound, fun k hk hx => by rcases hx.1 with h | h; exact h3 k hk h; exact absurd (h4 k hk).2.1 (Nat.not_lt.2 h), ?_, ?_⟩, hL', hf.below (Below.refl B W) hB (fun k hk => by rcases hk with (hk | hk) | hk; exact (h5 k hk).1; exact Nat.le_trans hB hk; rw [hk]; exact hBg), fun k hk hne hl => hf.2.2.2.2 k hl (fun h => by rcases h with (h | h) | h; exact (h5 k h).2.2 hk; exact absurd hl (Nat.not_lt.2 h); exact hne h)⟩
  · exact fun k hk => ⟨(h4 k hk).1, Nat.lt_of_lt_of_le (h4 k hk).2.1 hs, (h4 k hk).2.2⟩
  · refine fun k hk => ⟨?_, hk.2, fun e => ?_⟩
    · rcases hk.1 with h | h
      · exact (h5 k h).1
      · exact Nat.le_trans hB h
    · rcases hk.1 with h | h
      · exact (h5 k h).2.2 e
      · exact absurd (hK k e) (Nat.not_lt.2 h)
theorem Duo.save2 {W : World} {B gd gx gl : Nat} {K : Nat → Prop} {D X : Dk} {L : Lg} (h : Duo W B gd gx K D X) (hL : IsLX W gl gx L) (hKg : K gl) (hBg : B ≤ gl) (hB : B ≤ W.heap.size) (hK : ∀ k, K k → k < W.heap.size) (A : Option Addr) (c : Nat) (row : List Int) (N : Int) (hG : X.G N) (hN : N < 900000) (hLG : L.G 900000) (hC : Kd.C (Kd.int .u8) W A row.length row)  (hl : row.length ≤ 100000000) :
    Calls Try.prog 43 #[.pointer (some ⟨gl, 0, none⟩), .slice A row.length c] W fun e w' => e = .returned (.int .i64 (svE X (1 - L.side) (L.gen + 1) row)) ∧ Duo w' B gd gx K D (svD X (1 - L.side) (L.gen + 1) row) ∧ IsLX w' gl gx (saL X L row) ∧ LeftBut gl B K W w' := by
  obtain ⟨okd, okx, h1, h2, h3, h4, h5⟩ := h
  refine (xsaveL gx gl (fun k => okx k ∨ W.heap.size ≤ k) X L A c row N W (h2.mono (fun _ => .inl)) hL (fun hk => by rcases hk with hk | hk; exact (h5 _ hk).2.2 hKg; exact absurd (hK _ hKg) (Nat.not_lt.2 hk)) hG hN hLG hC hl (fun k hk => .inr hk)).mono ?_
  rintro e w' ⟨he, hd, hL', hf⟩
  have hs := hf.2.2.2.1
  refine ⟨he, ⟨okd, fun k => (okx k ∨ W.heap.size ≤ k) ∧ k < w'.heap.size, (h1.move (fun k hk hl => hf.2.2.2.2 k hl (fun h => by rcases h with (h | h) | h; exact h3 k hk h; exact absurd h (Nat.not_le.2 hl); subst h; exact (h4 _ hk).2.2 hKg))), hd.bound, fun k hk hx => by rcases hx.1 with h | h; exact h3 k hk h; exact absurd (h4 k hk).2.1 (Nat.not_lt.2 h), ?_, ?_⟩, hL', hf.below (Below.refl B W) hB (fun k hk => by rcases hk with (hk | hk) | hk; exact (h5 k hk).1; exact Nat.le_trans hB hk; rw [hk]; exact hBg), fun k hk hne hl => hf.2.2.2.2 k hl (fun h => by rcases h with (h | h) | h; exact (h5 k h).2.2 hk; exact absurd hl (Nat.not_lt.2 h); exact hne h)⟩
  · exact fun k hk => ⟨(h4 k hk).1, Nat.lt_of_lt_of_le (h4 k hk).2.1 hs, (h4 k hk).2.2⟩
  · refine fun k hk => ⟨?_, hk.2, fun e => ?_⟩
    · rcases hk.1 with h | h
      · exact (h5 k h).1
      · exact Nat.le_trans hB h
    · rcases hk.1 with h | h
      · exact (h5 k h).2.2 e
      · exact absurd (hK k e) (Nat.not_lt.2 h)
end Go.Proofs.Ythaeppjhmjpecaa.B
