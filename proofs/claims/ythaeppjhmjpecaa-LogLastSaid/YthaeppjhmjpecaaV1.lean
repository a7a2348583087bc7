/- Both decks in memory, apart from each other and from what is kept (K): contracts that keep this. -/
import Derived.Test.YthaeppjhmjpecaaU3
import Derived.Test.YthaeppjhmjpecaaT10
namespace Go.Proofs.Ythaeppjhmjpecaa.B
open Go.RowKit Go.Proofs.YthaeppjhmjpecaaW.PrintWords Go.Proofs.YthaeppjhmjpecaaW.PrintLast Go.Proofs.YthaeppjhmjpecaaW.PrintMore
set_option linter.unusedVariables false
/-- Both decks in memory, apart from each other and from K; all from block B on. -/
def Duo (W : World) (B gd gx : Nat) (K : Nat → Prop) (D X : Dk) : Prop := ∃ okd okx : Nat → Prop, IsD W okd gd D ∧ IsX W okx gx X ∧ (∀ k, okd k → ¬ okx k) ∧ (∀ k, okd k → B ≤ k ∧ k < W.heap.size ∧ ¬ K k) ∧ (∀ k, okx k → B ≤ k ∧ k < W.heap.size ∧ ¬ K k)
theorem Duo.below {W W' : World} {B gd gx : Nat} {K : Nat → Prop} {D X : Dk} (h : Duo W B gd gx K D X) (hb : Below W.heap.size W W') : Duo W' B gd gx K D X := by
  obtain ⟨okd, okx, h1, h2, h3, h4, h5⟩ := h
  exact ⟨okd, okx, h1.below hb, h2.below hb, h3, fun k hk => ⟨(h4 k hk).1, Nat.lt_of_lt_of_le (h4 k hk).2.1 hb.size, (h4 k hk).2.2⟩, fun k hk => ⟨(h5 k hk).1, Nat.lt_of_lt_of_le (h5 k hk).2.1 hb.size, (h5 k hk).2.2⟩⟩
/-- A new block is kept, too. -/
theorem Duo.keep {W : World} {B gd gx : Nat} {K K' : Nat → Prop} {D X : Dk} (h : Duo W B gd gx K D X) (hk : ∀ k, k < W.heap.size → K' k → K k) : Duo W B gd gx K' D X := by
  obtain ⟨okd, okx, h1, h2, h3, h4, h5⟩ := h
  exact ⟨okd, okx, h1, h2, h3, fun k hk' => ⟨(h4 k hk').1, (h4 k hk').2.1, fun e => (h4 k hk').2.2 (hk k (h4 k hk').2.1 e)⟩, fun k hk' => ⟨(h5 k hk').1, (h5 k hk').2.1, fun e => (h5 k hk').2.2 (hk k (h5 k hk').2.1 e)⟩⟩
theorem Duo.cells {W : World} {B gd gx : Nat} {K : Nat → Prop} {D X : Dk} (h : Duo W B gd gx K D X) : W.cell? ⟨gx, 5, none⟩ = some (.int .i64 X.ops) ∧ W.cell? ⟨gx, 9, none⟩ = some (.bool X.down) := by
  obtain ⟨okd, okx, h1, h2, h3, h4, h5⟩ := h
  obtain ⟨hg, A0, c0, A1, c1, hG, _, _⟩ := h2
  exact ⟨blk_cell hG 5, blk_cell hG 9⟩
/-- What a call leaves: below B and in K all is as it was. -/
def Left (B : Nat) (K : Nat → Prop) (W W' : World) : Prop := Below B W W' ∧ ∀ k, K k → k < W.heap.size → W'.heap[k]? = W.heap[k]?
theorem Left.below {B : Nat} {K : Nat → Prop} {W W' : World} (h : Left B K W W') : Below B W W' := h.1
theorem Left.refl (B : Nat) (K : Nat → Prop) (W : World) : Left B K W W := ⟨Below.refl _ _, fun _ _ _ => rfl⟩
theorem Left.cell {B g : Nat} {W W' : World} {K : Nat → Prop} {i : Nat} {v : Value} (h : Left B K W W') (hK : K g) (hc : W.cell? ⟨g, i, none⟩ = some v) : W'.cell? ⟨g, i, none⟩ = some v := by
  have hl := World.block_lt_of_cell? W _ hc
  rw [World.cell?_of_block (w := W) (w' := W') (a := ⟨g, i, none⟩) (h.2 g hK hl)]
  exact hc
/-- The first deck does something: the second one stays. -/
theorem Duo.step1 {W W' : World} {B gd gx : Nat} {K : Nat → Prop} {X D' : Dk} {okd okx : Nat → Prop} (hx : IsX W okx gx X) (h3 : ∀ k, okd k → ¬ okx k) (h4 : ∀ k, okd k → B ≤ k ∧ k < W.heap.size ∧ ¬ K k) (h5 : ∀ k, okx k → B ≤ k ∧ k < W.heap.size ∧ ¬ K k) (hB : B ≤ W.heap.size) (hK : ∀ k, K k → k < W.heap.size)
    (hd : IsD W' (fun k => okd k ∨ W.heap.size ≤ k) gd D') (hf : Fr (fun k => okd k ∨ W.heap.size ≤ k) W W') : Duo W' B gd gx K D' X ∧ Left B K W W' := by
  have hs := hf.2.2.2.1
  refine ⟨⟨_, okx, hd.bound, hx.move (fun k hk hl => hf.2.2.2.2 k hl (fun h => ?_)), fun k hk hkx => ?_, fun k hk => ⟨?_, hk.2, fun e => ?_⟩, fun k hk => ⟨(h5 k hk).1, Nat.lt_of_lt_of_le (h5 k hk).2.1 hs, (h5 k hk).2.2⟩⟩, hf.below (Below.refl B W) hB (fun k hk => ?_), fun k hk hl => hf.2.2.2.2 k hl (fun h => ?_)⟩
  · rcases h with h | h
    · exact h3 k h hk
    · exact absurd h (Nat.not_le.2 hl)
  · rcases hk.1 with h | h
    · exact h3 k h hkx
    · exact absurd (h5 k hkx).2.1 (Nat.not_lt.2 h)
  · rcases hk.1 with h | h
    · exact (h4 k h).1
    · exact Nat.le_trans hB h
  · rcases hk.1 with h | h
    · exact (h4 k h).2.2 e
    · exact absurd (hK k e) (Nat.not_lt.2 h)
  · rcases hk with hk | hk
    · exact (h4 k hk).1
    · exact Nat.le_trans hB hk
  · rcases h with h | h
    · exact (h4 k h).2.2 hk
    · exact absurd hl (Nat.not_lt.2 h)
theorem Duo.step2 {W W' : World} {B gd gx : Nat} {K : Nat → Prop} {D D' : Dk} {okd okx : Nat → Prop} (hd : IsD W okd gd D) (h3 : ∀ k, okd k → ¬ okx k) (h4 : ∀ k, okd k → B ≤ k ∧ k < W.heap.size ∧ ¬ K k) (h5 : ∀ k, okx k → B ≤ k ∧ k < W.heap.size ∧ ¬ K k) (hB : B ≤ W.heap.size) (hK : ∀ k, K k → k < W.heap.size)
    (hx : IsX W' (fun k => okx k ∨ W.heap.size ≤ k) gx D') (hf : Fr (fun k => okx k ∨ W.heap.size ≤ k) W W') : Duo W' B gd gx K D D' ∧ Left B K W W' := by
  have hs := hf.2.2.2.1
  refine ⟨⟨okd, _, hd.move (fun k hk hl => hf.2.2.2.2 k hl (fun h => ?_)), hx.bound, fun k hk h => ?_, fun k hk => ⟨(h4 k hk).1, Nat.lt_of_lt_of_le (h4 k hk).2.1 hs, (h4 k hk).2.2⟩, fun k hk => ⟨?_, hk.2, fun e => ?_⟩⟩, hf.below (Below.refl B W) hB (fun k hk => ?_), fun k hk hl => hf.2.2.2.2 k hl (fun h => ?_)⟩
  · rcases h with h | h
    · exact h3 k hk h
    · exact absurd h (Nat.not_le.2 hl)
  · rcases h.1 with h | h
    · exact h3 k hk h
    · exact absurd (h4 k hk).2.1 (Nat.not_lt.2 h)
  · rcases hk.1 with h | h
    · exact (h5 k h).1
    · exact Nat.le_trans hB h
  · rcases hk.1 with h | h
    · exact (h5 k h).2.2 e
    · exact absurd (hK k e) (Nat.not_lt.2 h)
  · rcases hk with hk | hk
    · exact (h5 k hk).1
    · exact Nat.le_trans hB hk
  · rcases h with h | h
    · exact (h5 k h).2.2 hk
    · exact absurd hl (Nat.not_lt.2 h)
theorem Duo.app1 {W : World} {B gd gx : Nat} {K : Nat → Prop} {D X : Dk} (h : Duo W B gd gx K D X) (hB : B ≤ W.heap.size) (hK : ∀ k, K k → k < W.heap.size) (side : Int) (A : Option Addr) (c : Nat) (l : List Int) (hC : Kd.C (Kd.int .u8) W A l.length l) (hl : l.length ≤ 140737488351232) (hA : ∀ ad, A = some ad → 0 < l.length → ad.block < B) (hw : D.Wf) :
    Calls Try.prog 15 #[.pointer (some ⟨gd, 0, none⟩), .int .i64 side, .slice A l.length c] W fun e w' => e = .returned (.int .i64 (D.appE side l)) ∧ Duo w' B gd gx K (D.app side l) X ∧ Left B K W w' := by
  obtain ⟨okd, okx, h1, h2, h3, h4, h5⟩ := h
  refine (tapp gd (fun k => okd k ∨ W.heap.size ≤ k) D side A c l W (h1.mono (fun _ => .inl)) hw hC hl (fun ad e hp => by have := hA ad e hp; have := (h4 gd h1.1).1; omega) (fun k hk => .inr hk)).mono ?_
  rintro e w' ⟨he, hd, hf⟩
  exact ⟨he, Duo.step1 h2 h3 h4 h5 hB hK hd hf⟩
theorem Duo.app2 {W : World} {B gd gx : Nat} {K : Nat → Prop} {D X : Dk} (h : Duo W B gd gx K D X) (hB : B ≤ W.heap.size) (hK : ∀ k, K k → k < W.heap.size) (side : Int) (A : Option Addr) (c : Nat) (l : List Int) (hC : Kd.C (Kd.int .u8) W A l.length l) (hl : l.length ≤ 140737488351232) (hA : ∀ ad, A = some ad → 0 < l.length → ad.block < B) (hw : X.Wf) :
    Calls Try.prog 25 #[.pointer (some ⟨gx, 0, none⟩), .int .i64 side, .slice A l.length c] W fun e w' => e = .returned (.int .i64 (X.appE side l)) ∧ Duo w' B gd gx K D (X.app side l) ∧ Left B K W w' := by
  obtain ⟨okd, okx, h1, h2, h3, h4, h5⟩ := h
  refine (xapp gx (fun k => okx k ∨ W.heap.size ≤ k) X side A c l W (h2.mono (fun _ => .inl)) hw hC hl (fun ad e hp => by have := hA ad e hp; have := (h5 gx h2.1).1; omega) (fun k hk => .inr hk)).mono ?_
  rintro e w' ⟨he, hd, hf⟩
  exact ⟨he, Duo.step2 h1 h3 h4 h5 hB hK hd hf⟩
theorem Duo.sync1 {W : World} {B gd gx : Nat} {K : Nat → Prop} {D X : Dk} (h : Duo W B gd gx K D X) (hB : B ≤ W.heap.size) (hK : ∀ k, K k → k < W.heap.size) (hw : D.Wf) :
    Calls Try.prog 21 #[.pointer (some ⟨gd, 0, none⟩)] W fun e w' => e = .returned (.int .i64 D.syncE) ∧ Duo w' B gd gx K D.sync X ∧ Left B K W w' := by
  obtain ⟨okd, okx, h1, h2, h3, h4, h5⟩ := h
  refine (tsync gd (fun k => okd k ∨ W.heap.size ≤ k) D W (h1.mono (fun _ => .inl)) hw).mono ?_
  rintro e w' ⟨he, hd, hf⟩
  exact ⟨he, Duo.step1 h2 h3 h4 h5 hB hK hd hf⟩
theorem Duo.sync2 {W : World} {B gd gx : Nat} {K : Nat → Prop} {D X : Dk} (h : Duo W B gd gx K D X) (hB : B ≤ W.heap.size) (hK : ∀ k, K k → k < W.heap.size) (hw : X.Wf) :
    Calls Try.prog 26 #[.pointer (some ⟨gx, 0, none⟩)] W fun e w' => e = .returned (.int .i64 X.syncE) ∧ Duo w' B gd gx K D X.sync ∧ Left B K W w' := by
  obtain ⟨okd, okx, h1, h2, h3, h4, h5⟩ := h
  refine (xsync gx (fun k => okx k ∨ W.heap.size ≤ k) X W (h2.mono (fun _ => .inl)) hw).mono ?_
  rintro e w' ⟨he, hd, hf⟩
  exact ⟨he, Duo.step2 h1 h3 h4 h5 hB hK hd hf⟩
theorem Duo.wipe1 {W : World} {B gd gx : Nat} {K : Nat → Prop} {D X : Dk} (h : Duo W B gd gx K D X) (hB : B ≤ W.heap.size) (hK : ∀ k, K k → k < W.heap.size) (side : Int) (hw : D.Wf) :
    Calls Try.prog 23 #[.pointer (some ⟨gd, 0, none⟩), .int .i64 side] W fun e w' => e = .returned (.int .i64 (D.wipeE side)) ∧ Duo w' B gd gx K (D.wipe side) X ∧ Left B K W w' := by
  obtain ⟨okd, okx, h1, h2, h3, h4, h5⟩ := h
  refine (twipe gd (fun k => okd k ∨ W.heap.size ≤ k) D side W (h1.mono (fun _ => .inl)) hw).mono ?_
  rintro e w' ⟨he, hd, hf⟩
  exact ⟨he, Duo.step1 h2 h3 h4 h5 hB hK hd hf⟩
theorem Duo.wipe2 {W : World} {B gd gx : Nat} {K : Nat → Prop} {D X : Dk} (h : Duo W B gd gx K D X) (hB : B ≤ W.heap.size) (hK : ∀ k, K k → k < W.heap.size) (side : Int) (hw : X.Wf) :
    Calls Try.prog 27 #[.pointer (some ⟨gx, 0, none⟩), .int .i64 side] W fun e w' => e = .returned (.int .i64 (X.wipeE side)) ∧ Duo w' B gd gx K D (X.wipe side) ∧ Left B K W w' := by
  obtain ⟨okd, okx, h1, h2, h3, h4, h5⟩ := h
  refine (xwipe gx (fun k => okx k ∨ W.heap.size ≤ k) X side W (h2.mono (fun _ => .inl)) hw).mono ?_
  rintro e w' ⟨he, hd, hf⟩
  exact ⟨he, Duo.step2 h1 h3 h4 h5 hB hK hd hf⟩
theorem Duo.arm1 {W : World} {B gd gx : Nat} {K : Nat → Prop} {D X : Dk} (h : Duo W B gd gx K D X) (hB : B ≤ W.heap.size) (hK : ∀ k, K k → k < W.heap.size) (x y : Int) :
    Calls Try.prog 18 #[.pointer (some ⟨gd, 0, none⟩), .agg #[.int .i64 x, .int .i64 y]] W fun e w' => e = .returned (.tuple #[]) ∧ Duo w' B gd gx K (D.arm x y) X ∧ Left B K W w' := by
  obtain ⟨okd, okx, h1, h2, h3, h4, h5⟩ := h
  refine (tarm gd (fun k => okd k ∨ W.heap.size ≤ k) D x y W (h1.mono (fun _ => .inl))).mono ?_
  rintro e w' ⟨he, hd, hf⟩
  exact ⟨he, Duo.step1 h2 h3 h4 h5 hB hK hd hf⟩
theorem Duo.arm2 {W : World} {B gd gx : Nat} {K : Nat → Prop} {D X : Dk} (h : Duo W B gd gx K D X) (hB : B ≤ W.heap.size) (hK : ∀ k, K k → k < W.heap.size) (x y : Int) :
    Calls Try.prog 28 #[.pointer (some ⟨gx, 0, none⟩), .agg #[.int .i64 x, .int .i64 y]] W fun e w' => e = .returned (.tuple #[]) ∧ Duo w' B gd gx K D (X.arm x y) ∧ Left B K W w' := by
  obtain ⟨okd, okx, h1, h2, h3, h4, h5⟩ := h
  refine (xarm gx (fun k => okx k ∨ W.heap.size ≤ k) X x y W (h2.mono (fun _ => .inl))).mono ?_
  rintro e w' ⟨he, hd, hf⟩
  exact ⟨he, Duo.step2 h1 h3 h4 h5 hB hK hd hf⟩
theorem Duo.restart1 {W : World} {B gd gx : Nat} {K : Nat → Prop} {D X : Dk} (h : Duo W B gd gx K D X) (hB : B ≤ W.heap.size) (hK : ∀ k, K k → k < W.heap.size) (hw : D.s0 ≤ D.b0.length ∧ D.s1 ≤ D.b1.length) :
    Calls Try.prog 22 #[.pointer (some ⟨gd, 0, none⟩)] W fun e w' => e = .returned (.tuple #[]) ∧ Duo w' B gd gx K D.restart X ∧ Left B K W w' := by
  obtain ⟨okd, okx, h1, h2, h3, h4, h5⟩ := h
  refine (trestart gd (fun k => okd k ∨ W.heap.size ≤ k) D W (h1.mono (fun _ => .inl)) hw).mono ?_
  rintro e w' ⟨he, hd, hf⟩
  exact ⟨he, Duo.step1 h2 h3 h4 h5 hB hK hd hf⟩
theorem Duo.restart2 {W : World} {B gd gx : Nat} {K : Nat → Prop} {D X : Dk} (h : Duo W B gd gx K D X) (hB : B ≤ W.heap.size) (hK : ∀ k, K k → k < W.heap.size) (hw : X.s0 ≤ X.b0.length ∧ X.s1 ≤ X.b1.length) :
    Calls Try.prog 29 #[.pointer (some ⟨gx, 0, none⟩)] W fun e w' => e = .returned (.tuple #[]) ∧ Duo w' B gd gx K D X.restart ∧ Left B K W w' := by
  obtain ⟨okd, okx, h1, h2, h3, h4, h5⟩ := h
  refine (xrestart gx (fun k => okx k ∨ W.heap.size ≤ k) X W (h2.mono (fun _ => .inl)) hw).mono ?_
  rintro e w' ⟨he, hd, hf⟩
  exact ⟨he, Duo.step2 h1 h3 h4 h5 hB hK hd hf⟩
theorem Duo.down1 {W : World} {B gd gx : Nat} {K : Nat → Prop} {D X : Dk} (h : Duo W B gd gx K D X) : Calls Try.prog 19 #[.pointer (some ⟨gd, 0, none⟩)] W fun e w' => e = .returned (.bool D.down) ∧ Below W.heap.size W w' := by
  obtain ⟨okd, okx, h1, h2, h3, h4, h5⟩ := h
  exact tdown' gd _ D W h1
theorem Duo.ops1 {W : World} {B gd gx : Nat} {K : Nat → Prop} {D X : Dk} (h : Duo W B gd gx K D X) : Calls Try.prog 20 #[.pointer (some ⟨gd, 0, none⟩)] W fun e w' => e = .returned (.int .i64 D.ops) ∧ Below W.heap.size W w' := by
  obtain ⟨okd, okx, h1, h2, h3, h4, h5⟩ := h
  exact tops' gd _ D W h1
theorem Duo.room1 {W : World} {B gd gx : Nat} {K : Nat → Prop} {D X : Dk} (h : Duo W B gd gx K D X) : Calls Try.prog 30 #[.pointer (some ⟨gd, 0, none⟩)] W fun e w' => e = .returned (.int .i64 D.room) ∧ Below W.heap.size W w' := by
  obtain ⟨okd, okx, h1, h2, h3, h4, h5⟩ := h
  exact troom' gd _ D W h1
theorem Duo.read1 {W : World} {B gd gx : Nat} {K : Nat → Prop} {D X : Dk} (h : Duo W B gd gx K D X) (side : Int) (h0 : D.b0.length ≤ 140737488351232 ∧ D.b1.length ≤ 140737488351232) : Calls Try.prog 16 #[.pointer (some ⟨gd, 0, none⟩), .int .i64 side] W fun e w' => ∃ A c, e = .returned (.slice A (D.read side).length c) ∧ Kd.C (Kd.int .u8) w' A (D.read side).length (D.read side) ∧ Below W.heap.size W w' := by
  obtain ⟨okd, okx, h1, h2, h3, h4, h5⟩ := h
  refine (tread gd _ D side W h1 h0.1 h0.2).mono ?_
  rintro e w' ⟨v, rfl, ho, hb⟩
  obtain ⟨A, c, rfl⟩ := Kd.R_slice ho
  exact ⟨A, c, rfl, (Kd.R_reads' ho).2.2, hb⟩
theorem Duo.read2 {W : World} {B gd gx : Nat} {K : Nat → Prop} {D X : Dk} (h : Duo W B gd gx K D X) (side : Int) (h0 : X.b0.length ≤ 140737488351232 ∧ X.b1.length ≤ 140737488351232) : Calls Try.prog 31 #[.pointer (some ⟨gx, 0, none⟩), .int .i64 side] W fun e w' => ∃ A c, e = .returned (.slice A (X.read side).length c) ∧ Kd.C (Kd.int .u8) w' A (X.read side).length (X.read side) ∧ Below W.heap.size W w' := by
  obtain ⟨okd, okx, h1, h2, h3, h4, h5⟩ := h
  refine (xread gx _ X side W h2 h0.1 h0.2).mono ?_
  rintro e w' ⟨v, rfl, ho, hb⟩
  obtain ⟨A, c, rfl⟩ := Kd.R_slice ho
  exact ⟨A, c, rfl, (Kd.R_reads' ho).2.2, hb⟩
theorem Duo.room2 {W : World} {B gd gx : Nat} {K : Nat → Prop} {D X : Dk} (h : Duo W B gd gx K D X) : Calls Try.prog 58 #[.pointer (some ⟨gx, 0, none⟩)] W fun e w' => e = .returned (.int .i64 X.room) ∧ Below W.heap.size W w' := by
  obtain ⟨okd, okx, h1, h2, h3, h4, h5⟩ := h
  exact xroom gx _ X W h2
end Go.Proofs.Ythaeppjhmjpecaa.B
