/- A deck in memory: ten cells behind a pointer, two rows of bytes; what a call may have touched. Nothing of the program. -/
import Derived.Test.YtpcfceodbemooaaB2
namespace Go.Proofs.Ytpcfceodbemooaa.B
open Go.RowKit Go.Proofs.YtpcfceodbemooaaW.PrintWords Go.Proofs.YtpcfceodbemooaaW.PrintLast Go.Proofs.YtpcfceodbemooaaW.PrintMore

/-- What a call with a footprint 'ok' leaves. -/
def Fr (ok : Nat → Prop) (w w' : World) : Prop := w'.os = w.os ∧ w'.tape = w.tape ∧ w'.output = w.output ∧ w.heap.size ≤ w'.heap.size ∧ ∀ k, k < w.heap.size → ¬ ok k → w'.heap[k]? = w.heap[k]?
theorem Fr.refl (ok : Nat → Prop) (w : World) : Fr ok w w := ⟨rfl, rfl, rfl, Nat.le_refl _, fun _ _ _ => rfl⟩
theorem Fr.trans {ok : Nat → Prop} {w w1 w2 : World} (h : Fr ok w w1) (k : Fr ok w1 w2) : Fr ok w w2 :=
  ⟨k.1.trans h.1, k.2.1.trans h.2.1, k.2.2.1.trans h.2.2.1, Nat.le_trans h.2.2.2.1 k.2.2.2.1, fun i hi ho => (k.2.2.2.2 i (Nat.lt_of_lt_of_le hi h.2.2.2.1) ho).trans (h.2.2.2.2 i hi ho)⟩
theorem Fr.mono {ok ok' : Nat → Prop} {w w' : World} (h : Fr ok w w') (hm : ∀ k, k < w.heap.size → ok k → ok' k) : Fr ok' w w' :=
  ⟨h.1, h.2.1, h.2.2.1, h.2.2.2.1, fun k hk ho => h.2.2.2.2 k hk (fun h' => ho (hm k hk h'))⟩
theorem Fr.of_below {ok : Nat → Prop} {w w' : World} (h : Below w.heap.size w w') : Fr ok w w' := ⟨h.os, h.tape, h.output, h.size, fun k hk _ => h.block k hk⟩
theorem Fr.below {ok : Nat → Prop} {B : Nat} {w0 w w' : World} (h : Fr ok w w') (hb : Below B w0 w) (hB : B ≤ w.heap.size) (hok : ∀ k, ok k → B ≤ k) : Below B w0 w' :=
  ⟨h.1.trans hb.os, h.2.1.trans hb.tape, h.2.2.1.trans hb.output, Nat.le_trans hb.size h.2.2.2.1, fun k hk => (h.2.2.2.2 k (by omega) (fun h' => by have := hok k h'; omega)).trans (hb.block k hk)⟩
theorem Fr.below' {ok : Nat → Prop} {w0 w w' : World} (h : Fr ok w w') (hb : Below w0.heap.size w0 w) (hok : ∀ k, ok k → w0.heap.size ≤ k) : Below w0.heap.size w0 w' := h.below hb hb.size hok
theorem below_row {B g : Nat} {w0 w : World} (hb : Below B w0 w) (hBg : B ≤ g) (cs : Array Value) : Below B w0 (w.setRow g cs) :=
  ⟨hb.os, hb.tape, hb.output, by rw [setRow_size]; exact hb.size, fun k hk => (setRow_other w g k cs (by omega)).trans (hb.block k hk)⟩
/-- One block is written, no other. -/
def Only (g : Nat) (w w' : World) : Prop := w'.os = w.os ∧ w'.tape = w.tape ∧ w'.output = w.output ∧ w'.heap.size = w.heap.size ∧ ∀ k, k ≠ g → w'.heap[k]? = w.heap[k]?
theorem Only.refl (g : Nat) (w : World) : Only g w w := ⟨rfl, rfl, rfl, rfl, fun _ _ => rfl⟩
theorem Only.trans {g : Nat} {w w1 w2 : World} (h : Only g w w1) (k : Only g w1 w2) : Only g w w2 :=
  ⟨k.1.trans h.1, k.2.1.trans h.2.1, k.2.2.1.trans h.2.2.1, k.2.2.2.1.trans h.2.2.2.1, fun i hi => (k.2.2.2.2 i hi).trans (h.2.2.2.2 i hi)⟩
theorem Only.fr {ok : Nat → Prop} {g : Nat} {w w' : World} (h : Only g w w') (hg : ok g) : Fr ok w w' :=
  ⟨h.1, h.2.1, h.2.2.1, Nat.le_of_eq h.2.2.2.1.symm, fun k _ ho => h.2.2.2.2 k (fun e => ho (by rw [e]; exact hg))⟩
theorem Only.drew (g : Nat) (w : World) : Only g w w.drew := ⟨rfl, rfl, rfl, rfl, fun _ _ => rfl⟩
theorem Only.drewN (g : Nat) (w : World) (n : Nat) : Only g w (w.drewN n) := ⟨rfl, rfl, rfl, rfl, fun _ _ => rfl⟩
theorem Only.set (g i : Nat) (w : World) (v : Value) : Only g w (w.setCell ⟨g, i, none⟩ v) :=
  have h := Below.setCell (Below.refl g w) (p := ⟨g, i, none⟩) (Nat.le_refl _) v
  ⟨h.os, h.tape, h.output, by simp, fun k hk => Below.heap_setCell w ⟨g, i, none⟩ v k hk⟩
theorem Only.row {g : Nat} {w : World} (cs : Array Value) : Only g w (w.setRow g cs) :=
  have h : Below 0 w (w.setRow g cs) := below_row (Below.refl 0 w) (Nat.zero_le _) cs
  ⟨h.os, h.tape, h.output, setRow_size _ _ _, fun k hk => setRow_other w g k cs hk⟩

/-- A row that is read stays, where its block stays. -/
theorem C_move {k : IntKind} {w w' : World} {A : Option Addr} {n : Nat} {xs : List Int} (h : Kd.C (Kd.int k) w A n xs) (hb : ∀ ad, A = some ad → 0 < n → ad.block < w.heap.size → w'.heap[ad.block]? = w.heap[ad.block]?) : Kd.C (Kd.int k) w' A n xs := by
  refine ⟨h.1, h.2.1, fun hn => ?_⟩
  obtain ⟨ad, rfl, hc⟩ := h.2.2 hn
  refine ⟨ad, rfl, fun j p hj => ?_⟩
  obtain ⟨c, h1, h2, h3⟩ := hc j p hj
  refine ⟨c, h1, h2, fun i u hu => ?_⟩
  have h4 := h3 i u hu
  have hlt : ad.block < w.heap.size := by
    have := World.block_lt_of_cell? w _ h4
    rwa [add_block] at this
  rw [World.cell?_of_block (w := w) (w' := w') (a := ad.add (j * (Kd.int k).sz + i)) (by rw [add_block]; exact hb ad rfl hn hlt)]
  exact h4
theorem C_only {k : IntKind} {w w' : World} {A : Option Addr} {n g : Nat} {xs : List Int} (h : Kd.C (Kd.int k) w A n xs) (ho : Only g w w') (hb : ∀ ad, A = some ad → 0 < n → ad.block ≠ g) : Kd.C (Kd.int k) w' A n xs :=
  C_move h (fun ad e hn _ => ho.2.2.2.2 _ (hb ad e hn))
theorem C_fr {ok : Nat → Prop} {k : IntKind} {w w' : World} {A : Option Addr} {n : Nat} {xs : List Int} (h : Kd.C (Kd.int k) w A n xs) (ho : Fr ok w w') (hb : ∀ ad, A = some ad → 0 < n → ¬ ok ad.block) : Kd.C (Kd.int k) w' A n xs :=
  C_move h (fun ad e hn hl => ho.2.2.2.2 _ hl (hb ad e hn))

/-- A deck: room, two rows of bytes, how much of each is synced, where it crashes, is it armed, down, how many operations. -/
structure Dk where
  room : Int
  b0 : List Int
  s0 : Nat
  b1 : List Int
  s1 : Nat
  cat : Int
  keep : Int
  armed : Bool
  down : Bool
  ops : Int
/-- The two rows' memory apart from the deck's block and from each other. -/
def P0 (ok : Nat → Prop) (g : Nat) (v : Value) : Nat → Prop := fun k => ok k ∧ k ≠ g ∧ some k ≠ v.ownBlock
theorem cells10 {W : World} {g t : Nat} {a0 a1 a2 a3 a4 a5 a6 a7 a8 a9 : Value} (h : W.heap[g]? = some (.cells #[a0, a1, a2, a3, a4, a5, a6, a7, a8, a9] t (0, 0))) : W.cell? ⟨g, 0, none⟩ = some a0 ∧ W.cell? ⟨g, 1, none⟩ = some a1 ∧ W.cell? ⟨g, 2, none⟩ = some a2 ∧ W.cell? ⟨g, 3, none⟩ = some a3 ∧ W.cell? ⟨g, 4, none⟩ = some a4 ∧ W.cell? ⟨g, 5, none⟩ = some a5 ∧ W.cell? ⟨g, 6, none⟩ = some a6 ∧ W.cell? ⟨g, 7, none⟩ = some a7 ∧ W.cell? ⟨g, 8, none⟩ = some a8 ∧ W.cell? ⟨g, 9, none⟩ = some a9 ∧ ∀ i, W.frozen? ⟨g, i, none⟩ = false :=
  ⟨blk_cell h 0, blk_cell h 1, blk_cell h 2, blk_cell h 3, blk_cell h 4, blk_cell h 5, blk_cell h 6, blk_cell h 7, blk_cell h 8, blk_cell h 9, fun i => blk_frozen h i⟩
theorem set10_0 {W : World} {g t : Nat} {a0 a1 a2 a3 a4 a5 a6 a7 a8 a9 : Value} (h : W.heap[g]? = some (.cells #[a0, a1, a2, a3, a4, a5, a6, a7, a8, a9] t (0, 0))) (u : Value) : (W.setCell ⟨g, 0, none⟩ u).heap[g]? = some (.cells #[u, a1, a2, a3, a4, a5, a6, a7, a8, a9] t (0, 0)) := by
  rw [blk_set h 0 u]
  rfl
theorem set10_1 {W : World} {g t : Nat} {a0 a1 a2 a3 a4 a5 a6 a7 a8 a9 : Value} (h : W.heap[g]? = some (.cells #[a0, a1, a2, a3, a4, a5, a6, a7, a8, a9] t (0, 0))) (u : Value) : (W.setCell ⟨g, 1, none⟩ u).heap[g]? = some (.cells #[a0, u, a2, a3, a4, a5, a6, a7, a8, a9] t (0, 0)) := by
  rw [blk_set h 1 u]
  rfl
theorem set10_2 {W : World} {g t : Nat} {a0 a1 a2 a3 a4 a5 a6 a7 a8 a9 : Value} (h : W.heap[g]? = some (.cells #[a0, a1, a2, a3, a4, a5, a6, a7, a8, a9] t (0, 0))) (u : Value) : (W.setCell ⟨g, 2, none⟩ u).heap[g]? = some (.cells #[a0, a1, u, a3, a4, a5, a6, a7, a8, a9] t (0, 0)) := by
  rw [blk_set h 2 u]
  rfl
theorem set10_3 {W : World} {g t : Nat} {a0 a1 a2 a3 a4 a5 a6 a7 a8 a9 : Value} (h : W.heap[g]? = some (.cells #[a0, a1, a2, a3, a4, a5, a6, a7, a8, a9] t (0, 0))) (u : Value) : (W.setCell ⟨g, 3, none⟩ u).heap[g]? = some (.cells #[a0, a1, a2, u, a4, a5, a6, a7, a8, a9] t (0, 0)) := by
  rw [blk_set h 3 u]
  rfl
theorem set10_4 {W : World} {g t : Nat} {a0 a1 a2 a3 a4 a5 a6 a7 a8 a9 : Value} (h : W.heap[g]? = some (.cells #[a0, a1, a2, a3, a4, a5, a6, a7, a8, a9] t (0, 0))) (u : Value) : (W.setCell ⟨g, 4, none⟩ u).heap[g]? = some (.cells #[a0, a1, a2, a3, u, a5, a6, a7, a8, a9] t (0, 0)) := by
  rw [blk_set h 4 u]
  rfl
theorem set10_5 {W : World} {g t : Nat} {a0 a1 a2 a3 a4 a5 a6 a7 a8 a9 : Value} (h : W.heap[g]? = some (.cells #[a0, a1, a2, a3, a4, a5, a6, a7, a8, a9] t (0, 0))) (u : Value) : (W.setCell ⟨g, 5, none⟩ u).heap[g]? = some (.cells #[a0, a1, a2, a3, a4, u, a6, a7, a8, a9] t (0, 0)) := by
  rw [blk_set h 5 u]
  rfl
theorem set10_6 {W : World} {g t : Nat} {a0 a1 a2 a3 a4 a5 a6 a7 a8 a9 : Value} (h : W.heap[g]? = some (.cells #[a0, a1, a2, a3, a4, a5, a6, a7, a8, a9] t (0, 0))) (u : Value) : (W.setCell ⟨g, 6, none⟩ u).heap[g]? = some (.cells #[a0, a1, a2, a3, a4, a5, u, a7, a8, a9] t (0, 0)) := by
  rw [blk_set h 6 u]
  rfl
theorem set10_7 {W : World} {g t : Nat} {a0 a1 a2 a3 a4 a5 a6 a7 a8 a9 : Value} (h : W.heap[g]? = some (.cells #[a0, a1, a2, a3, a4, a5, a6, a7, a8, a9] t (0, 0))) (u : Value) : (W.setCell ⟨g, 7, none⟩ u).heap[g]? = some (.cells #[a0, a1, a2, a3, a4, a5, a6, u, a8, a9] t (0, 0)) := by
  rw [blk_set h 7 u]
  rfl
theorem set10_8 {W : World} {g t : Nat} {a0 a1 a2 a3 a4 a5 a6 a7 a8 a9 : Value} (h : W.heap[g]? = some (.cells #[a0, a1, a2, a3, a4, a5, a6, a7, a8, a9] t (0, 0))) (u : Value) : (W.setCell ⟨g, 8, none⟩ u).heap[g]? = some (.cells #[a0, a1, a2, a3, a4, a5, a6, a7, u, a9] t (0, 0)) := by
  rw [blk_set h 8 u]
  rfl
theorem set10_9 {W : World} {g t : Nat} {a0 a1 a2 a3 a4 a5 a6 a7 a8 a9 : Value} (h : W.heap[g]? = some (.cells #[a0, a1, a2, a3, a4, a5, a6, a7, a8, a9] t (0, 0))) (u : Value) : (W.setCell ⟨g, 9, none⟩ u).heap[g]? = some (.cells #[a0, a1, a2, a3, a4, a5, a6, a7, a8, u] t (0, 0)) := by
  rw [blk_set h 9 u]
  rfl
section
variable {P : Program} {ops : Array Oper} {rest : List Oper} {o : Oper} {a : Act} {Q : Exit → Act → World → Prop} {W : World}
/-- *p = u: one cell of a block; the world behind it is a letter. -/
theorem store_only (hgd : o.guard = none) (ty : TypeId) (x y : Operand) (ho : o.op = .store ty x y) (g i : Nat) (u : Value) (hx : a.eval x = .pointer (some ⟨g, i, none⟩)) (hy : a.eval y = u)
    (t : TypeId) (old cells : Array Value) (hg : W.heap[g]? = some (.cells old t (0, 0))) (hi : (P.info? ty).map (·.size) = some 1) (hlt : i < old.size) (hc : old.setIfInBounds i u = cells) (hu : u.cells.toList = [u]) (h1 : u.oneCell' = true)
    (h : ∀ w', w'.heap[g]? = some (.cells cells t (0, 0)) → Only g W w' → wpList P ops Q rest (a.put o.dst undef) w') : wpList P ops Q (o :: rest) a W := by
  have hr := run_store_run (P := P) (w := W) (g := g) (o := i) ty u [u] hg hu hi (by show i + 1 ≤ old.size; omega) (by intro q hq; rw [List.mem_singleton.1 hq]; exact h1)
  have e : W.setCells g i [u] = W.setRow g cells := by rw [← hc]; exact setCell_eq_setRow W g i old t (0, 0) u hg
  rw [e] at hr
  refine wpList_plain hgd fun K hK => ?_
  unfold Oper.wp execOp
  simp only [ho, hx, hy, Sem.run_bind, hr, Result.andThen_ok]
  exact hK _ _ (h _ (setRow_heap _ _ _ _ _ _ hg) (Only.row _))
end
end Go.Proofs.Ytpcfceodbemooaa.B
