/- How plain values and memory stand to those of the model. Nothing of the program. -/
import Derived.Test.YtbmhamijoajnhaaGreatE4
import Derived.Below
import Derived.Laws.CopyRow
import Derived.Laws.AppendOwn
namespace Go.Proofs.YtbmhamijoajnhaaGreat.E
open Go Go.RowKit

/-- Which block, from which cell on, a number of ours stands for. -/
abbrev Mu := Nat → Option (Nat × Nat)
def Mu.le (μ μ' : Mu) : Prop := ∀ b p, μ b = some p → μ' b = some p
theorem Mu.refl (μ : Mu) : μ.le μ := fun _ _ h => h
theorem Mu.trans {a b c : Mu} (h : a.le b) (k : b.le c) : a.le c := fun x p e => k x p (h x p e)
def Mu.put (μ : Mu) (b : Nat) (p : Nat × Nat) : Mu := fun x => if x = b then some p else μ x
theorem put_le {μ : Mu} {b : Nat} (h : μ b = none) (p : Nat × Nat) : μ.le (μ.put b p) := by
  intro x q hx
  unfold Mu.put
  by_cases e : x = b
  · subst e; rw [h] at hx; cases hx
  · rw [if_neg e]; exact hx
theorem put_same (μ : Mu) (b : Nat) (p : Nat × Nat) : μ.put b p b = some p := by unfold Mu.put; rw [if_pos rfl]
theorem put_other (μ : Mu) {b x : Nat} (p : Nat × Nat) (h : x ≠ b) : μ.put b p x = μ x := by unfold Mu.put; rw [if_neg h]
def Room (w : World) (k n : Nat) : Prop := ∃ c e fr, w.heap[k]? = some (.cells c e fr) ∧ n ≤ c.size
/-- Rows keep their sizes. -/
def Ext (w w' : World) : Prop := ∀ (k : Nat) (c : Array Value) (e : TypeId) (fr : Nat × Nat), w.heap[k]? = some (Obj.cells c e fr) → ∃ (c' : Array Value) (fr' : Nat × Nat), w'.heap[k]? = some (Obj.cells c' e fr') ∧ c'.size = c.size
theorem Ext.refl (w : World) : Ext w w := fun _ c _ fr h => ⟨c, fr, h, rfl⟩
theorem Ext.trans {a b c : World} (h : Ext a b) (k : Ext b c) : Ext a c := fun i x e fr hx =>
  let ⟨y, fr', hy, hs⟩ := h i x e fr hx
  let ⟨z, fr'', hz, hs'⟩ := k i y e fr' hy
  ⟨z, fr'', hz, hs'.trans hs⟩
theorem Room.ext {w w' : World} {k n : Nat} (h : Room w k n) (hw : Ext w w') : Room w' k n := by
  obtain ⟨c, e, fr, hc, hn⟩ := h
  obtain ⟨c', fr', hc', hs⟩ := hw k c e fr hc
  exact ⟨c', e, fr', hc', by omega⟩
def PR (μ : Mu) (u : Value) (p : Nat × Nat) : Prop := ∃ k s, μ p.1 = some (k, s) ∧ u = .pointer (some ⟨k, s + p.2, none⟩)
/-- A value of one cell. -/
def CR (μ : Mu) (ρ : Nat → Int) (w : World) (u : Value) (x : CV) : Prop := match x with
  | .b y => u = .bool y
  | .i k n => u = .int k n
  | .x k e => u = .int k (e.val ρ)
  | .z => u = .pointer none
  | .p b o => PR μ u (b, o)
  | .sz => u = .slice none 0 0
  | .s b o len cap ex sz => ∃ k s c, μ b = some (k, s) ∧ u = .slice (some ⟨k, s + o, none⟩) len c ∧ (ex = true → c = cap) ∧ cap ≤ c ∧ len ≤ cap ∧ Room w k (s + o + c * sz)
  | .se => ∃ a c, u = .slice (some a) 0 c
  | .nf => u = .nilFunc
  | .f f caps => ∃ vs, u = .func (.func f) #[] vs ∧ All2 (PR μ) vs.toList caps
  | .mz => u = .map none
  | .m b => ∃ k, μ b = some (k, 0) ∧ u = .map (some k)
  | .str l => ∃ s, u = .string s ∧ natL s.data.toList = l
theorem PR.mono {μ μ' : Mu} (h : μ.le μ') {u : Value} {p : Nat × Nat} (k : PR μ u p) : PR μ' u p :=
  let ⟨a, s, h1, h2⟩ := k
  ⟨a, s, h _ _ h1, h2⟩
theorem CR.mono {μ μ' : Mu} {ρ : Nat → Int} {w w' : World} (h : μ.le μ') (hw : Ext w w') {u : Value} {x : CV} (k : CR μ ρ w u x) : CR μ' ρ w' u x := by
  cases x with
  | p b o => exact PR.mono h k
  | s b o len cap ex sz =>
    obtain ⟨a, s, c, h1, h2, h3, h4, h5, h6⟩ := k
    exact ⟨a, s, c, h _ _ h1, h2, h3, h4, h5, h6.ext hw⟩
  | f f caps =>
    obtain ⟨vs, h1, h2⟩ := k
    exact ⟨vs, h1, h2.mono fun _ _ => PR.mono h⟩
  | m b =>
    obtain ⟨a, h1, h2⟩ := k
    exact ⟨a, h _ _ h1, h2⟩
  | _ => exact k
theorem CR.one {μ : Mu} {ρ : Nat → Int} {w : World} {u : Value} {x : CV} (k : CR μ ρ w u x) : u.oneCell' = true ∧ u.cells = #[u] := by
  cases x with
  | p b o => obtain ⟨_, _, _, rfl⟩ := k; exact ⟨rfl, rfl⟩
  | s b o len cap ex sz => obtain ⟨_, _, _, _, rfl, _⟩ := k; exact ⟨rfl, rfl⟩
  | f f caps => obtain ⟨_, rfl, _⟩ := k; exact ⟨rfl, rfl⟩
  | m b => obtain ⟨_, _, rfl⟩ := k; exact ⟨rfl, rfl⟩
  | str l => obtain ⟨_, rfl, _⟩ := k; exact ⟨rfl, rfl⟩
  | se => obtain ⟨_, _, rfl⟩ := k; exact ⟨rfl, rfl⟩
  | _ => subst k; exact ⟨rfl, rfl⟩
def V2R (μ : Mu) (ρ : Nat → Int) (w : World) (u : Value) (x : V2) : Prop := match x with
  | .c x => CR μ ρ w u x
  | .g l => ∃ vs, u = .agg vs ∧ All2 (CR μ ρ w) vs.toList l
def AR (μ : Mu) (ρ : Nat → Int) (w : World) (u : Value) (x : AV) : Prop := match x with
  | .c x => CR μ ρ w u x
  | .g l => ∃ vs, u = .agg vs ∧ All2 (CR μ ρ w) vs.toList l
  | .t l => ∃ vs, u = .tuple vs ∧ All2 (V2R μ ρ w) vs.toList l
theorem V2R.mono {μ μ' : Mu} {ρ : Nat → Int} {w w' : World} (h : μ.le μ') (hw : Ext w w') {u : Value} {x : V2} (k : V2R μ ρ w u x) : V2R μ' ρ w' u x := by
  cases x with
  | c x => exact CR.mono h hw k
  | g l => obtain ⟨vs, h1, h2⟩ := k; exact ⟨vs, h1, h2.mono fun _ _ => CR.mono h hw⟩
theorem AR.mono {μ μ' : Mu} {ρ : Nat → Int} {w w' : World} (h : μ.le μ') (hw : Ext w w') {u : Value} {x : AV} (k : AR μ ρ w u x) : AR μ' ρ w' u x := by
  cases x with
  | c x => exact CR.mono h hw k
  | g l => obtain ⟨vs, h1, h2⟩ := k; exact ⟨vs, h1, h2.mono fun _ _ => CR.mono h hw⟩
  | t l => obtain ⟨vs, h1, h2⟩ := k; exact ⟨vs, h1, h2.mono fun _ _ => V2R.mono h hw⟩
theorem AR.und (μ : Mu) (ρ : Nat → Int) (w : World) : AR μ ρ w undef undA := ⟨#[], rfl, trivial⟩
theorem AR.cells {μ : Mu} {ρ : Nat → Int} {w : World} {u : Value} {v : AV} {l : List CV} (h : AR μ ρ w u v) (hl : v.cells = .ok l) : All2 (CR μ ρ w) u.cells.toList l := by
  cases v with
  | c x =>
    cases hl
    rw [(CR.one h).2]
    exact ⟨h, trivial⟩
  | g m => cases hl; obtain ⟨vs, rfl, h2⟩ := h; exact h2
  | t m => cases hl
theorem AR.cv {μ : Mu} {ρ : Nat → Int} {w : World} {u : Value} {v : AV} {x : CV} (h : AR μ ρ w u v) (hl : v.cv = .ok x) : CR μ ρ w u x ∧ v = .c x := by
  cases v with
  | c y => cases hl; exact ⟨h, rfl⟩
  | g m => cases hl
  | t m => cases hl
theorem AR.v2 {μ : Mu} {ρ : Nat → Int} {w : World} {u : Value} {v : AV} {x : V2} (h : AR μ ρ w u v) (hl : v.v2 = .ok x) : V2R μ ρ w u x := by
  cases v with
  | c y => cases hl; exact h
  | g m => cases hl; exact h
  | t m => cases hl
theorem V2R.av {μ : Mu} {ρ : Nat → Int} {w : World} {u : Value} {x : V2} (h : V2R μ ρ w u x) : AR μ ρ w u x.av := by
  cases x with
  | c y => exact h
  | g m => exact h
/-- What a block holds. -/
def BR (μ : Mu) (ρ : Nat → Int) (w : World) (k s : Nat) (x : Blk) : Prop := match x with
  | .cl c => ∃ cs e, w.heap[k]? = some (.cells cs e (0, 0)) ∧ ∀ j x, c.get j = some x → ∃ u, cs[s + j]? = some u ∧ CR μ ρ w u x
  | .mp l => s = 0 ∧ ∃ es ck, w.heap[k]? = some (.map es ck) ∧ All2 (fun (e : MapEntry) (p : Nat × CV) => e.key = .int .i64 p.1 ∧ CR μ ρ w e.val p.2) es.toList l
structure MR (X : Nat → Prop) (μ : Mu) (ρ : Nat → Int) (B : Nat) (w : World) (M : Mem) : Prop where
  pend : ∀ b, X b → μ b = none ∧ b < M.nx
  fresh : ∀ b, M.nx ≤ b → μ b = none
  low : ∀ b x, M.bl.get b = some x → b < M.nx
  size : ∀ b k s, μ b = some (k, s) → k < w.heap.size
  blk : ∀ b x k s, M.bl.get b = some x → μ b = some (k, s) → B ≤ k ∧ BR μ ρ w k s x
  inj : ∀ b b' x y k s s', M.bl.get b = some x → M.bl.get b' = some y → μ b = some (k, s) → μ b' = some (k, s') → b = b'
theorem BR.mono {μ μ' : Mu} {ρ : Nat → Int} {w w' : World} (h : μ.le μ') (hw : Ext w w') {k s : Nat} (hk : w'.heap[k]? = w.heap[k]?) {x : Blk} (hx : BR μ ρ w k s x) : BR μ' ρ w' k s x := by
  cases x with
  | cl c =>
    obtain ⟨cs, e, h1, h2⟩ := hx
    refine ⟨cs, e, hk.trans h1, fun j x hj => ?_⟩
    obtain ⟨u, h3, h4⟩ := h2 j x hj
    exact ⟨u, h3, h4.mono h hw⟩
  | mp l =>
    obtain ⟨h0, es, ck, h1, h2⟩ := hx
    exact ⟨h0, es, ck, hk.trans h1, h2.mono fun _ _ hh => ⟨hh.1, hh.2.mono h hw⟩⟩
theorem MR.weak {X Y : Nat → Prop} {μ : Mu} {ρ : Nat → Int} {B : Nat} {w : World} {M : Mem} (h : MR X μ ρ B w M) (hY : ∀ b, Y b → X b) : MR Y μ ρ B w M :=
  ⟨fun b hb => h.pend b (hY b hb), h.fresh, h.low, h.size, h.blk, h.inj⟩
/-- A block that is not there yet. -/
theorem MR.await {X : Nat → Prop} {μ : Mu} {ρ : Nat → Int} {B : Nat} {w : World} {M : Mem} (h : MR X μ ρ B w M) (x : Blk) : MR (fun b => X b ∨ b = M.nx) μ ρ B w (addB M x) := by
  have hnone := h.fresh M.nx (Nat.le_refl _)
  have key : ∀ z y, (addB M x).bl.get z = some y → z = M.nx ∨ M.bl.get z = some y := by
    intro z y hz
    rcases set_get _ _ _ _ _ hz with ⟨rfl, _⟩ | ⟨_, h2⟩
    · exact .inl rfl
    · exact .inr h2
  refine ⟨fun b hb => ?_, fun b hb => h.fresh b (Nat.le_of_succ_le hb), fun b y hb => ?_, h.size, fun b y k s hb hk => ?_, fun b b' y z k s s' hb hb' hk hk' => ?_⟩
  · show μ b = none ∧ b < M.nx + 1
    rcases hb with hb | rfl
    · obtain ⟨h1, h2⟩ := h.pend b hb; exact ⟨h1, by omega⟩
    · exact ⟨hnone, by omega⟩
  · show b < M.nx + 1
    rcases key _ _ hb with rfl | h2
    · omega
    · have := h.low _ _ h2; omega
  · rcases key _ _ hb with rfl | h2
    · rw [hnone] at hk; cases hk
    · exact h.blk _ _ _ _ h2 hk
  · rcases key _ _ hb with rfl | h2
    · rw [hnone] at hk; cases hk
    · rcases key _ _ hb' with rfl | h3
      · rw [hnone] at hk'; cases hk'
      · exact h.inj _ _ _ _ _ _ _ h2 h3 hk hk'
theorem MR.not_next {X : Nat → Prop} {μ : Mu} {ρ : Nat → Int} {B : Nat} {w : World} {M : Mem} (h : MR X μ ρ B w M) : ¬ X M.nx := fun hx => absurd (h.pend _ hx).2 (Nat.lt_irrefl _)
/-- What went on: numbers were given, rows kept their sizes, old memory stayed. -/
structure Ste (B : Nat) (μ : Mu) (w : World) (μ' : Mu) (w' : World) : Prop where
  le : μ.le μ'
  ext : Ext w w'
  below : Below B w w'
theorem Ste.refl (B : Nat) (μ : Mu) (w : World) : Ste B μ w μ w := ⟨Mu.refl μ, Ext.refl w, Below.refl B w⟩
theorem Ste.trans {B : Nat} {a b c : Mu} {x y z : World} (h : Ste B a x b y) (k : Ste B b y c z) : Ste B a x c z := ⟨Mu.trans h.le k.le, h.ext.trans k.ext, h.below.trans k.below⟩
theorem Ste.drew {B : Nat} (μ : Mu) (w : World) (n : Nat) : Ste B μ w μ { w with drawn := n } := ⟨Mu.refl μ, fun _ c _ fr h => ⟨c, fr, h, rfl⟩, ⟨rfl, rfl, rfl, Nat.le_refl _, fun _ _ => rfl⟩⟩
/-- The world's blocks are the same. -/
theorem CR.same {μ : Mu} {ρ : Nat → Int} {w w' : World} (hw : w'.heap = w.heap) {u : Value} {x : CV} (h : CR μ ρ w u x) : CR μ ρ w' u x :=
  h.mono (Mu.refl μ) fun k c e fr hk => ⟨c, fr, by rw [hw]; exact hk, rfl⟩
theorem MR.same {X : Nat → Prop} {μ : Mu} {ρ : Nat → Int} {B : Nat} {w w' : World} {M : Mem} (hw : w'.heap = w.heap) (h : MR X μ ρ B w M) : MR X μ ρ B w' M :=
  ⟨h.pend, h.fresh, h.low, fun b k s hb => by rw [hw]; exact h.size b k s hb,
    fun b x k s hb hm => ⟨(h.blk b x k s hb hm).1, (h.blk b x k s hb hm).2.mono (Mu.refl μ) (fun k c e fr hk => ⟨c, fr, by rw [hw]; exact hk, rfl⟩) (by rw [hw])⟩, h.inj⟩
theorem alloc_old (w : World) (o : Obj) {k : Nat} (h : k < w.heap.size) : (w.alloc o).heap[k]? = w.heap[k]? := Below.heap_alloc w o k h
theorem alloc_new (w : World) (o : Obj) : (w.alloc o).heap[w.heap.size]? = some o := by show (w.heap.push o)[w.heap.size]? = _; simp
theorem alloc_ext (w : World) (o : Obj) : Ext w (w.alloc o) := fun _ c _ fr hk => ⟨c, fr, (alloc_old w o (Array.getElem?_eq_some_iff.1 hk).1).trans hk, rfl⟩
/-- A new block: under a number that stood for none. -/
theorem MR.alloc {X : Nat → Prop} {μ : Mu} {ρ : Nat → Int} {B : Nat} {w : World} {M M' : Mem} (h : MR X μ ρ B w M) (hB : B ≤ w.heap.size) {b : Nat} (hb : μ b = none) (hX : ¬ X b) {blk : Blk} {o : Obj}
    (hM : ∀ j x, M'.bl.get j = some x → (j = b ∧ x = blk) ∨ (j ≠ b ∧ M.bl.get j = some x)) (hnx : M.nx ≤ M'.nx) (hbn : b < M'.nx)
    (hblk : ∀ μ' : Mu, μ.le μ' → BR μ' ρ (w.alloc o) w.heap.size 0 blk) :
    MR X (μ.put b (w.heap.size, 0)) ρ B (w.alloc o) M' ∧ Ste B μ w (μ.put b (w.heap.size, 0)) (w.alloc o) := by
  have hle := put_le hb (w.heap.size, 0)
  refine ⟨⟨fun x hx => ?_, fun x hx => ?_, fun x y hx => ?_, fun x k s hx => ?_, fun x y k s hx hk => ?_, fun x y p q k s s' hx hy hk hk' => ?_⟩, hle, alloc_ext w o, ?_⟩
  · obtain ⟨h1, h2⟩ := h.pend x hx
    have hne : x ≠ b := fun e => by subst e; exact hX hx
    rw [put_other μ _ hne]
    exact ⟨h1, Nat.lt_of_lt_of_le h2 hnx⟩
  · rw [put_other μ _ (by omega)]; exact h.fresh x (by omega)
  · rcases hM x y hx with ⟨rfl, _⟩ | ⟨_, h2⟩
    · exact hbn
    · have := h.low x y h2; omega
  · show k < (w.heap.push o).size
    rw [Array.size_push]
    by_cases e : x = b
    · subst e; rw [put_same] at hx; cases hx; omega
    · rw [put_other μ _ e] at hx; have := h.size x k s hx; omega
  · rcases hM x y hx with ⟨rfl, rfl⟩ | ⟨h1, h2⟩
    · rw [put_same] at hk; cases hk; exact ⟨hB, hblk _ hle⟩
    · rw [put_other μ _ h1] at hk
      obtain ⟨h3, h4⟩ := h.blk x y k s h2 hk
      exact ⟨h3, h4.mono hle (alloc_ext w o) (alloc_old w o (h.size x k s hk))⟩
  · rcases hM x p hx with ⟨rfl, rfl⟩ | ⟨h1, h2⟩
    · rw [put_same] at hk
      cases hk
      rcases hM y q hy with ⟨rfl, rfl⟩ | ⟨h3, h4⟩
      · rfl
      · rw [put_other μ _ h3] at hk'; have := h.size y _ _ hk'; omega
    · rw [put_other μ _ h1] at hk
      rcases hM y q hy with ⟨rfl, rfl⟩ | ⟨h3, h4⟩
      · rw [put_same] at hk'; cases hk'; have := h.size x _ _ hk; omega
      · rw [put_other μ _ h3] at hk'
        exact h.inj x y p q k s s' h2 h4 hk hk'
  · exact (Below.refl B w).alloc hB o
/- Rows. -/
theorem putC_get : ∀ (l : List CV) (o : Nat) (c : PT CV) (j : Nat) (x : CV), (putC l o c).get j = some x → (o ≤ j ∧ l[j - o]? = some x) ∨ ((j < o ∨ o + l.length ≤ j) ∧ c.get j = some x)
  | [], o, c, j, x, h => by
    refine .inr ⟨?_, h⟩
    simp only [List.length_nil, Nat.add_zero]
    omega
  | y :: l, o, c, j, x, h => by
    have e : putC (y :: l) o c = putC l (o + 1) (c.set y o) := rfl
    rw [e] at h
    rcases putC_get l (o + 1) (c.set y o) j x h with ⟨h1, h2⟩ | ⟨h1, h2⟩
    · refine .inl ⟨by omega, ?_⟩
      rw [show j - o = (j - (o + 1)) + 1 by omega]
      simpa using h2
    · rcases set_get y c o j x h2 with ⟨rfl, rfl⟩ | ⟨h3, h4⟩
      · exact .inl ⟨by omega, by simp⟩
      · refine .inr ⟨?_, h4⟩
        simp only [List.length_cons]
        omega
theorem exC_ok {c : PT CV} : ∀ {l : List CV} {o : Nat}, exC c l o = true → ∀ i, i < l.length → ∃ x, c.get (o + i) = some x
  | [], _, _, i, hi => by simp at hi
  | y :: l, o, h, i, hi => by
    have e : exC c (y :: l) o = Option.rec (motive := fun _ => Bool) false (fun _ => exC c l (o + 1)) (c.get o) := rfl
    rw [e] at h
    cases hc : c.get o with
    | none => rw [hc] at h; cases h
    | some x =>
      rw [hc] at h
      cases i with
      | zero => exact ⟨x, hc⟩
      | succ i =>
        obtain ⟨x, hx⟩ := exC_ok (l := l) (o := o + 1) h i (by simpa using hi)
        exact ⟨x, by rw [show o + (i + 1) = o + 1 + i by omega]; exact hx⟩
theorem ldNc_ok {c : PT CV} : ∀ {n o : Nat} {l : List CV}, ldNc c n o = .ok l → l.length = n ∧ ∀ i x, l[i]? = some x → c.get (o + i) = some x
  | 0, o, l, h => by
    have e : ldNc c 0 o = .ok [] := rfl
    rw [e] at h; cases h
    exact ⟨rfl, fun i x hx => by simp at hx⟩
  | n + 1, o, l, h => by
    have e : ldNc c (n + 1) o = (ofOpt 14 (c.get o)).bind fun x => (ldNc c n (o + 1)).bind fun l => .ok (x :: l) := rfl
    rw [e] at h
    obtain ⟨x, hx, h⟩ := bind_ok h
    obtain ⟨r, hr, h⟩ := bind_ok h
    cases h
    obtain ⟨h1, h2⟩ := ldNc_ok hr
    refine ⟨by simp [h1], fun i y hy => ?_⟩
    cases i with
    | zero => simp at hy; subst hy; exact ofOpt_ok hx
    | succ i =>
      rw [show o + (i + 1) = o + 1 + i by omega]
      exact h2 i y (by simpa using hy)
theorem cellsOf_ok {M : Mem} {b : Nat} {c : PT CV} (h : cellsOf M b = .ok c) : M.bl.get b = some (.cl c) := by
  unfold cellsOf at h
  obtain ⟨x, hx, h⟩ := bind_ok h
  have hx := ofOpt_ok hx
  cases x with
  | cl d => cases h; exact hx
  | mp l => cases h
theorem mapOf_ok {M : Mem} {b : Nat} {l : List (Nat × CV)} (h : mapOf M b = .ok l) : M.bl.get b = some (.mp l) := by
  unfold mapOf at h
  obtain ⟨x, hx, h⟩ := bind_ok h
  have hx := ofOpt_ok hx
  cases x with
  | cl d => cases h
  | mp l => cases h; exact hx
section
variable {X : Nat → Prop} {μ : Mu} {ρ : Nat → Int} {B : Nat} {w : World} {M : Mem}
/-- A row that is known, at its place. -/
theorem MR.row (h : MR X μ ρ B w M) {b k s : Nat} {c : PT CV} (hb : M.bl.get b = some (.cl c)) (hk : μ b = some (k, s)) :
    B ≤ k ∧ ∃ cs e, w.heap[k]? = some (.cells cs e (0, 0)) ∧ ∀ j x, c.get j = some x → ∃ u, cs[s + j]? = some u ∧ CR μ ρ w u x := h.blk b _ k s hb hk
theorem cell_at {k s : Nat} {cs : Array Value} {e : TypeId} {fr : Nat × Nat} (hk : w.heap[k]? = some (.cells cs e fr)) : w.cell? ⟨k, s, none⟩ = cs[s]? := by
  simp [World.cell?, hk]
theorem add_at (k s n : Nat) : (⟨k, s, none⟩ : Addr).add n = ⟨k, s + n, none⟩ := by
  unfold Addr.add
  split
  · rename_i h; subst h; rfl
  · rfl
/-- What is read: so many cells. -/
theorem MR.ldN (h : MR X μ ρ B w M) {b o n : Nat} {l : List CV} (hl : ldN M b o n = .ok l) {k s : Nat} (hk : μ b = some (k, s)) :
    l.length = n ∧ ∃ vs : List Value, All2 (CR μ ρ w) vs l ∧ ∀ j v, vs[j]? = some v → w.cell? ((⟨k, s + o, none⟩ : Addr).add j) = some v := by
  unfold Go.Proofs.YtbmhamijoajnhaaGreat.E.ldN at hl
  obtain ⟨c, hc, hl⟩ := bind_ok hl
  obtain ⟨_, cs, e, hrow, hcs⟩ := h.row (cellsOf_ok hc) hk
  obtain ⟨h1, h2⟩ := ldNc_ok hl
  have hin : ∀ i, i < n → s + o + i < cs.size := by
    intro i hi
    obtain ⟨u, hu, _⟩ := hcs (o + i) (l[i]'(by omega)) (h2 i _ (List.getElem?_eq_getElem (by omega)))
    have := (Array.getElem?_eq_some_iff.1 hu).1
    omega
  refine ⟨h1, (cs.extract (s + o) (s + o + n)).toList, ?_, ?_⟩
  · refine All2.of_get ?_ fun i a x ha hx => ?_
    · rw [Array.length_toList, Array.size_extract]
      rcases Nat.eq_zero_or_pos n with h0 | h0
      · subst h0; omega
      · have := hin (n - 1) (by omega)
        omega
    · obtain ⟨u, hu, hcr⟩ := hcs (o + i) x (h2 i x hx)
      have hi : i < n := by rw [← h1]; exact (List.getElem?_eq_some_iff.1 hx).1
      rw [Array.getElem?_toList, Array.getElem?_extract] at ha
      split at ha
      · rw [show s + o + i = s + (o + i) by omega, hu] at ha; cases ha; exact hcr
      · cases ha
  · intro j v hv
    rw [add_at, cell_at hrow]
    rw [Array.getElem?_toList, Array.getElem?_extract] at hv
    split at hv
    · exact hv
    · cases hv
theorem MR.ld1 (h : MR X μ ρ B w M) {b o : Nat} {x : CV} (hl : ld M b o = .ok x) {k s : Nat} (hk : μ b = some (k, s)) :
    ∃ u, w.cell? ⟨k, s + o, none⟩ = some u ∧ CR μ ρ w u x := by
  unfold ld at hl
  obtain ⟨c, hc, hl⟩ := bind_ok hl
  obtain ⟨_, cs, e, hrow, hcs⟩ := h.row (cellsOf_ok hc) hk
  obtain ⟨u, hu, hcr⟩ := hcs o x (ofOpt_ok hl)
  exact ⟨u, by rw [cell_at hrow]; exact hu, hcr⟩
theorem setRow_ext (w : World) (k : Nat) (cs : Array Value) (h : ∀ c e fr, w.heap[k]? = some (.cells c e fr) → cs.size = c.size) : Ext w (w.setRow k cs) := by
  intro i c e fr hi
  by_cases hik : i = k
  · subst hik
    exact ⟨cs, fr, setRow_heap w i c cs e fr hi, h c e fr hi⟩
  · exact ⟨c, fr, (setRow_other w k i cs hik).trans hi, rfl⟩
theorem setRow_below {B k : Nat} (w : World) (hk : B ≤ k) (cs : Array Value) : Below B w (w.setRow k cs) :=
  ⟨rfl, rfl, rfl, Nat.le_of_eq (setRow_size w k cs).symm, fun i hi => setRow_other w k i cs (by omega)⟩
/-- What is written: so many cells of a row. -/
theorem MR.stN (h : MR X μ ρ B w M) {b o : Nat} {l : List CV} {M' : Mem} (hl : stN M b o l = .ok M') {k s : Nat} (hk : μ b = some (k, s)) {vs : List Value} (hv : All2 (CR μ ρ w) vs l) (P : Program) :
    ∃ w', (storeCells ⟨k, s + o, none⟩ vs).run P w = .ok () w' ∧ MR X μ ρ B w' M' ∧ Ste B μ w μ w' := by
  unfold Go.Proofs.YtbmhamijoajnhaaGreat.E.stN at hl
  obtain ⟨c, hc, hl⟩ := bind_ok hl
  obtain ⟨hex, hl⟩ := guardR_ok hl
  cases hl
  have hb := cellsOf_ok hc
  obtain ⟨hBk, cs, e, hrow, hcs⟩ := h.row hb hk
  have hlen := hv.length
  have hin : ∀ i, i < l.length → s + o + i < cs.size := by
    intro i hi
    obtain ⟨x, hx⟩ := exC_ok hex i hi
    obtain ⟨u, hu, _⟩ := hcs (o + i) x hx
    have := (Array.getElem?_eq_some_iff.1 hu).1
    omega
  have hle : vs.length = 0 ∨ s + o + vs.length ≤ cs.size := by
    rcases Nat.eq_zero_or_pos vs.length with h0 | h0
    · exact .inl h0
    · have := hin (vs.length - 1) (by omega); exact .inr (by omega)
  rcases hle with h0 | hle
  · have : vs = [] := List.eq_nil_of_length_eq_zero h0
    subst this
    have : l = [] := List.eq_nil_of_length_eq_zero (by simpa using hlen.symm)
    subst this
    refine ⟨w, rfl, ⟨h.pend, h.fresh, fun j x hj => ?_, h.size, fun j x k' s' hj hk' => ?_, fun j j' x y k' s' s'' hj hj' => ?_⟩, Ste.refl B μ w⟩
    · rcases set_get _ _ _ _ _ hj with ⟨rfl, _⟩ | ⟨_, h2⟩
      · exact h.low _ _ hb
      · exact h.low _ _ h2
    · rcases set_get _ _ _ _ _ hj with ⟨rfl, rfl⟩ | ⟨_, h2⟩
      · exact h.blk _ _ _ _ hb hk'
      · exact h.blk _ _ _ _ h2 hk'
    · have key : ∀ z y, (M.bl.set (Blk.cl (putC [] o c)) b).get z = some y → ∃ y', M.bl.get z = some y' := by
        intro z y hz
        rcases set_get _ _ _ _ _ hz with ⟨rfl, _⟩ | ⟨_, h2⟩
        · exact ⟨_, hb⟩
        · exact ⟨_, h2⟩
      obtain ⟨x', hx'⟩ := key _ _ hj
      obtain ⟨y', hy'⟩ := key _ _ hj'
      exact h.inj _ _ _ _ _ _ _ hx' hy'
  · have h1 : ∀ v ∈ vs, v.oneCell' = true := by
      intro v hv'
      obtain ⟨i, hi, rfl⟩ := List.getElem_of_mem hv'
      obtain ⟨a, ha, hcr⟩ := hv.get i (l[i]'(by omega)) (List.getElem?_eq_getElem (by omega))
      rw [List.getElem?_eq_getElem hi] at ha
      cases ha
      exact hcr.one.1
    have hrun := run_storeCells_at P k (s + o) e vs 0 cs w hrow (by omega) h1
    simp only [Nat.add_zero] at hrun
    have hsz : (cs.toList.take (s + o) ++ vs ++ cs.toList.drop (s + o + vs.length)).toArray.size = cs.size := by
      simp only [List.size_toArray, List.length_append, List.length_take, List.length_drop, Array.length_toList]
      omega
    have hext : Ext w (w.setRow k (cs.toList.take (s + o) ++ vs ++ cs.toList.drop (s + o + vs.length)).toArray) :=
      setRow_ext w k _ fun c' e' fr' hc' => by rw [hrow] at hc'; cases hc'; exact hsz
    refine ⟨_, hrun, ⟨h.pend, h.fresh, fun j x hj => ?_, fun j k' s' hj => by rw [setRow_size]; exact h.size j k' s' hj, fun j x k' s' hj hk' => ?_, fun j j' x y k' s' s'' hj hj' => ?_⟩, Mu.refl μ, hext, setRow_below w hBk _⟩
    · rcases set_get _ _ _ _ _ hj with ⟨rfl, _⟩ | ⟨_, h2⟩
      · exact h.low _ _ hb
      · exact h.low _ _ h2
    · rcases set_get _ _ _ _ _ hj with ⟨rfl, rfl⟩ | ⟨hne, h2⟩
      · rw [hk] at hk'
        cases hk'
        refine ⟨hBk, _, e, setRow_heap w k cs _ e (0, 0) hrow, fun i y hi => ?_⟩
        rcases putC_get _ _ _ _ _ hi with ⟨h3, h4⟩ | ⟨h3, h4⟩
        · obtain ⟨a, ha, hcr⟩ := hv.get _ _ h4
          refine ⟨a, ?_, hcr.mono (Mu.refl μ) hext⟩
          have hia : i - o < vs.length := (List.getElem?_eq_some_iff.1 ha).1
          rw [List.getElem?_toArray, List.append_assoc, List.getElem?_append_right (by simp; omega)]
          simp only [List.length_take, Array.length_toList]
          rw [List.getElem?_append_left (by omega), show s + i - min (s + o) cs.size = i - o by omega]
          exact ha
        · obtain ⟨u, hu, hcr⟩ := hcs i y h4
          have hsi := (Array.getElem?_eq_some_iff.1 hu).1
          refine ⟨u, ?_, hcr.mono (Mu.refl μ) hext⟩
          rw [List.getElem?_toArray, List.append_assoc]
          rcases h3 with h3 | h3
          · rw [List.getElem?_append_left (by simp; omega), List.getElem?_take, if_pos (by omega), Array.getElem?_toList]
            exact hu
          · rw [List.getElem?_append_right (by simp; omega), List.getElem?_append_right (by simp; omega), List.getElem?_drop]
            simp only [List.length_take, Array.length_toList, Array.getElem?_toList]
            rw [show s + o + vs.length + (s + i - min (s + o) cs.size - vs.length) = s + i by omega]
            exact hu
      · obtain ⟨h3, h4⟩ := h.blk _ _ _ _ h2 hk'
        refine ⟨h3, h4.mono (Mu.refl μ) hext (setRow_other w k k' _ fun e => ?_)⟩
        subst e
        exact hne (h.inj _ _ _ _ _ _ _ h2 hb hk' hk)
    · have key : ∀ z y, (M.bl.set (Blk.cl (putC l o c)) b).get z = some y → ∃ y', M.bl.get z = some y' := by
        intro z y hz
        rcases set_get _ _ _ _ _ hz with ⟨rfl, _⟩ | ⟨_, h2⟩
        · exact ⟨_, hb⟩
        · exact ⟨_, h2⟩
      obtain ⟨x', hx'⟩ := key _ _ hj
      obtain ⟨y', hy'⟩ := key _ _ hj'
      exact h.inj _ _ _ _ _ _ _ hx' hy'
end
end Go.Proofs.YtbmhamijoajnhaaGreat.E
