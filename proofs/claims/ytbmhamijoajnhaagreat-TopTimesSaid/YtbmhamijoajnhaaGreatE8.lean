/- The operations that make blocks, or write them, are as the model has them. Nothing of the program. -/
import Derived.Test.YtbmhamijoajnhaaGreatE7
namespace Go.Proofs.YtbmhamijoajnhaaGreat.E
open Go Go.RowKit
section
variable {X : Nat → Prop} {P : Program} {F : Facts} {μ : Mu} {ρ : Nat → Int} {B : Nat} {w : World} {M : Mem}

theorem repL_length {α : Type} (l : List α) : ∀ n, (repL l n).length = n * l.length
  | 0 => by show ([] : List α).length = _; simp
  | n + 1 => by show (l ++ repL l n).length = _; rw [List.length_append, repL_length l n, Nat.add_mul]; omega
theorem repL_get {α : Type} (l : List α) : ∀ (n i : Nat), i < n * l.length → (repL l n)[i]? = l[i % l.length]?
  | 0, i, h => by simp at h
  | n + 1, i, h => by
    show (l ++ repL l n)[i]? = _
    by_cases hi : i < l.length
    · rw [List.getElem?_append_left hi, Nat.mod_eq_of_lt hi]
    · have h' : i < n * l.length + l.length := by rw [← Nat.succ_mul]; exact h
      rw [List.getElem?_append_right (by omega), repL_get l n (i - l.length) (by omega)]
      congr 1
      exact (Nat.mod_eq_sub_mod (by omega)).symm
theorem made_rep (z : Array Value) (n : Nat) : ((Array.range (n * z.size)).map (z[· % z.size]!)).toList = repL z.toList n := by
  apply List.ext_getElem?
  intro i
  by_cases hi : i < n * z.size
  · rw [repL_get _ _ _ (by simpa using hi)]
    have hz : 0 < z.size := by
      rcases Nat.eq_zero_or_pos z.size with h0 | h0
      · rw [h0] at hi; simp at hi
      · exact h0
    have hm : i % z.size < z.size := Nat.mod_lt _ hz
    simp [Array.length_toList, hi, hm]
  · rw [List.getElem?_eq_none (by simp; omega), List.getElem?_eq_none (by rw [repL_length]; simp; omega)]
theorem madeCells_rep (z : Array Value) (n : Nat) : (madeCells z (n * z.size)).toList = repL z.toList n := made_rep z n
theorem zeroCells_rep (z : Array Value) (n : Nat) : (Builtin.zeroCells z n).toList = repL z.toList n := made_rep z n
/-- A row that was made, as a block. -/
theorem rowB_ok {vs : List Value} {l : List CV} (h : All2 (CR μ ρ w) vs l) (e : TypeId) {o : Obj} (ho : o = .cells vs.toArray e) (μ' : Mu) (hμ : μ.le μ') : BR μ' ρ (w.alloc o) w.heap.size 0 (rowB l) := by
  subst ho
  refine ⟨vs.toArray, e, alloc_new w _, fun j x hj => ?_⟩
  rcases putC_get _ _ _ _ _ hj with ⟨_, h2⟩ | ⟨_, h2⟩
  · obtain ⟨u, hu, hcr⟩ := h.get _ _ h2
    exact ⟨u, by simpa using hu, hcr.mono hμ (alloc_ext w _)⟩
  · cases h2
theorem room_new (w : World) (vs : List Value) (e : TypeId) {n : Nat} (h : n ≤ vs.length) : Room (w.alloc (.cells vs.toArray e)) w.heap.size n := ⟨vs.toArray, e, (0, 0), alloc_new w _, by simpa using h⟩
/-- A new block, said for whatever number it gets. -/
def NewOK (P : Program) (μ : Mu) (ρ : Nat → Int) (w : World) (s : Sem Value) (q : NewT) : Prop :=
  ∃ u o, s.run P w = .ok u (w.alloc o) ∧ (∀ μ' : Mu, μ.le μ' → BR μ' ρ (w.alloc o) w.heap.size 0 q.1) ∧ ∀ (μ' : Mu) (b : Nat), μ' b = some (w.heap.size, 0) → CR μ' ρ (w.alloc o) u (q.2.at b)
theorem new_row {s : Sem Value} {u : Value} {vs : List Value} {l : List CV} {e : TypeId} {nv : NewV} (hr : s.run P w = .ok u (w.alloc (.cells vs.toArray e))) (hv : All2 (CR μ ρ w) vs l)
    (hu : ∀ (μ' : Mu) (b : Nat), μ' b = some (w.heap.size, 0) → CR μ' ρ (w.alloc (.cells vs.toArray e)) u (nv.at b)) : NewOK P μ ρ w s (rowB l, nv) :=
  ⟨u, _, hr, fun μ' hμ => rowB_ok hv e rfl μ' hμ, hu⟩
theorem new_ptr {s : Sem Value} {vs : List Value} {l : List CV} {e : TypeId} (hr : s.run P w = .ok (.pointer (some ⟨w.heap.size, 0, none⟩)) (w.alloc (.cells vs.toArray e))) (hv : All2 (CR μ ρ w) vs l) : NewOK P μ ρ w s (rowB l, .p) :=
  new_row hr hv fun _ _ hb => ⟨w.heap.size, 0, hb, rfl⟩
theorem new_sl {s : Sem Value} {vs : List Value} {l : List CV} {e : TypeId} {n c sz : Nat} (hr : s.run P w = .ok (.slice (some ⟨w.heap.size, 0, none⟩) n c) (w.alloc (.cells vs.toArray e))) (hv : All2 (CR μ ρ w) vs l) (hn : n ≤ c) (hc : c * sz ≤ vs.length) : NewOK P μ ρ w s (rowB l, .s n c sz) :=
  new_row hr hv fun _ _ hb => ⟨w.heap.size, 0, c, hb, rfl, fun _ => rfl, Nat.le_refl _, hn, room_new w vs e (by omega)⟩
theorem allocA_ok {t : Nat} {q : NewT} (h : allocA P t = .ok q) : NewOK P μ ρ w (Instr.alloc t true (.tuple #[])) q := by
  obtain ⟨z, hz, h⟩ := bind_ok h
  cases h
  obtain ⟨i, zv, h1, h2, h3⟩ := zeros_ok hz μ ρ w
  refine new_ptr (vs := zv.cells.toList) (e := t) ?_ h3
  simp only [Instr.alloc, Sem.run_bind, run_zeroValue h1 h2, Result.andThen_ok, newVar, newRow, run_newObj, Sem.run_pure]
  rfl
theorem boxA_ok {v : AV} {q : NewT} (h : boxA v = .ok q) {u : Value} (hu : AR μ ρ w u v) (t : Nat) : NewOK P μ ρ w (Instr.box t u) q := by
  obtain ⟨l, hl, h⟩ := bind_ok h
  cases h
  refine new_ptr (vs := u.cells.toList) (e := t) ?_ (hu.cells hl)
  simp only [Instr.box, Sem.run_bind, Result.andThen_ok, newVar, newRow, run_newObj, Sem.run_pure]
  rfl
theorem mkSl_ok {t l c : Nat} {q : NewT} (h : mkSl P t l c = .ok q) (kl kc : IntKind) : NewOK P μ ρ w (Instr.makeSlice t (.int kl (l : Int)) (.int kc (c : Int))) q := by
  obtain ⟨d, hd, h⟩ := bind_ok h
  have hd := tyU_ok hd
  cases d with
  | slice e =>
    obtain ⟨i, hi, h⟩ := bind_ok h
    obtain ⟨z, hz, h⟩ := bind_ok h
    obtain ⟨g1, h⟩ := guardR_ok h
    obtain ⟨g2, h⟩ := guardR_ok h
    obtain ⟨g3, h⟩ := guardR_ok h
    obtain ⟨g4, h⟩ := guardR_ok h
    obtain ⟨g5, h⟩ := guardR_ok h
    cases h
    have hi := tyI_ok hi
    obtain ⟨i', zv, h1, h2, h3⟩ := zeros_ok hz μ ρ w
    rw [hi] at h1
    cases h1
    have g1 := beq_true g1
    have g3 := ble_true g3
    have g4 : c ≤ 9223372036854775807 := ble_true g4
    have g5 : i.bytes * c ≤ 281474976710656 := ble_true g5
    have hzs : zv.cells.size = i.size := by rw [← g1, ← h3.length, Array.length_toList]
    have hby : (i.bytes : Int) * (c : Int) ≤ 281474976710656 := by
      have h9 : ((i.bytes * c : Nat) : Int) ≤ 281474976710656 := by omega
      rwa [Int.natCast_mul] at h9
    have hr := run_make (P := P) w t e i zv hd hi h2 kl kc (l : Int) (c : Int) (by omega) (by omega) hby (by omega)
    simp only [Int.toNat_natCast] at hr
    refine new_sl (vs := repL zv.cells.toList c) (e := e) ?_ (h3.rep c) g3 ?_
    · rw [hr]
      have e1 : madeCells zv.cells (c * i.size) = (repL zv.cells.toList c).toArray := by
        rw [← hzs, ← madeCells_rep]
      rw [e1]
    · rw [repL_length, Array.length_toList, hzs]
      exact Nat.le_refl _
  | _ => cases h

/- Parts that are filled in. -/
theorem list_seg_step' (l : List Value) (k : Nat) (v : Value) (rest : List Value) (hk : k + (rest.length + 1) ≤ l.length) :
    (l.set k v).take (k + 1) ++ rest ++ (l.set k v).drop (k + 1 + rest.length) = l.take k ++ (v :: rest) ++ l.drop (k + (rest.length + 1)) := list_seg_step l k v rest hk
theorem foldl_fill (off : Nat) : ∀ (l : List Value) (k : Nat) (cells : Array Value), off + k + l.length ≤ cells.size →
    (l.zipIdx k).foldl (fun cs (p : Value × Nat) => cs.setIfInBounds (off + p.2) p.1) cells = (cells.toList.take (off + k) ++ l ++ cells.toList.drop (off + k + l.length)).toArray
  | [], k, cells, _ => by simp
  | v :: rest, k, cells, h => by
    rw [List.zipIdx_cons, List.foldl_cons]
    show (rest.zipIdx (k + 1)).foldl _ (cells.setIfInBounds (off + k) v) = _
    rw [foldl_fill off rest (k + 1) _ (by simp only [List.length_cons] at h; rw [Array.size_setIfInBounds]; omega)]
    congr 1
    have e := list_seg_step' cells.toList (off + k) v rest (by simp only [List.length_cons, Array.length_toList] at h ⊢; omega)
    simpa [Array.toList_setIfInBounds, Nat.add_assoc] using e
/-- Parts as the model has them. -/
def PAR (μ : Mu) (ρ : Nat → Int) (w : World) (p : Nat × Value) (q : Nat × AV) : Prop := p.1 = q.1 ∧ AR μ ρ w p.2 q.2
theorem fillA_ok {place placeC : Nat → Option (Nat × Nat)} (hp : ∀ i q, place i = some q → placeC i = some q) : ∀ {ps : List (Nat × AV)} {c c' : List CV}, fillA place ps c = .ok c' →
    ∀ {pc : List (Nat × Value)} {cells : Array Value}, All2 (PAR μ ρ w) pc ps → All2 (CR μ ρ w) cells.toList c → ∃ cells', Instr.fill placeC cells pc = some cells' ∧ All2 (CR μ ρ w) cells'.toList c'
  | [], c, c', h, pc, cells, hpc, hc => by
    have e : fillA place [] c = .ok c := rfl
    rw [e] at h
    cases h
    cases pc with
    | nil => exact ⟨cells, rfl, hc⟩
    | cons _ _ => exact hpc.elim
  | p :: ps, c, c', h, pc, cells, hpc, hc => by
    have e : fillA place (p :: ps) c = (ofOpt 70 (place p.1)).bind fun q => p.2.cells.bind fun l => guardR 71 (Nat.beq l.length q.2) (guardR 72 (Nat.ble (Nat.add q.1 l.length) c.length) (fillA place ps (splice c q.1 l))) := rfl
    rw [e] at h
    obtain ⟨q, hq, h⟩ := bind_ok h
    obtain ⟨l, hl, h⟩ := bind_ok h
    obtain ⟨g1, h⟩ := guardR_ok h
    obtain ⟨g2, h⟩ := guardR_ok h
    cases pc with
    | nil => exact hpc.elim
    | cons a pc =>
      obtain ⟨⟨h1, h2⟩, h3⟩ := hpc
      have hcl := h2.cells hl
      have hlen := hcl.length
      rw [Array.length_toList] at hlen
      have hq' := hp _ _ (ofOpt_ok hq)
      rw [← h1] at hq'
      have g1 := beq_true g1
      have g2 : q.1 + l.length ≤ c.length := ble_true g2
      have hcs := hc.length
      rw [Array.length_toList] at hcs
      have hfold : (a.2.cells.zipIdx.foldl (fun cs (p : Value × Nat) => cs.setIfInBounds (q.1 + p.2) p.1) cells) = (cells.toList.take q.1 ++ a.2.cells.toList ++ cells.toList.drop (q.1 + a.2.cells.toList.length)).toArray := by
        rw [← Array.foldl_toList, Array.toList_zipIdx]
        exact foldl_fill q.1 a.2.cells.toList 0 cells (by rw [Array.length_toList]; omega)
      have hnew : All2 (CR μ ρ w) (cells.toList.take q.1 ++ a.2.cells.toList ++ cells.toList.drop (q.1 + a.2.cells.toList.length)) (splice c q.1 l) := by
        unfold splice
        have e : a.2.cells.toList.length = l.length := by rw [Array.length_toList]; exact hlen
        rw [e]
        exact ((hc.take _).append hcl).append (hc.drop _)
      obtain ⟨cells', h5, h6⟩ := fillA_ok hp h h3 (cells := (cells.toList.take q.1 ++ a.2.cells.toList ++ cells.toList.drop (q.1 + a.2.cells.toList.length)).toArray) (by simpa using hnew)
      refine ⟨cells', ?_, h6⟩
      obtain ⟨i, v⟩ := a
      obtain ⟨off, size⟩ := q
      simp only [Instr.fill, hq']
      have k1 : v.cells.size = size := by have : (v.cells.size : Nat) = l.length := hlen; have e2 : l.length = size := g1; omega
      have k2 : ¬ (off + v.cells.size > cells.size) := by have e2 : l.length = size := g1; have e3 : off + l.length ≤ c.length := g2; omega
      rw [if_neg (by simp [k1]; omega)]
      rw [← h5]
      congr 1
theorem partsR_ok {r : Operand → Res AV} {a : Act} (hr : ∀ x v, r x = .ok v → AR μ ρ w (a.eval x) v) {ps : Array (Nat × Operand)} {l : List (Nat × AV)} (h : partsR r ps = .ok l) :
    All2 (PAR μ ρ w) (ps.map fun (i, x) => (i, a.eval x)).toList l := by
  unfold partsR at h
  rw [Array.toList_map]
  have key : ∀ (ps : List (Nat × Operand)) (l : List (Nat × AV)), mapR (fun p => (r p.2).bind fun v => .ok (p.1, v)) ps = .ok l → All2 (PAR μ ρ w) (ps.map fun (i, x) => (i, a.eval x)) l := by
    intro ps
    induction ps with
    | nil => intro l h; cases h; trivial
    | cons p ps ih =>
      intro l h
      rw [mapR_cons] at h
      obtain ⟨b, hb, h⟩ := bind_ok h
      obtain ⟨m, hm, h⟩ := bind_ok h
      cases h
      obtain ⟨v, hv, hb⟩ := bind_ok hb
      cases hb
      exact ⟨⟨rfl, hr _ _ hv⟩, ih m hm⟩
  exact key _ _ h
theorem placesOf_ok {fs : Array Field} {pl : List (Nat × Nat)} (h : placesOf P fs = .ok pl) : fs.toList.mapM (fun f => (P.info? f.type).map fun i => (f.offset, i.size)) = some pl := by
  unfold placesOf at h
  generalize fs.toList = l at *
  induction l generalizing pl with
  | nil => cases h; rfl
  | cons f l ih =>
    rw [mapR_cons] at h
    obtain ⟨b, hb, h⟩ := bind_ok h
    obtain ⟨m, hm, h⟩ := bind_ok h
    cases h
    obtain ⟨i, hi, hb⟩ := bind_ok hb
    cases hb
    rw [List.mapM_cons, tyI_ok hi, ih hm]
    rfl
theorem buildA_ok {r : Operand → Res AV} {a : Act} (hr : ∀ x v, r x = .ok v → AR μ ρ w (a.eval x) v) {t : Nat} {ps : Array (Nat × Operand)} {v : AV} (h : buildA P r t ps = .ok v) :
    ∃ u, (Instr.build t (ps.map fun (i, x) => (i, a.eval x))).run P w = .ok u w ∧ AR μ ρ w u v := by
  obtain ⟨l, hl, h⟩ := bind_ok h
  obtain ⟨z, hz, h⟩ := bind_ok h
  obtain ⟨d, hd, h⟩ := bind_ok h
  have hd := tyU_ok hd
  cases d with
  | struct fs =>
    obtain ⟨pl, hpl, h⟩ := bind_ok h
    obtain ⟨c, hc, h⟩ := bind_ok h
    cases h
    obtain ⟨i, zv, h1, h2, h3⟩ := zeros_ok hz μ ρ w
    obtain ⟨cells, h4, h5⟩ := fillA_ok (placeC := fun i => pl.toArray[i]?) (fun i q hq => by simpa using hq) hc (partsR_ok hr hl) h3
    refine ⟨.agg cells, run_build w t _ cells ?_, cells, rfl, h5⟩
    unfold Program.built
    simp only [h1, hd, h2, placesOf_ok hpl]
    exact h4
  | _ => cases h
theorem buildSl_ok {r : Operand → Res AV} {a : Act} (hr : ∀ x v, r x = .ok v → AR μ ρ w (a.eval x) v) {t n : Nat} {ps : Array (Nat × Operand)} {q : NewT} (h : buildSl P r t n ps = .ok q) :
    NewOK P μ ρ w (Instr.buildSlice t n (ps.map fun (i, x) => (i, a.eval x))) q := by
  obtain ⟨l, hl, h⟩ := bind_ok h
  obtain ⟨d, hd, h⟩ := bind_ok h
  have hd := tyU_ok hd
  cases d with
  | slice e =>
    obtain ⟨i, hi, h⟩ := bind_ok h
    obtain ⟨z, hz, h⟩ := bind_ok h
    obtain ⟨g1, h⟩ := guardR_ok h
    obtain ⟨g2, h⟩ := guardR_ok h
    obtain ⟨g3, h⟩ := guardR_ok h
    obtain ⟨c, hc, h⟩ := bind_ok h
    cases h
    have hi := tyI_ok hi
    obtain ⟨i', zv, h1, h2, h3⟩ := zeros_ok hz μ ρ w
    rw [hi] at h1
    cases h1
    have g1 := beq_true g1
    have g2 : n * i.size ≤ 16777216 := ble_true g2
    have g3 := ble_true g3
    have hzs : zv.cells.size = i.size := by rw [← g1, ← h3.length, Array.length_toList]
    obtain ⟨zero, hzero, hcase⟩ : ∃ zero : Array Value, ((Array.range (n * i.size)).map (zero[· % zero.size]!)).toList = repL zv.cells.toList n ∧ ((n * i.size = 0 ∧ zero = #[]) ∨ (¬ n * i.size = 0 ∧ zero = zv.cells)) := by
      by_cases h0 : n * i.size = 0
      · refine ⟨#[], ?_, .inl ⟨h0, rfl⟩⟩
        rw [h0]
        have : n = 0 := by rcases Nat.mul_eq_zero.1 h0 with h | h <;> omega
        subst this
        rw [show repL zv.cells.toList 0 = [] from rfl]
        simp [Array.range_zero']
      · exact ⟨zv.cells, by rw [← hzs]; exact made_rep _ _, .inr ⟨h0, rfl⟩⟩
    obtain ⟨cells, h4, h5⟩ := fillA_ok (placeC := fun j => some (j * i.size, i.size)) (fun _ _ h => h) hc (cells := (Array.range (n * i.size)).map (zero[· % zero.size]!)) (partsR_ok hr hl) (by rw [hzero]; exact h3.rep n)
    have hlenc : cells.toList.length = n * i.size := by
      have key : ∀ {ps : List (Nat × AV)} {c c' : List CV}, fillA (fun j => some (Nat.mul j i.size, i.size)) ps c = .ok c' → c'.length = c.length := by
        intro ps
        induction ps with
        | nil => intro c c' h; cases h; rfl
        | cons p ps ih =>
          intro c c' h
          have e : fillA (fun j => some (Nat.mul j i.size, i.size)) (p :: ps) c = (ofOpt 70 (some (Nat.mul p.1 i.size, i.size))).bind fun q => p.2.cells.bind fun l => guardR 71 (Nat.beq l.length q.2) (guardR 72 (Nat.ble (Nat.add q.1 l.length) c.length) (fillA (fun j => some (Nat.mul j i.size, i.size)) ps (splice c q.1 l))) := rfl
          rw [e] at h
          obtain ⟨q, hq, h⟩ := bind_ok h
          obtain ⟨l, hl, h⟩ := bind_ok h
          obtain ⟨_, h⟩ := guardR_ok h
          obtain ⟨g2, h⟩ := guardR_ok h
          have g2 : q.1 + l.length ≤ c.length := ble_true g2
          rw [ih h]
          unfold splice
          simp only [List.length_append, List.length_take, List.length_drop]
          omega
      rw [h5.length, key hc, repL_length, g1]
    refine new_sl (vs := cells.toList) (e := e) ?_ h5 (Nat.le_refl _) (by rw [hlenc]; exact Nat.le_refl _)
    have h4' : Instr.fill (fun j => some (j * i.size, i.size)) ((Array.range (n * i.size)).map (zero[· % zero.size]!)) (ps.map fun (j, x) => (j, a.eval x)).toList = some cells := h4
    simp only [Instr.buildSlice, Sem.run_bind, run_underlying hd, Result.andThen_ok, run_sizeOf hi]
    rw [if_neg (by omega)]
    rcases hcase with ⟨h0, hz0⟩ | ⟨h0, hz0⟩
    · subst hz0
      rw [if_pos h0]
      simp only [Sem.run_bind, Sem.run_pure, Result.andThen_ok, h4', newRow, run_newObj]
      rfl
    · subst hz0
      rw [if_neg h0]
      simp only [Sem.run_bind, Sem.run_pure, Result.andThen_ok, run_zeroValue hi h2, h4', newRow, run_newObj]
      rfl
  | _ => cases h
end
end Go.Proofs.YtbmhamijoajnhaaGreat.E
