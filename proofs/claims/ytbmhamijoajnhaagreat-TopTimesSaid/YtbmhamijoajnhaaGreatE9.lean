/- append, copy, clear, maps, len, max and min are as the model has them. Nothing of the program. -/
import Derived.Test.YtbmhamijoajnhaaGreatE8
namespace Go.Proofs.YtbmhamijoajnhaaGreat.E
open Go Go.RowKit
section
variable {X : Nat → Prop} {P : Program} {F : Facts} {μ : Mu} {ρ : Nat → Int} {B : Nat} {w : World} {M : Mem}

/-- One block holds something else. -/
theorem MR.upd (h : MR X μ ρ B w M) {b k s : Nat} {x0 x : Blk} (hb : M.bl.get b = some x0) (hk : μ b = some (k, s)) {w' : World} (hsz : w'.heap.size = w.heap.size) (hext : Ext w w')
    (hoth : ∀ i, i ≠ k → w'.heap[i]? = w.heap[i]?) (hx : BR μ ρ w' k s x) : MR X μ ρ B w' ⟨M.bl.set x b, M.nx⟩ := by
  obtain ⟨hBk, _⟩ := h.blk _ _ _ _ hb hk
  have key : ∀ z y, (M.bl.set x b).get z = some y → ∃ y', M.bl.get z = some y' := by
    intro z y hz
    rcases set_get _ _ _ _ _ hz with ⟨rfl, _⟩ | ⟨_, h2⟩
    · exact ⟨_, hb⟩
    · exact ⟨_, h2⟩
  refine ⟨h.pend, h.fresh, fun j y hj => ?_, fun j k' s' hj => by rw [hsz]; exact h.size j k' s' hj, fun j y k' s' hj hk' => ?_, fun j j' y z k' s' s'' hj hj' => ?_⟩
  · obtain ⟨y', hy'⟩ := key _ _ hj
    exact h.low _ _ hy'
  · rcases set_get _ _ _ _ _ hj with ⟨rfl, rfl⟩ | ⟨hne, h2⟩
    · rw [hk] at hk'
      cases hk'
      exact ⟨hBk, hx⟩
    · obtain ⟨h3, h4⟩ := h.blk _ _ _ _ h2 hk'
      refine ⟨h3, h4.mono (Mu.refl μ) hext (hoth k' fun e => ?_)⟩
      subst e
      exact hne (h.inj _ _ _ _ _ _ _ h2 hb hk' hk)
  · obtain ⟨x', hx'⟩ := key _ _ hj
    obtain ⟨y', hy'⟩ := key _ _ hj'
    exact h.inj _ _ _ _ _ _ _ hx' hy'
/-- A row under a new number, the elder one is given up. -/
theorem MR.rebind (h : MR X μ ρ B w M) {b k s o : Nat} {c : PT CV} {cs : Array Value} {e : TypeId} (hb : M.bl.get b = some (.cl c)) (hk : μ b = some (k, s)) (hrow : w.heap[k]? = some (.cells cs e (0, 0)))
    {vs ns : List Value} {old news : List CV} (hold : All2 (CR μ ρ w) vs old) (hvs : ∀ j v, vs[j]? = some v → cs[s + o + j]? = some v) (hnew : All2 (CR μ ρ w) ns news) (hfit : s + o + vs.length + ns.length ≤ cs.size) :
    MR X (μ.put M.nx (k, s + o)) ρ B (w.setRow k (cs.toList.take (s + o + vs.length) ++ ns ++ cs.toList.drop (s + o + vs.length + ns.length)).toArray) (addB ⟨M.bl.del b, M.nx⟩ (rowB (old ++ news))) ∧
    Ste B μ w (μ.put M.nx (k, s + o)) (w.setRow k (cs.toList.take (s + o + vs.length) ++ ns ++ cs.toList.drop (s + o + vs.length + ns.length)).toArray) := by
  obtain ⟨hBk, _⟩ := h.blk _ _ _ _ hb hk
  have hnone := h.fresh M.nx (Nat.le_refl _)
  have hle := put_le hnone (k, s + o)
  have hsz : (cs.toList.take (s + o + vs.length) ++ ns ++ cs.toList.drop (s + o + vs.length + ns.length)).toArray.size = cs.size := by
    simp only [List.size_toArray, List.length_append, List.length_take, List.length_drop, Array.length_toList]
    omega
  generalize hcs' : (cs.toList.take (s + o + vs.length) ++ ns ++ cs.toList.drop (s + o + vs.length + ns.length)).toArray = cs' at *
  have hext : Ext w (w.setRow k cs') := setRow_ext w k _ fun c' e' fr' hc' => by rw [hrow] at hc'; cases hc'; exact hsz
  have key : ∀ z y, (addB ⟨M.bl.del b, M.nx⟩ (rowB (old ++ news))).bl.get z = some y → (z = M.nx ∧ y = rowB (old ++ news)) ∨ (z ≠ M.nx ∧ z ≠ b ∧ M.bl.get z = some y) := by
    intro z y hz
    rcases set_get _ _ _ _ _ hz with ⟨rfl, rfl⟩ | ⟨h1, h2⟩
    · exact .inl ⟨rfl, rfl⟩
    · obtain ⟨h3, h4⟩ := del_get _ _ _ _ h2
      exact .inr ⟨h1, h3, h4⟩
  refine ⟨⟨fun x hx => ?_, fun x hx => ?_, fun x y hx => ?_, fun x k' s' hx => ?_, fun x y k' s' hx hk' => ?_, fun x y p q k' s' s'' hx hy hk' hk'' => ?_⟩, hle, hext, setRow_below w hBk _⟩
  · obtain ⟨h1, h2⟩ := h.pend x hx
    rw [put_other μ _ (by omega)]
    exact ⟨h1, Nat.lt_succ_of_lt h2⟩
  · have hx' : M.nx + 1 ≤ x := hx
    rw [put_other μ _ (by omega)]; exact h.fresh x (by omega)
  · show x < M.nx + 1
    rcases key _ _ hx with ⟨rfl, _⟩ | ⟨_, _, h3⟩
    · omega
    · have := h.low _ _ h3; omega
  · rw [setRow_size]
    by_cases e : x = M.nx
    · subst e; rw [put_same] at hx; cases hx; exact h.size b k s hk
    · rw [put_other μ _ e] at hx; exact h.size x k' s' hx
  · rcases key _ _ hx with ⟨rfl, rfl⟩ | ⟨h1, h2, h3⟩
    · rw [put_same] at hk'
      cases hk'
      refine ⟨hBk, cs', e, setRow_heap w k cs _ e (0, 0) hrow, fun j y hj => ?_⟩
      rcases putC_get _ _ _ _ _ hj with ⟨_, h5⟩ | ⟨_, h5⟩
      · simp only [Nat.sub_zero] at h5
        have hlen := hold.length
        subst hcs'
        rw [List.getElem?_toArray]
        by_cases hjo : j < old.length
        · rw [List.getElem?_append_left hjo] at h5
          obtain ⟨u, hu, hcr⟩ := hold.get _ _ h5
          refine ⟨u, ?_, hcr.mono hle hext⟩
          have := hvs j u hu
          have hlt := (Array.getElem?_eq_some_iff.1 this).1
          rw [List.append_assoc, List.getElem?_append_left (by simp; omega), List.getElem?_take, if_pos (by omega), Array.getElem?_toList]
          exact this
        · rw [List.getElem?_append_right (by omega)] at h5
          obtain ⟨u, hu, hcr⟩ := hnew.get _ _ h5
          refine ⟨u, ?_, hcr.mono hle hext⟩
          have hlt := (List.getElem?_eq_some_iff.1 hu).1
          rw [List.append_assoc, List.getElem?_append_right (by simp; omega)]
          simp only [List.length_take, Array.length_toList]
          rw [List.getElem?_append_left (by omega), show s + o + j - min (s + o + vs.length) cs.size = j - old.length by omega]
          exact hu
      · cases h5
    · rw [put_other μ _ h1] at hk'
      obtain ⟨h4, h5⟩ := h.blk _ _ _ _ h3 hk'
      refine ⟨h4, h5.mono hle hext (setRow_other w k k' _ fun e => ?_)⟩
      subst e
      exact h2 (h.inj _ _ _ _ _ _ _ h3 hb hk' hk)
  · rcases key _ _ hx with ⟨rfl, _⟩ | ⟨h1, h2, h3⟩
    · rcases key _ _ hy with ⟨rfl, _⟩ | ⟨h4, h5, h6⟩
      · rfl
      · rw [put_same] at hk'
        cases hk'
        rw [put_other μ _ h4] at hk''
        exact absurd (h.inj _ _ _ _ _ _ _ h6 hb hk'' hk) h5
    · rcases key _ _ hy with ⟨rfl, _⟩ | ⟨h4, h5, h6⟩
      · rw [put_same] at hk''
        cases hk''
        rw [put_other μ _ h1] at hk'
        exact absurd (h.inj _ _ _ _ _ _ _ h3 hb hk' hk) h2
      · rw [put_other μ _ h1] at hk'
        rw [put_other μ _ h4] at hk''
        exact h.inj _ _ _ _ _ _ _ h3 h6 hk' hk''
/- append. -/
theorem run_append_none (w : World) (t ty e : TypeId) (i : TypeInfo) (ht : P.underlying t = some (.slice e)) (hi : P.info? e = some i) (base : Option Addr) (n c : Nat) (hn : n ≤ c) (a : Option Addr) (c' : Nat) :
    (Builtin.append_ #[t, t] ty #[.slice base n c, .slice a 0 c']).run P w = .ok (.slice base n c) w := by
  cases a with
  | none =>
    cases base with
    | none => simp [Builtin.append_, run_underlying ht, sizeOf, typeInfo, hi, Builtin.lenOf, Builtin.firstCells, hn]
    | some b => simp [Builtin.append_, run_underlying ht, sizeOf, typeInfo, hi, Builtin.lenOf, Builtin.firstCells, hn, storeCells]
  | some a =>
    cases base with
    | none => simp [Builtin.append_, run_underlying ht, sizeOf, typeInfo, hi, Builtin.lenOf, Builtin.firstCells, hn, loadCells, loadCellsFrom]
    | some b => simp [Builtin.append_, run_underlying ht, sizeOf, typeInfo, hi, Builtin.lenOf, Builtin.firstCells, hn, loadCells, loadCellsFrom, storeCells]
theorem run_append_in (w w' : World) (t ty e : TypeId) (i : TypeInfo) (ht : P.underlying t = some (.slice e)) (hi : P.info? e = some i) (b : Addr) (n c : Nat) (a : Addr) (m c' : Nat) (news : List Value)
    (hl : news.length = m * i.size) (hnews : ∀ j u, news[j]? = some u → w.cell? (a.add j) = some u) (hroom : n + m ≤ c) (hst : (storeCells (b.add (n * i.size)) news).run P w = .ok () w') :
    (Builtin.append_ #[t, t] ty #[.slice (some b) n c, .slice (some a) m c']).run P w = .ok (.slice (some b) (n + m) c) w' := by
  have hf := run_firstCells_some (P := P) w i.size m a m c' news hl hnews
  simp [Builtin.append_, run_underlying ht, sizeOf, typeInfo, hi, Builtin.lenOf, hroom, hf, hst]
/-- What is appended. -/
theorem srcOf_ok (h : MR X μ ρ B w M) {x : CV} {sz n : Nat} {news : List CV} (hs : srcOf M x sz = .ok (n, news)) {ux : Value} (hx : CR μ ρ w ux x) :
    (n = 0 ∧ news = [] ∧ ∃ a c, ux = .slice a 0 c) ∨ ∃ a c vs, ux = .slice (some a) n c ∧ All2 (CR μ ρ w) vs news ∧ news.length = n * sz ∧ ∀ j u, vs[j]? = some u → w.cell? (a.add j) = some u := by
  cases x with
  | sz => cases hs; exact .inl ⟨rfl, rfl, none, 0, hx⟩
  | se => cases hs; obtain ⟨a, c, rfl⟩ := hx; exact .inl ⟨rfl, rfl, some a, c, rfl⟩
  | s b o len cap ex sz' =>
    obtain ⟨k, s, c, hk, rfl, _⟩ := hx
    obtain ⟨l, hl, hs⟩ := bind_ok hs
    cases hs
    obtain ⟨h1, vs, h2, h3⟩ := h.ldN hl hk
    exact .inr ⟨_, c, vs, rfl, h2, h1, h3⟩
  | _ => cases hs
/-- What comes of a call or an operation that writes. -/
def OutM (X : Nat → Prop) (P : Program) (μ : Mu) (ρ : Nat → Int) (B : Nat) (w : World) (s : Sem Value) (v : AV) (M' : Mem) : Prop :=
  ∃ u w' μ', s.run P w = .ok u w' ∧ AR μ' ρ w' u v ∧ MR X μ' ρ B w' M' ∧ Ste B μ w μ' w'
theorem grow_new (h : MR X μ ρ B w M) (hB : B ≤ w.heap.size) {s : Sem Value} {vs rest : List Value} {l : List CV} {e : TypeId} {n c sz : Nat} {M0 : Mem} (hM0 : ∀ j x, M0.bl.get j = some x → M.bl.get j = some x) (hnx : M0.nx = M.nx)
    (hr : s.run P w = .ok (.slice (some ⟨w.heap.size, 0, none⟩) n c) (w.drew.alloc (.cells (vs ++ rest).toArray e))) (hv : All2 (CR μ ρ w) vs l) (hc : n ≤ c) (hroom : c * sz ≤ (vs ++ rest).length) :
    OutM X P μ ρ B w s (.c (.s M.nx 0 n n false sz)) (addB M0 (rowB l)) := by
  have hd : MR X μ ρ B w.drew M := MR.same (w := w) rfl h
  have hnone := h.fresh M.nx (Nat.le_refl _)
  have hvd : All2 (CR μ ρ w.drew) vs l := hv.mono fun _ _ hh => hh.same rfl
  have hblk : ∀ μ' : Mu, μ.le μ' → BR μ' ρ (w.drew.alloc (.cells (vs ++ rest).toArray e)) w.drew.heap.size 0 (rowB l) := by
    intro μ' hμ
    refine ⟨(vs ++ rest).toArray, e, alloc_new w.drew _, fun j x hj => ?_⟩
    rcases putC_get _ _ _ _ _ hj with ⟨_, h2⟩ | ⟨_, h2⟩
    · simp only [Nat.sub_zero] at h2
      obtain ⟨u, hu, hcr⟩ := hvd.get _ _ h2
      have hlt := (List.getElem?_eq_some_iff.1 hu).1
      exact ⟨u, by rw [List.getElem?_toArray, Nat.zero_add, List.getElem?_append_left hlt]; exact hu, hcr.mono hμ (alloc_ext w.drew _)⟩
    · cases h2
  obtain ⟨h1, h2⟩ := hd.alloc (M' := addB M0 (rowB l)) (b := M.nx) (blk := rowB l) (o := .cells (vs ++ rest).toArray e) hB hnone h.not_next
    (fun j x hj => by
      have hj' : (M0.bl.set (rowB l) M0.nx).get j = some x := hj
      rw [hnx] at hj'
      rcases set_get _ _ _ _ _ hj' with h1 | ⟨h1, h2⟩
      · exact .inl h1
      · exact .inr ⟨h1, hM0 _ _ h2⟩)
    (by show M.nx ≤ M0.nx + 1; omega) (by show M.nx < M0.nx + 1; omega) hblk
  refine ⟨_, _, _, hr, ?_, h1, (Ste.drew μ w (w.drawn + 1)).trans h2⟩
  exact ⟨w.heap.size, 0, c, put_same μ M.nx _, rfl, (fun e => by cases e), hc, Nat.le_refl _, ⟨_, e, (0, 0), alloc_new w.drew _, by simpa using hroom⟩⟩
theorem appA_ok (h : MR X μ ρ B w M) (hB : B ≤ w.heap.size) {t : Nat} {s x : CV} {v : AV} {M' : Mem} (hl : appA P M t s x = .ok (v, M')) {us ux : Value} (hs : CR μ ρ w us s) (hx : CR μ ρ w ux x) (ty : TypeId) :
    OutM X P μ ρ B w (Builtin.append_ #[t, t] ty #[us, ux]) v M' := by
  obtain ⟨d, hd, hl⟩ := bind_ok hl
  have hd := tyU_ok hd
  cases d with
  | slice e =>
    obtain ⟨i, hi, hl⟩ := bind_ok hl
    have hi := tyI_ok hi
    obtain ⟨g0, hl⟩ := guardR_ok hl
    have g0 : 1 ≤ i.size := ble_true g0
    obtain ⟨z, hz, hl⟩ := bind_ok hl
    obtain ⟨i', zv, hi', hz2, hz3⟩ := zeros_ok hz μ ρ w
    rw [hi] at hi'
    cases hi'
    obtain ⟨g1, hl⟩ := guardR_ok hl
    have g1 := beq_true g1
    have hzs : zv.cells.size = i.size := by rw [← g1, ← hz3.length, Array.length_toList]
    obtain ⟨q, hq, hl⟩ := bind_ok hl
    obtain ⟨n, news⟩ := q
    have hl : appS M i.bytes i.size s n news = .ok (v, M') := hl
    cases s with
    | sz =>
      have e' : us = .slice none 0 0 := hs
      subst e'
      rcases srcOf_ok h hq hx with ⟨rfl, rfl, a, c, rfl⟩ | ⟨a, c, vs, rfl, h2, h3, h4⟩
      · cases hl
        exact ⟨_, w, μ, run_append_none w t ty e i hd hi none 0 0 (Nat.le_refl _) a c, rfl, h, Ste.refl B μ w⟩
      · cases n with
        | zero =>
          cases hl
          exact ⟨_, w, μ, run_append_none w t ty e i hd hi none 0 0 (Nat.le_refl _) (some a) c, rfl, h, Ste.refl B μ w⟩
        | succ n =>
          have hl : guardR 141 (Nat.ble (Nat.mul (n + 1) i.bytes) two47) (guardR 141 (Nat.ble (n + 1) i64max) (grow M none [] news (n + 1) i.size)) = .ok (v, M') := hl
          obtain ⟨g2, hl⟩ := guardR_ok hl
          obtain ⟨g3, hl⟩ := guardR_ok hl
          cases hl
          have g2 : (n + 1) * i.bytes ≤ 140737488355328 := ble_true g2
          have g3 : n + 1 ≤ 9223372036854775807 := ble_true g3
          have hlen : vs.length = (n + 1) * i.size := by rw [h2.length, h3]
          have hr := run_append_nil (P := P) w t ty e i zv hd hi hz2 a (n + 1) c vs hlen h4 (by omega) (by omega) (by omega)
          have hcap := grownCap_ge w (n + 1) 0 e
          refine grow_new h hB (M0 := M) (fun _ _ h => h) rfl (rest := (Builtin.zeroCells zv.cells (grownCap w (n + 1) 0 e - (n + 1))).toList) (c := grownCap w (n + 1) 0 e) (e := e) ?_ h2 hcap ?_
          · rw [hr]
            congr 3
            apply Array.ext'
            simp
          · rw [List.length_append, hlen, Array.length_toList, size_zeroCells, hzs, ← Nat.add_mul]
            exact Nat.le_of_eq (by congr 1; omega)
    | s b o len cap ex sz' =>
      obtain ⟨k, q, c, hk, rfl, hex, hcap, hlen, hroom⟩ := hs
      obtain ⟨g2, hl1⟩ := guardR_ok hl
      obtain ⟨g3, hl2⟩ := guardR_ok hl1
      obtain ⟨g4, hl3⟩ := guardR_ok hl2
      clear hl1 hl2 hl
      have g2' := beq_true g2
      clear g2
      subst g2'
      have g3 : (len + n) * i.bytes ≤ 140737488355328 := ble_true g3
      have g4 : len + n ≤ 9223372036854775807 := ble_true g4
      cases hble : Nat.ble (Nat.add len n) cap with
      | true =>
        rw [hble] at hl3
        have hfit : len + n ≤ cap := ble_true hble
        have hl : ((Go.Proofs.YtbmhamijoajnhaaGreat.E.stN M b (o + len * i.size) news).bind fun M => okM (.s b o (len + n) cap ex i.size) M) = .ok (v, M') := hl3
        clear hl3
        obtain ⟨M1, hM1, hl⟩ := bind_ok hl
        cases hl
        rcases srcOf_ok h hq hx with ⟨rfl, rfl, a, c', rfl⟩ | ⟨a, c', vs, rfl, h2, h3, h4⟩
        · obtain ⟨w', hw', h5, h6⟩ := h.stN hM1 hk (vs := []) trivial P
          have hw : w' = w := by
            have : (storeCells ⟨k, q + (o + len * i.size), none⟩ []).run P w = .ok () w := rfl
            rw [this] at hw'
            cases hw'
            rfl
          subst hw
          exact ⟨_, w', μ, run_append_none w' t ty e i hd hi _ len c (by omega) a c', ⟨k, q, c, hk, rfl, hex, hcap, by omega, hroom⟩, h5, h6⟩
        · obtain ⟨w', hw', h5, h6⟩ := h.stN hM1 hk h2 P
          have hlen' : vs.length = n * i.size := by rw [h2.length, h3]
          refine ⟨_, w', μ, run_append_in w w' t ty e i hd hi ⟨k, q + o, none⟩ len c a n c' vs hlen' h4 (by omega) ?_, ⟨k, q, c, hk, rfl, hex, hcap, hfit, hroom.ext h6.ext⟩, h5, h6⟩
          rw [addr_add, show q + o + len * i.size = q + (o + len * i.size) by omega]
          exact hw'
      | false =>
        rw [hble] at hl3
        have hfit : cap < len + n := ble_false hble
        cases n with
        | zero => cases hl3
        | succ n =>
          have hl : ((Go.Proofs.YtbmhamijoajnhaaGreat.E.ldN M b o (len * i.size)).bind fun old => grow M (Bool.rec (motive := fun _ => Option Nat) (some b) none ex) old news (len + (n + 1)) i.size) = .ok (v, M') := hl3
          clear hl3
          obtain ⟨old, hold, hl⟩ := bind_ok hl
          obtain ⟨h7, vo, h8, h9⟩ := h.ldN hold hk
          rcases srcOf_ok h hq hx with ⟨h0, _⟩ | ⟨a, c', vs, rfl, h2, h3, h4⟩
          · cases h0
          · have hlen' : vs.length = (n + 1) * i.size := by rw [h2.length, h3]
            have hlo : vo.length = len * i.size := by rw [h8.length, h7]
            by_cases hin : len + (n + 1) ≤ c
            · cases ex with
              | true => exfalso; have := hex rfl; omega
              | false =>
                cases hl
                unfold Go.Proofs.YtbmhamijoajnhaaGreat.E.ldN at hold
                obtain ⟨cc, hcc, hold⟩ := bind_ok hold
                have hcb := cellsOf_ok hcc
                obtain ⟨hBk, cs, e', hrow, hcs⟩ := h.row hcb hk
                obtain ⟨cs2, e2, fr2, hr2, hle2⟩ := hroom
                rw [hrow] at hr2
                cases hr2
                have hfit2 : q + o + vo.length + vs.length ≤ cs.size := by
                  rw [hlo, hlen']
                  have : len * i.size + (n + 1) * i.size ≤ c * i.size := by rw [← Nat.add_mul]; exact Nat.mul_le_mul_right _ hin
                  omega
                have hst := run_storeCells_at P k (q + o + vo.length) e' vs 0 cs w hrow (by omega) (fun u hu => by
                  obtain ⟨j, hj, rfl⟩ := List.getElem_of_mem hu
                  have hl2 := h2.length
                  obtain ⟨a', ha', hcr⟩ := h2.get j (news[j]'(by omega)) (List.getElem?_eq_getElem (by omega))
                  rw [List.getElem?_eq_getElem hj] at ha'
                  cases ha'
                  exact hcr.one.1)
                simp only [Nat.add_zero] at hst
                have hvo : ∀ j u, vo[j]? = some u → cs[q + o + j]? = some u := by
                  intro j u hu
                  have := h9 j u hu
                  rw [addr_add, cell_at hrow] at this
                  exact this
                obtain ⟨h10, h11⟩ := h.rebind (o := o) hcb hk hrow h8 hvo h2 hfit2
                refine ⟨.slice (some ⟨k, q + o, none⟩) (len + (n + 1)) c, _, _, run_append_in w _ t ty e i hd hi ⟨k, q + o, none⟩ len c a (n + 1) c' vs hlen' h4 hin ?_, ?_, h10, h11⟩
                · rw [addr_add, ← hlo]
                  exact hst
                · refine ⟨k, q + o, c, put_same μ M.nx _, rfl, (fun e => by cases e), hin, Nat.le_refl _, ?_⟩
                  have : Room w k (q + o + c * i.size) := ⟨cs, e', (0, 0), hrow, hle2⟩
                  simpa using this.ext h11.ext
            · have hr := run_append_grow (P := P) w t ty e i zv hd hi hz2 ⟨k, q + o, none⟩ len c vo hlo h9 a (n + 1) c' vs hlen' h4 (by omega) (by omega) (growslice_fits (by omega) g3)
              have hcap2 := grownCap_ge w (len + (n + 1)) c e
              cases hl
              refine grow_new h hB (M0 := Option.rec (motive := fun _ => Mem) M (fun b => ⟨M.bl.del b, M.nx⟩) (Bool.rec (motive := fun _ => Option Nat) (some b) none ex)) ?_ ?_
                (rest := (Builtin.zeroCells zv.cells (grownCap w (len + (n + 1)) c e - (len + (n + 1)))).toList) (c := grownCap w (len + (n + 1)) c e) (e := e) ?_ (h8.append h2) hcap2 ?_
              · intro j y hj
                cases ex with
                | true => exact hj
                | false => exact (del_get _ _ _ _ hj).2
              · cases ex <;> rfl
              · rw [hr]
                congr 3
                apply Array.ext'
                simp
              · rw [List.length_append, List.length_append, hlen', hlo, Array.length_toList, size_zeroCells, hzs, ← Nat.add_mul, ← Nat.add_mul]
                exact Nat.le_of_eq (by congr 1; omega)
    | _ => cases hl
  | _ => cases hl
end
end Go.Proofs.YtbmhamijoajnhaaGreat.E
