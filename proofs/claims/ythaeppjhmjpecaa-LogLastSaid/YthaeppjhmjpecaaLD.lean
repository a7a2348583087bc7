/- LogLast: opening a deck that holds a log; rows that are put together; plain laws. -/
import Derived.Test.YthaeppjhmjpecaaLC
import Derived.Test.YthaeppjhmjpecaaOpenB
import Derived.Deep.RegionHeldLaw
namespace Go.Proofs.Ythaeppjhmjpecaa.B
open Go.RowKit Go.Proofs.YthaeppjhmjpecaaW.PrintWords Go.Proofs.YthaeppjhmjpecaaW.PrintLast Go.Proofs.YthaeppjhmjpecaaW.PrintMore
set_option linter.unusedVariables false
set_option linter.unusedSimpArgs false
/-- Opening a deck that holds something: its log is new, stale; what was collected stays. -/
theorem LT.open {W w : World} {gd gl : Nat} {D : Dk} {L : Lg} {rows : List (List Int)} {v : Value} (h : LT W w gd gl D L rows v) (N : Int) (hI : D.IB) (hG : D.G N) (hN : N < 900000) (hk : lkG D ≠ 0) :
    Calls Try.prog 37 #[.pointer (some ⟨gd, 0, none⟩), .slice none 0 0] W fun e w' => ∃ gl2 A1 c1 A2 c2, e = .returned (.tuple #[.pointer (some ⟨gl2, 0, none⟩), .slice A1 (heldS (lkB D)).length c1, .slice A2 (heldR (lkB D)).length c2, .int .i64 0]) ∧ LT w' w gd gl2 D ⟨lkS D, lkG D, (heldR (lkB D)).length, true⟩ rows v ∧ Kd.C (Kd.int .u8) w' A1 (heldS (lkB D)).length (heldS (lkB D)) ∧ Kd.C (Kd.slice 5 (Kd.int .u8)) w' A2 (heldR (lkB D)).length (heldR (lkB D)) := by
  obtain ⟨⟨okd, okr, h1, h2, h3, h4, h5, h6, h7⟩, hB⟩ := h
  obtain ⟨o1, o2, o3, o4, o5⟩ := op_held (fresh := []) hk
  refine (lopen gd (fun k => okd k ∨ W.heap.size ≤ k) D none 0 [] N W (h1.mono (fun _ => .inl)) hI hG hN (Kd.C_nil _ _) (Nat.zero_le _) (fun k hk => .inr hk) (fun ad e => by cases e)).mono ?_
  intro e w' hop
  obtain ⟨gl2, M, v1, v2, he, hf, hM, hgl, hd, hL, hv⟩ := OpenedV.inv hop o1
  rw [o2] at hd
  rw [o5] at hL
  rw [o3, o4] at hv
  obtain ⟨A1, c1, A2, c2, e1, e2, hx1, hx2, _, _⟩ := hv.out
  subst e1 e2
  have hs := hf.2.2.2.1
  refine ⟨gl2, A1, c1, A2, c2, he, ⟨⟨_, okr, hd, hL, Kd.R_step h3 (fun k hk hl => hf.2.2.2.2 k hl (fun h => ?_)), fun k hk hr => ?_, fun k hk => ⟨?_, ?_, fun e => ?_⟩, fun k hk => ⟨(h6 k hk).1, Nat.lt_of_lt_of_le (h6 k hk).2.1 hs, fun e => ?_⟩, ?_⟩, hf.below' hB (fun k hk => ?_)⟩, hx1, hx2⟩
  · rcases h with h | h
    · exact h4 k h hk
    · exact absurd hl (Nat.not_lt.2 h)
  · rcases hk.1 with h | h
    · exact h4 k h hr
    · exact absurd (h6 k hr).2.1 (Nat.not_lt.2 h)
  · rcases hk.1 with h | h
    · exact (h5 k h).1
    · exact Nat.le_trans hB.size h
  · have := blk_lt hL; have := hk.2; omega
  · have := hk.2; omega
  · have := (h6 k hk).2.1; omega
  · have := hB.size; omega
  · rcases hk with h | h
    · exact (h5 k h).1
    · exact Nat.le_trans hB.size h
section
variable {P : Program} {ops : Array Oper} {o : Oper} {a : Act} {Q : Exit → Act → World → Prop} {Kc : Act → World → Prop}
/-- append(v, ys...) of rows that came in, as a step of a region that draws. -/
theorem rows_step {w w0 W : World} (base : Nat) (hw : Region.wanted o (yielded ops a.tmps) = true) (s x : Operand) (t e : TypeId)
    (ho : o.op = .call { callee := .builtin .append, args := #[s, x], argTypes := #[t, t] })
    (ht : P.underlying t = some (.slice e)) (hinfo : (P.info? e).map (fun i => (i.zero, i.size, i.bytes)) = some (some (.slice none 0 0), 1, 24))
    (v : Value) (xs ys : List (List Int)) (A : Option Addr) (m c : Nat) (hs : a.eval s = v) (hx : a.eval x = .slice A m c)
    (HO : (KR w).R e W base (fun _ => True) v xs) (HR : (KR w).C W A m ys)
    (HB : Below base w0 W) (hbase : base ≤ W.heap.size) (hl : (xs.length + m) * 24 ≤ 140737488355328)
    (h : ∀ v1 w1, (KR w).R e w1 base (fun _ => True) v1 (xs ++ ys) → Below base w0 w1 → W.grownBy w1 v.ownBlock → Kc (a.put o.dst v1) w1) :
    if Region.wanted o (yielded ops a.tmps) = true then Oper.wp P o a W Kc Q else Kc (a.put o.dst undef) W :=
  Kd.R_append_rows_step (KR w) base hw s x t e (.slice none 0 0) 24 ho ht hinfo rfl (show 0 < 1 by decide) (by decide) v xs ys A m c (fun _ => True) (fun _ => False) hs hx HO HR (fun _ _ hh => hh) (fun _ hh => hh.elim) (fun _ _ => trivial) HB hbase hl (fun v1 w1 h1 h2 h3 _ => h v1 w1 h1 h2 h3)
end
theorem R_rows0 (w W : World) (e base : Nat) (hb : base ≤ W.heap.size) : (KR w).R e (W.alloc (.cells #[] e)) base (fun _ => True) (.slice (some ⟨W.heap.size, 0, none⟩) 0 0) [] := by
  have h2 := World.ownsRow_lit (base := base) (e := e) (size := 1) W #[] 0 hb (by decide) rfl
  exact ⟨fun _ _ => trivial, [], h2, Reps.none _ _⟩
/-- One row in a cell. -/
theorem C_row1 {w W : World} {g : Nat} {A : Option Addr} {b : List Int} {c : Nat} (hc : W.cell? ⟨g, 0, none⟩ = some (.slice A b.length c)) (hbc : b.length ≤ c) (hC : Kd.C (Kd.int .u8) w A b.length b) : (KR w).C W (some ⟨g, 0, none⟩) 1 [b] := by
  refine ⟨rfl, by decide, fun _ => ⟨_, rfl, fun j p hj => ?_⟩⟩
  obtain ⟨hjl, rfl⟩ := List.getElem?_eq_some_iff.1 hj
  have hj0 : j = 0 := by simpa using hjl
  subst hj0
  refine ⟨[.slice A b.length c], rfl, ⟨A, c, rfl, hbc, hC⟩, fun i u hu => ?_⟩
  match i, hu with
  | 0, hu =>
    have hu' : Value.slice A b.length c = u := by simpa using hu
    subst hu'
    show W.cell? ((⟨g, 0, none⟩ : Addr).add (0 * 1 + 0)) = _
    exact hc
  | i + 1, hu => simp at hu
/-- Rows that came in, read where they are. -/
theorem KR_C {w W : World} {A : Option Addr} {n : Nat} {xs : List (List Int)} (hC : (KR w).C W A n xs) (hB : Below w.heap.size w W) : Kd.C (Kd.slice 5 (Kd.int .u8)) W A n xs := by
  refine ⟨hC.1, hC.2.1, fun hp => ?_⟩
  obtain ⟨ad, he, hcell⟩ := hC.2.2 hp
  refine ⟨ad, he, fun j p hj => ?_⟩
  obtain ⟨cs, hl, hK, hcc⟩ := hcell j p hj
  exact ⟨cs, hl, (Kd.slice 5 (Kd.int .u8)).K_below hB hK, hcc⟩
theorem LT.rows_KR {W w : World} {gd gl : Nat} {D : Dk} {L : Lg} {rows : List (List Int)} {A : Option Addr} {n c : Nat} (h : LT W w gd gl D L rows (.slice A n c)) : (KR w).C W A n rows := by
  obtain ⟨⟨okd, okr, h1, h2, h3, h4, h5, h6, h7⟩, hB⟩ := h
  have := (Kd.R_reads' h3)
  rw [this.1]
  exact this.2.2
theorem bytesOf_str {l : List Int} (h : IsB l) : bytesOf (strOfNums l) = l := by
  have h1 : (bytesOf (strOfNums l)) = (strOfNums l).toList.map (fun b => (b.toNat : Int)) := by rw [ByteArray.toList_eq]; rfl
  rw [h1, toList_str, List.map_map]
  conv => rhs; rw [← List.map_id l]
  refine List.map_congr_left (fun x hx => ?_)
  have := h x hx
  show ((UInt8.ofNat x.toNat).toNat : Int) = x
  rw [UInt8.toNat_ofNat']
  omega
end Go.Proofs.Ythaeppjhmjpecaa.B
