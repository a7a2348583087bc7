/- Kinds of messages: what the printed walks compute, as a table; the contracts. -/
import Derived.Test.YtoljpojpncjmoaaWord4
import Derived.Test.YtoljpojpncjmoaaQMsg
namespace Go.Proofs.Ytoljpojpncjmoaa.B
open Go.RowKit Go.Proofs.YtoljpojpncjmoaaW.PrintWords Go.Proofs.YtoljpojpncjmoaaW.PrintLast Go.Proofs.YtoljpojpncjmoaaW.PrintMore
attribute [local go_sem] max2_int min2_int max_two min_two max_three min_three max_four min_four
set_option linter.unusedVariables false
set_option linter.unusedSimpArgs false

/-- Numbers that stand in a block. -/
theorem C_blk {k : IntKind} {W : World} {g off : Nat} {cs : Array Value} {t : TypeId} {fr : Nat × Nat} (h : W.heap[g]? = some (.cells cs t fr)) (xs : List Int) (hx : (cs.toList.drop off).take xs.length = xs.map (Value.int k)) (hl : xs.length ≤ 9223372036854775807) : Kd.C (Kd.int k) W (some ⟨g, off, none⟩) xs.length xs := by
  refine ⟨rfl, hl, fun _ => ⟨_, rfl, fun j p hj => ⟨[.int k p], rfl, rfl, fun i u hu => ?_⟩⟩⟩
  obtain ⟨hl', rfl⟩ := List.getElem?_eq_some_iff.1 hj
  match i, hu with
  | 0, hu =>
    have hu' : Value.int k xs[j] = u := by simpa using hu
    subst hu'
    show W.cell? ((⟨g, off, none⟩ : Addr).add (j * 1 + 0)) = _
    have ha : (⟨g, off, none⟩ : Addr).add (j * 1 + 0) = ⟨g, off + j, none⟩ := by
      rw [Nat.mul_one, Nat.add_zero]
      unfold Addr.add
      split
      · rename_i h0; rw [h0]; rfl
      · rfl
    have e : (cs.toList.drop off)[j]? = some (.int k xs[j]) := by
      have := congrArg (fun l : List Value => l[j]?) hx
      simp only [List.getElem?_take_of_lt hl', List.getElem?_map, List.getElem?_eq_getElem hl', Option.map_some] at this
      exact this
    rw [List.getElem?_drop, Array.getElem?_toList] at e
    rw [ha, cell_of_row W g (off + j) cs t fr h, e]
  | i + 1, hu => simp at hu
section
variable {P : Program}
theorem arrL (t e : TypeId) (n : Nat) (ht : P.underlying t = some (.array n e)) (hinfo : (P.info? e).map (fun i => (i.zero, i.size, i.bytes)) = some (some (.int .i64 0), 1, 8)) (a : Addr) (l : List Int) (hl : l.length = n) (j : Nat) (hj : j ≤ n) :
    ∃ (ys : List Int) (A' : Option Addr), Aside0 (ys = l.drop j) ∧ (∀ W : World, (Instr.sliceAt t (.pointer (some a)) (some (.int .i64 (j : Int))) none none).run P W = .ok (.slice A' ys.length ys.length) W) ∧ Aside0 (∀ w, Kd.C (Kd.int .i64) w (some a) l.length l → Kd.C (Kd.int .i64) w A' ys.length ys) := by
  obtain ⟨i0, hi0, hzz⟩ := Option.map_eq_some_iff.1 hinfo
  simp only [Prod.mk.injEq] at hzz
  obtain ⟨hz0, hz1, hz2⟩ := hzz
  have hel : P.elem t = e := by simp [Program.elem, ht]
  have hal : P.arrayLen t = n := by simp [Program.arrayLen, ht]
  have hu : P.underlying t = some (.array (P.arrayLen t) (P.elem t)) := by rw [hel, hal]; exact ht
  have hs : (Kd.int .i64).sz = 1 := rfl
  refine ⟨l.drop j, if l.length = j then some a else (some a).map (·.add (j * (Kd.int .i64).sz)), ⟨rfl⟩, fun W => ?_, ⟨fun w h => Kd.C_drop h (by omega) (Nat.le_refl _)⟩⟩
  rw [List.length_drop, hl, hs, run_sliceAt_array_l W t a hu .i64 (j : Int) (by omega) (by rw [hal]; omega), hel, hal]
  simp [sizeOf, typeInfo, hi0, hz1, slicedAt, Result.andThen]
  split <;> rfl
theorem arrH (t e : TypeId) (n : Nat) (ht : P.underlying t = some (.array n e)) (hinfo : (P.info? e).map (fun i => (i.zero, i.size, i.bytes)) = some (some (.int .i64 0), 1, 8)) (a : Addr) (l : List Int) (hl : l.length = n) (j : Nat) (hj : j ≤ n) :
    ∃ (ys : List Int), Aside0 (ys = l.take j) ∧ (∀ W : World, (Instr.sliceAt t (.pointer (some a)) none (some (.int .i64 (j : Int))) none).run P W = .ok (.slice (some a) ys.length n) W) ∧ Aside0 (∀ w, Kd.C (Kd.int .i64) w (some a) l.length l → Kd.C (Kd.int .i64) w (some a) ys.length ys) := by
  obtain ⟨i0, hi0, hzz⟩ := Option.map_eq_some_iff.1 hinfo
  simp only [Prod.mk.injEq] at hzz
  obtain ⟨hz0, hz1, hz2⟩ := hzz
  have hel : P.elem t = e := by simp [Program.elem, ht]
  have hal : P.arrayLen t = n := by simp [Program.arrayLen, ht]
  have hu : P.underlying t = some (.array (P.arrayLen t) (P.elem t)) := by rw [hel, hal]; exact ht
  have hs : (Kd.int .i64).sz = 1 := rfl
  refine ⟨l.take j, ⟨rfl⟩, fun W => ?_, ⟨fun w h => Kd.C_take h (by omega)⟩⟩
  have e0 : a.add 0 = a := by simp [Addr.add]
  rw [show (l.take j).length = j by rw [List.length_take]; omega, run_sliceAt_array_h W t a hu .i64 (j : Int) (by omega) (by rw [hal]; omega), hel, hal]
  simp [sizeOf, typeInfo, hi0, hz1, slicedAt, Result.andThen, e0]
theorem arrAll (t e : TypeId) (n : Nat) (ht : P.underlying t = some (.array n e)) (hinfo : (P.info? e).map (fun i => (i.zero, i.size, i.bytes)) = some (some (.int .i64 0), 1, 8)) (a : Addr) (W : World) :
    (Instr.sliceAt t (.pointer (some a)) none none none).run P W = .ok (.slice (some a) n n) W := by
  obtain ⟨i0, hi0, hzz⟩ := Option.map_eq_some_iff.1 hinfo
  simp only [Prod.mk.injEq] at hzz
  obtain ⟨hz0, hz1, hz2⟩ := hzz
  have hel : P.elem t = e := by simp [Program.elem, ht]
  have hal : P.arrayLen t = n := by simp [Program.arrayLen, ht]
  have hu : P.underlying t = some (.array (P.arrayLen t) (P.elem t)) := by rw [hel, hal]; exact ht
  have e0 : a.add 0 = a := by simp [Addr.add]
  rw [run_sliceAt_array_all W t a hu, hel, hal]
  simp [sizeOf, typeInfo, hi0, hz1, slicedAt, Result.andThen, e0]
end
section
variable {P : Program} {ops : Array Oper} {o : Oper} {a : Act} {Q : Exit → Act → World → Prop} {Kc : Act → World → Prop}
/-- append(v, ys...) of bytes, as a step of a region that draws. -/
theorem app_step {w0 W : World} (base : Nat) (hw : Region.wanted o (yielded ops a.tmps) = true) (s x : Operand) (t e : TypeId)
    (ho : o.op = .call { callee := .builtin .append, args := #[s, x], argTypes := #[t, t] })
    (ht : P.underlying t = some (.slice e)) (hinfo : (P.info? e).map (fun i => (i.zero, i.size, i.bytes)) = some (some (.int .u8 0), 1, 1))
    (v : Value) (xs ys : List Int) (A : Option Addr) (m c : Nat) (hs : a.eval s = v) (hx : a.eval x = .slice A m c)
    (HO : (Kd.int .u8).R e W base (fun _ => True) v xs) (HR : (Kd.int .u8).C W A m ys)
    (HB : Below base w0 W) (hbase : base ≤ W.heap.size) (hl : xs.length + m ≤ 140737488355328)
    (h : ∀ v1 w1, (Kd.int .u8).R e w1 base (fun _ => True) v1 (xs ++ ys) → Below base w0 w1 → W.grownBy w1 v.ownBlock → Kc (a.put o.dst v1) w1) :
    if Region.wanted o (yielded ops a.tmps) = true then Oper.wp P o a W Kc Q else Kc (a.put o.dst undef) W :=
  Kd.R_append_rows_step (Kd.int .u8) base hw s x t e (.int .u8 0) 1 ho ht hinfo rfl (by decide) (by decide) v xs ys A m c (fun _ => True) (fun _ => False) hs hx HO HR (fun _ _ hh => hh) (fun _ hh => hh.elim) (fun _ _ => trivial) HB hbase (by omega) (fun v1 w1 h1 h2 h3 _ => h v1 w1 h1 h2 h3)
end
/-- A literal of one byte, just laid. -/
theorem R_blk (W : World) (x : Int) (e base : Nat) (hb : base ≤ W.heap.size) : (Kd.int .u8).R e (W.alloc (.cells #[.int .u8 x] e)) base (fun _ => True) (.slice (some ⟨W.heap.size, 0, none⟩) 1 1) [x] := by
  have h2 := World.ownsRow_lit (base := base) (e := e) (size := 1) W #[Value.int .u8 x] 1 hb (by decide) rfl
  exact ⟨fun _ _ => trivial, [.int .u8 x], h2, (Reps.none _ _).snoc (cs := []) (ps := []) rfl rfl⟩
/-- What a message's block says, in a world on the way. -/
def BS (w : World) (g : Nat) (l : List Int) (W : World) : Prop := Aside0 (Kd.C (Kd.int .i64) W (some ⟨g, 1, none⟩) l.length l) ∧ Aside0 (Below w.heap.size w W)
theorem BS.alloc {w W : World} {g : Nat} {l : List Int} {k : Value} (h : BS w g l W ∧ W.cell? ⟨g, 0, none⟩ = some k) (o : Obj) : BS w g l (W.alloc o) ∧ (W.alloc o).cell? ⟨g, 0, none⟩ = some k :=
  ⟨⟨⟨Kd.C_alloc h.1.1.out _⟩, ⟨below_alloc h.1.2.out _⟩⟩, pw_cell_below (below_alloc (Below.refl _ _) _) h.2⟩
theorem BS.below {w W W' : World} {g : Nat} {l : List Int} {k : Value} (hbl : Below W.heap.size W W') (h : BS w g l W ∧ W.cell? ⟨g, 0, none⟩ = some k) : BS w g l W' ∧ W'.cell? ⟨g, 0, none⟩ = some k :=
  ⟨⟨⟨Kd.C_below h.1.1.out hbl⟩, ⟨below_step h.1.2.out hbl⟩⟩, pw_cell_below hbl h.2⟩
theorem BS.of {w W : World} {g : Nat} {l : List Int} {k : Value} (h0 : BS w g l w ∧ w.cell? ⟨g, 0, none⟩ = some k) (hbl : Below w.heap.size w W) : BS w g l W ∧ W.cell? ⟨g, 0, none⟩ = some k := BS.below hbl h0
theorem BS.C {w W : World} {g : Nat} {l : List Int} {k : Value} (h : BS w g l W ∧ W.cell? ⟨g, 0, none⟩ = some k) : Kd.C (Kd.int .i64) W (some ⟨g, 1, none⟩) l.length l := h.1.1.out
theorem BS.B {w W : World} {g : Nat} {l : List Int} {k : Value} (h : BS w g l W ∧ W.cell? ⟨g, 0, none⟩ = some k) : Below w.heap.size w W := h.1.2.out
def manyT : List Int := [-1, 6, 1, 2, 2, 2, 1, 1, 2, 0, 2, 2, 2, 0, 0, 0, 1, 5, 4, 1, 1, 1, 1, 1]
/-- How many numbers a kind has; -1: there is no such kind. -/
def many (k : Int) : Int := if 0 ≤ k ∧ k < 24 then manyT.getD k.toNat (-1) else -1
theorem many_out {k : Int} (h : ¬ (0 ≤ k ∧ k < 24)) : many k = -1 := if_neg h
theorem int_in {k : Int} (h : 0 ≤ k ∧ k < 24) : ∃ n : Nat, n < 24 ∧ k = n := ⟨k.toNat, by omega, by omega⟩
theorem many_bd (k : Int) : -1 ≤ many k ∧ many k ≤ 6 := by
  by_cases h : 0 ≤ k ∧ k < 24
  · obtain ⟨n, hn, rfl⟩ := int_in h
    have : ∀ n : Nat, n < 24 → -1 ≤ many (n : Int) ∧ many (n : Int) ≤ 6 := by decide +kernel
    exact this n hn
  · rw [many_out h]; omega
theorem many_f (k : Int) : msg_Many.f 4 k = some (many k) := by
  by_cases h : 0 ≤ k ∧ k < 24
  · obtain ⟨n, hn, rfl⟩ := int_in h
    have : ∀ n : Nat, n < 24 → msg_Many.f 4 (n : Int) = some (many (n : Int)) := by decide +kernel
    exact this n hn
  · have e : ∀ c : Int, 0 ≤ c → c < 24 → (k == c) = false := fun c h0 h1 => by rw [beq_eq_false_iff_ne]; omega
    rw [many_out h]
    unfold msg_Many.f
    rw [if_neg (by omega), if_neg (by omega), if_neg (by omega), e 15 (by omega) (by omega)]
    simp only [msg_Many.j0]
    rw [if_neg (by simp), if_neg (by omega), if_neg (by omega), if_neg (by omega), if_neg (by omega), if_neg (by omega), if_neg (by omega), if_neg (by omega), if_neg (by omega), e 23 (by omega) (by omega)]
    simp only [msg_Many.j1]
    rw [if_neg (by simp), if_neg (by omega), if_neg (by omega), if_neg (by omega), if_neg (by omega), if_neg (by omega), if_neg (by omega), e 12 (by omega) (by omega)]
    simp only [msg_Many.j2]
    rw [if_neg (by simp), if_neg (by omega), if_neg (by omega), if_neg (by omega)]
theorem many3_f (k : Int) : giroref3_Many.f k = some (many k) := by
  by_cases h : 0 ≤ k ∧ k < 24
  · obtain ⟨n, hn, rfl⟩ := int_in h
    have : ∀ n : Nat, n < 24 → giroref3_Many.f (n : Int) = some (many (n : Int)) := by decide +kernel
    exact this n hn
  · rw [many_out h]
    unfold giroref3_Many.f
    simp only [Option.bind_some]
    by_cases h0 : k < 0
    · rw [if_pos h0]
    · rw [if_neg h0, if_pos (by show k ≥ ((24 : Nat) : Int); omega)]
def asked (k : Int) : Bool := decide (1 ≤ k) && decide (k ≤ 14)
def hostK (k : Int) : Bool := decide (10 ≤ k) && decide (k ≤ 14)
theorem mmany (k : Int) (w : World) : Calls Try.prog 39 #[.int .i64 k] w fun e w' => e = .returned (.int .i64 (many k)) ∧ Below w.heap.size w w' :=
  (msg_Many.calls 4 k (many k) w (many_f k)).mono fun _ _ ⟨he, hd⟩ => ⟨he, hd.below⟩
theorem mmany3 (k : Int) (w : World) : Calls Try.prog 36 #[.int .i64 k] w fun e w' => e = .returned (.int .i64 (many k)) ∧ Below w.heap.size w w' :=
  giroref3_Many.calls k (many k) w (many3_f k)
theorem masked (k : Int) (w : World) : Calls Try.prog 40 #[.int .i64 k] w fun e w' => e = .returned (.bool (asked k)) ∧ Below w.heap.size w w' :=
  (msg_Asked.calls k (asked k) w (by unfold msg_Asked.f asked; split <;> rename_i h <;> simp [h])).mono fun _ _ ⟨he, hd⟩ => ⟨he, hd.below⟩
theorem masked3 (k : Int) (w : World) : Calls Try.prog 41 #[.int .i64 k] w fun e w' => e = .returned (.bool (asked k)) ∧ Below w.heap.size w w' :=
  (giroref3_Asked.calls k (asked k) w (by unfold giroref3_Asked.f asked; split <;> rename_i h <;> simp [h])).mono fun _ _ ⟨he, hd⟩ => ⟨he, hd.below⟩
theorem mhost (k : Int) (w : World) : Calls Try.prog 42 #[.int .i64 k] w fun e w' => e = .returned (.bool (hostK k)) ∧ Below w.heap.size w w' :=
  (msg_Host.calls k (hostK k) w (by unfold msg_Host.f hostK; split <;> rename_i h <;> simp [h])).mono fun _ _ ⟨he, hd⟩ => ⟨he, hd.below⟩
theorem mhost3 (k : Int) (w : World) : Calls Try.prog 43 #[.int .i64 k] w fun e w' => e = .returned (.bool (hostK k)) ∧ Below w.heap.size w w' :=
  (giroref3_Host.calls k (hostK k) w (by unfold giroref3_Host.f hostK; split <;> rename_i h <;> simp [h])).mono fun _ _ ⟨he, hd⟩ => ⟨he, hd.below⟩
end Go.Proofs.Ytoljpojpncjmoaa.B
