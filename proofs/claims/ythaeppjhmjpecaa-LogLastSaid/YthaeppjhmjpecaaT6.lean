/- tape: bytes.Clone, Read. -/
import Derived.Laws.Cover3
import Derived.Test.YthaeppjhmjpecaaT5
namespace Go.Proofs.Ythaeppjhmjpecaa.B
open Go.RowKit Go.Proofs.YthaeppjhmjpecaaW.PrintWords Go.Proofs.YthaeppjhmjpecaaW.PrintLast Go.Proofs.YthaeppjhmjpecaaW.PrintMore
attribute [local go_sem] max2_int min2_int max_two min_two max_three min_three max_four min_four
set_option linter.unusedVariables false
set_option linter.unusedSimpArgs false

theorem eqNil (W : World) (a : Option Addr) (l c : Nat) : (Go.binOp .eql 22 (.slice a l c) (.slice none 0 0)).run Try.prog W = .ok (.bool a.isNone) W := by
  simp only [Go.binOp]
  simp [run_equal_slice_nil (P := Try.prog) W 22 5 a l c Try.underlying22]
/-- bytes.Clone: new memory. -/
theorem tclone (A : Option Addr) (c : Nat) (l : List Int) (w : World) (hr : Kd.C (Kd.int .u8) w A l.length l) (hl : l.length ≤ 140737488351232) :
    Calls Try.prog 47 #[.slice A l.length c] w fun e w' => ∃ v : Value, e = .returned v ∧ Kd.R (Kd.int .u8) 5 w' w.heap.size (fun _ => True) v l ∧ Below w.heap.size w w' := by
  have HB := Aside0.mk (Below.refl w.heap.size w)
  have HR := Aside0.mk hr
  cases A with
  | none =>
    have hl0 : l = [] := by
      cases l with
      | nil => rfl
      | cons x l =>
        obtain ⟨ad, e, _⟩ := hr.2.2 (by simp)
        cases e
    have HL := Aside0.mk hl0
    have hn : ∀ W, (Go.binOp .eql 22 (.slice none l.length c) (.slice none 0 0)).run Try.prog W = .ok (.bool true) W := fun W => eqNil W none l.length c
    clear hr hl0
    go_enter Try.func47, Try.ntmps47
    go_wp2
    go_ret
    exact ⟨_, rfl, by rw [HL.out]; exact Kd.R_nil _ _ _ _ _, HB.out⟩
  | some ad =>
    have hn : ∀ W, (Go.binOp .eql 22 (.slice (some ad) l.length c) (.slice none 0 0)).run Try.prog W = .ok (.bool false) W := fun W => eqNil W (some ad) l.length c
    clear hr
    go_enter Try.func47, Try.ntmps47
    go_wp2_with (first | ((with_reducible refine gate_dst (N := 5) rfl ?_); go_loud (refine Kd.R_lit (Kd.int .u8) (w0 := w) w.heap.size 5 rfl (N := 5) rfl (xs := ([] : List Int)) (inner := []) (ok := fun _ => True) (okp := fun _ => True) (by first | (go_simp; done) | (go_simp; rfl) | (go_simp; exact ⟨rfl, rfl⟩)) (Reps.none _ _) (fun _ hk => hk) trivial HB.out HB.out.size (by simp) ?_; intro v4 w4 ho hb hg_ hnew_; clear HB hg_ hnew_; have HB := Aside0.mk hb; have HO := Aside0.mk ho; clear ho hb)) | ((with_reducible refine gate_dst (N := 7) rfl ?_); go_loud (refine Kd.R_append_row (Value.int .u8) 0 (h1 := fun _ => rfl) (w0 := w) w.heap.size rfl _ _ 22 5 (.int .u8 0) 1 rfl Try.underlying22 info5 rfl (by decide) v4 ([] : List Int) l (some ad) l.length c (fun _ => True) rfl rfl (fun _ _ => trivial) HO.out (Kd.C_below HR.out HB.out) HB.out HB.out.size (by simp; omega) ?_; intro v5 w5 ho hb hg_ hnew_; clear hg_ hnew_ HB HO; rw [List.nil_append] at ho; have HB := Aside0.mk hb; have HO := Aside0.mk ho; clear ho hb)))
    go_ret
    exact ⟨_, rfl, HO.out, HB.out⟩
def Dk.read (D : Dk) (side : Int) : List Int := if side = 0 then D.b0 else if side = 1 then D.b1 else []
theorem tread_nil (side : Int) (w : World) : Calls Try.prog 16 #[.pointer none, .int .i64 side] w fun e w' => ∃ v : Value, e = .returned v ∧ Kd.R (Kd.int .u8) 5 w' w.heap.size (fun _ => True) v [] ∧ Below w.heap.size w w' := by
  have HB := Aside0.mk (Below.refl w.heap.size w)
  go_enter Try.func16, Try.ntmps16
  go_wp2
  go_ret
  exact ⟨_, rfl, Kd.R_nil _ _ _ _ _, HB.out⟩
theorem tread_no (g : Nat) (side : Int) (w : World) (hs : sideB side = false) : Calls Try.prog 16 #[.pointer (some ⟨g, 0, none⟩), .int .i64 side] w fun e w' => ∃ v : Value, e = .returned v ∧ Kd.R (Kd.int .u8) 5 w' w.heap.size (fun _ => True) v [] ∧ Below w.heap.size w w' := by
  have HB := Aside0.mk (Below.refl w.heap.size w)
  have HS := Aside0.mk hs
  clear hs
  go_enter Try.func16, Try.ntmps16
  go_wp2_with (first | ((with_reducible refine gate_dst (N := 9) rfl ?_); (try (refine gate_guard (by rfl) ?_; dsimp only)); go_loud (refine goesL_ (some 9) rfl rfl Try.func45 (by kernel_rfl) rfl #[.int .i64 side] rfl (by (try simp only [List.map_toArray, List.map_cons, List.map_nil]); first | done | rfl | (simp only [List.length_drop, List.length_take]; rfl)) ?_; refine (tside side _).mono ?_; rintro e w2 ⟨rfl, hbl⟩; refine ⟨_, rfl, ?_⟩; rw [HS.out]; have HB_ := Aside0.mk (below_step HB.out hbl); clear HB; have HB := HB_; clear HB_; clear hbl)))
  go_ret
  exact ⟨_, rfl, Kd.R_nil _ _ _ _ _, HB.out⟩

set_option maxHeartbeats 1000000 in
theorem tread0 (g : Nat) (ok : Nat → Prop) (room : Int) (b0 : List Int) (s0 : Nat) (b1 : List Int) (s1 : Nat) (cat keep : Int) (armed down : Bool) (ops : Int) (w : World) (h : IsD w ok g ⟨room, b0, s0, b1, s1, cat, keep, armed, down, ops⟩) (hw : b0.length ≤ 140737488351232) : Calls Try.prog 16 #[.pointer (some ⟨g, 0, none⟩), .int .i64 0] w fun e w' => ∃ v : Value, e = .returned v ∧ Kd.R (Kd.int .u8) 5 w' w.heap.size (fun _ => True) v b0 ∧ Below w.heap.size w w' := by
  have HB := Aside0.mk (Below.refl w.heap.size w)
  have HD := Aside0.mk h
  have HS := Aside0.mk (show sideB 0 = true by decide)
  clear h
  go_enter Try.func16, Try.ntmps16
  go_wp2_with (first | ((with_reducible refine gate_dst (N := 9) rfl ?_); (try (refine gate_guard (by rfl) ?_; dsimp only)); go_loud (refine goesL_ (some 9) rfl rfl Try.func45 (by kernel_rfl) rfl #[.int .i64 0] rfl (by (try simp only [List.map_toArray, List.map_cons, List.map_nil]); first | done | rfl | (simp only [List.length_drop, List.length_take]; rfl)) ?_; refine (tside 0 _).mono ?_; rintro e w2 ⟨rfl, hbl⟩; refine ⟨_, rfl, ?_⟩; rw [HS.out]; have HD' := Aside0.mk (HD.out.below hbl); have HB' := Aside0.mk (below_step HB.out hbl); clear HD HB hbl; have HD := HD'; have HB := HB'; clear HD' HB'; obtain ⟨hg, A0, c0, A1, c1, hG, h0, h1⟩ := HD.out.op; have HC := Aside0.mk (Kd.R_reads' h0).2.2; obtain ⟨z0, z1, z2, z3, z4, z5, z6, z7, z8, z9, zf⟩ := cells10 hG; clear hG h0 h1 hg HD)) | ((with_reducible refine gate_dst (N := 19) rfl ?_); (try (refine gate_guard (by rfl) ?_; dsimp only)); go_loud (refine goesL_ (some 19) rfl rfl Try.func47 (by kernel_rfl) rfl #[.slice A0 b0.length c0] rfl (by (try simp only [List.map_toArray, List.map_cons, List.map_nil]); first | done | rfl | (simp only [List.length_drop, List.length_take]; rfl)) ?_; refine (tclone A0 c0 b0 _ HC.out (by omega)).mono ?_; rintro e w3 ⟨v, rfl, ho, hbl⟩; refine ⟨_, rfl, ?_⟩; have HO := Aside0.mk (Kd.R_lower ho HB.out.size); have HB' := Aside0.mk (below_step HB.out hbl); clear ho hbl)))
  go_ret
  exact ⟨_, rfl, HO.out, HB'.out⟩

set_option maxHeartbeats 1000000 in
theorem tread1 (g : Nat) (ok : Nat → Prop) (room : Int) (b0 : List Int) (s0 : Nat) (b1 : List Int) (s1 : Nat) (cat keep : Int) (armed down : Bool) (ops : Int) (w : World) (h : IsD w ok g ⟨room, b0, s0, b1, s1, cat, keep, armed, down, ops⟩) (hw : b1.length ≤ 140737488351232) : Calls Try.prog 16 #[.pointer (some ⟨g, 0, none⟩), .int .i64 1] w fun e w' => ∃ v : Value, e = .returned v ∧ Kd.R (Kd.int .u8) 5 w' w.heap.size (fun _ => True) v b1 ∧ Below w.heap.size w w' := by
  have HB := Aside0.mk (Below.refl w.heap.size w)
  have HD := Aside0.mk h
  have HS := Aside0.mk (show sideB 1 = true by decide)
  clear h
  go_enter Try.func16, Try.ntmps16
  go_wp2_with (first | ((with_reducible refine gate_dst (N := 9) rfl ?_); (try (refine gate_guard (by rfl) ?_; dsimp only)); go_loud (refine goesL_ (some 9) rfl rfl Try.func45 (by kernel_rfl) rfl #[.int .i64 1] rfl (by (try simp only [List.map_toArray, List.map_cons, List.map_nil]); first | done | rfl | (simp only [List.length_drop, List.length_take]; rfl)) ?_; refine (tside 1 _).mono ?_; rintro e w2 ⟨rfl, hbl⟩; refine ⟨_, rfl, ?_⟩; rw [HS.out]; have HD' := Aside0.mk (HD.out.below hbl); have HB' := Aside0.mk (below_step HB.out hbl); clear HD HB hbl; have HD := HD'; have HB := HB'; clear HD' HB'; obtain ⟨hg, A0, c0, A1, c1, hG, h0, h1⟩ := HD.out.op; have HC := Aside0.mk (Kd.R_reads' h1).2.2; obtain ⟨z0, z1, z2, z3, z4, z5, z6, z7, z8, z9, zf⟩ := cells10 hG; clear hG h0 h1 hg HD)) | ((with_reducible refine gate_dst (N := 19) rfl ?_); (try (refine gate_guard (by rfl) ?_; dsimp only)); go_loud (refine goesL_ (some 19) rfl rfl Try.func47 (by kernel_rfl) rfl #[.slice A1 b1.length c1] rfl (by (try simp only [List.map_toArray, List.map_cons, List.map_nil]); first | done | rfl | (simp only [List.length_drop, List.length_take]; rfl)) ?_; refine (tclone A1 c1 b1 _ HC.out (by omega)).mono ?_; rintro e w3 ⟨v, rfl, ho, hbl⟩; refine ⟨_, rfl, ?_⟩; have HO := Aside0.mk (Kd.R_lower ho HB.out.size); have HB' := Aside0.mk (below_step HB.out hbl); clear ho hbl)))
  go_ret
  exact ⟨_, rfl, HO.out, HB'.out⟩

/-- Read: new memory. -/
theorem tread (g : Nat) (ok : Nat → Prop) (D : Dk) (side : Int) (w : World) (h : IsD w ok g D) (h0 : D.b0.length ≤ 140737488351232) (h1 : D.b1.length ≤ 140737488351232) : Calls Try.prog 16 #[.pointer (some ⟨g, 0, none⟩), .int .i64 side] w fun e w' => ∃ v : Value, e = .returned v ∧ Kd.R (Kd.int .u8) 5 w' w.heap.size (fun _ => True) v (D.read side) ∧ Below w.heap.size w w' := by
  unfold Dk.read
  by_cases e0 : side = 0
  · subst e0
    rw [if_pos rfl]
    exact tread0 g ok D.room D.b0 D.s0 D.b1 D.s1 D.cat D.keep D.armed D.down D.ops w h h0
  · rw [if_neg e0]
    by_cases e1 : side = 1
    · subst e1
      rw [if_pos rfl]
      exact tread1 g ok D.room D.b0 D.s0 D.b1 D.s1 D.cat D.keep D.armed D.down D.ops w h h1
    · rw [if_neg e1]
      refine tread_no g side w ?_
      rcases (show side < 0 ∨ 2 ≤ side by omega) with h' | h'
      · exact sideB_lo h'
      · exact sideB_hi h'
end Go.Proofs.Ythaeppjhmjpecaa.B
