/- TapeWhere: the walk. -/
import Derived.Lib.SlBytesConst
import Derived.Test.YthaeppjhmjpecaaT7
namespace Go.Proofs.Ythaeppjhmjpecaa.B
open Go.RowKit Go.Proofs.YthaeppjhmjpecaaW.PrintWords Go.Proofs.YthaeppjhmjpecaaW.PrintLast Go.Proofs.YthaeppjhmjpecaaW.PrintMore
attribute [local go_sem] max2_int min2_int max_two min_two max_three min_three max_four min_four
set_option linter.unusedVariables false
set_option linter.unusedSimpArgs false

/-- A deck of room 1000 of whose rows nothing is synced, so and so long at most. -/
def InvW (W : World) (ok : Nat → Prop) (g : Nat) (cat : Int) (armed down : Bool) (ops : Int) (m : Nat) : Prop := ∃ b0 b1, IsD W ok g ⟨1000, b0, 0, b1, 0, cat, 0, armed, down, ops⟩ ∧ b0.length ≤ m ∧ b1.length ≤ m
def wDown (n : Nat) (t : Int) (i : Nat) : Bool := decide (0 < i ∧ t < n + i)
def wOps (n : Nat) (t : Int) (i : Nat) : Int := if wDown n t i = true then (if (n : Int) < t then t else n) else n + i
theorem app_one {b0 b1 : List Int} {cat op x : Int} {armed : Bool} {s : Int} {m : Nat} (h0 : b0.length ≤ m) (h1 : b1.length ≤ m) (hm : m ≤ 100) (hs : s = 0 ∨ s = 1) (hh : Dk.hit ⟨1000, b0, 0, b1, 0, cat, 0, armed, false, op⟩ = false) :
    Dk.appE ⟨1000, b0, 0, b1, 0, cat, 0, armed, false, op⟩ s [x] = 0 ∧ ∃ c0 c1, Dk.app ⟨1000, b0, 0, b1, 0, cat, 0, armed, false, op⟩ s [x] = ⟨1000, c0, 0, c1, 0, cat, 0, armed, false, op + 1⟩ ∧ c0.length ≤ m + 1 ∧ c1.length ≤ m + 1 := by
  rcases hs with rfl | rfl
  · have e := app_ok0 (D := ⟨1000, b0, 0, b1, 0, cat, 0, armed, false, op⟩) (l := [x]) rfl (show ¬ (1000 : Int) - (b0.length : Int) < (([x].length : Nat) : Int) by simp; omega) hh
    exact ⟨e.1, b0 ++ [x], b1, e.2, by simp; omega, by omega⟩
  · have e := app_ok1 (D := ⟨1000, b0, 0, b1, 0, cat, 0, armed, false, op⟩) (l := [x]) rfl (show ¬ (1000 : Int) - (b1.length : Int) < (([x].length : Nat) : Int) by simp; omega) hh
    exact ⟨e.1, b0, b1 ++ [x], e.2, by omega, by simp; omega⟩
theorem app_two {b0 b1 : List Int} {cat op x : Int} {armed : Bool} {s : Int} {m : Nat} (h0 : b0.length ≤ m) (h1 : b1.length ≤ m) (hm : m ≤ 100) (hs : s = 0 ∨ s = 1) (hh : Dk.hit ⟨1000, b0, 0, b1, 0, cat, 0, armed, false, op⟩ = true) :
    Dk.appE ⟨1000, b0, 0, b1, 0, cat, 0, armed, false, op⟩ s [x] = 11 ∧ ∃ c0 c1, Dk.app ⟨1000, b0, 0, b1, 0, cat, 0, armed, false, op⟩ s [x] = ⟨1000, c0, 0, c1, 0, cat, 0, armed, true, op⟩ ∧ c0.length ≤ m + 1 ∧ c1.length ≤ m + 1 := by
  have e := app_hit (D := ⟨1000, b0, 0, b1, 0, cat, 0, armed, false, op⟩) (side := s) (l := [x]) rfl (by rcases hs with rfl | rfl <;> decide) (show ¬ (1000 : Int) - Dk.len ⟨1000, b0, 0, b1, 0, cat, 0, armed, false, op⟩ s < (([x].length : Nat) : Int) by rcases hs with rfl | rfl <;> simp [Dk.len] <;> omega) hh
  refine ⟨e.1, [], [], e.2.trans ?_, Nat.zero_le _, Nat.zero_le _⟩
  unfold Dk.crash
  simp [Dk.k0, Dk.k1]
theorem side_mod (i : Nat) : (i : Int) % 2 = 0 ∨ (i : Int) % 2 = 1 := by omega
/-- One more byte on a deck that does not crash. -/
theorem tput (g : Nat) (ok : Nat → Prop) (cat op x : Int) (armed : Bool) (s : Int) (m c : Nat) (A : Option Addr) (w : World) (h : InvW w ok g cat armed false op m) (hm : m ≤ 100) (ho : 0 ≤ op ∧ op < 100000) (hs : s = 0 ∨ s = 1) (hh : armed = true → op < cat) (hC : Kd.C (Kd.int .u8) w A 1 [x]) (hA : ∀ ad, A = some ad → ad.block ≠ g) (hok : ∀ k, w.heap.size ≤ k → ok k) :
    Calls Try.prog 15 #[.pointer (some ⟨g, 0, none⟩), .int .i64 s, .slice A 1 c] w fun e w' => e = .returned (.int .i64 0) ∧ InvW w' ok g cat armed false (op + 1) (m + 1) ∧ Fr ok w w' := by
  obtain ⟨b0, b1, hD, h0, h1⟩ := h
  have hit : Dk.hit ⟨1000, b0, 0, b1, 0, cat, 0, armed, false, op⟩ = false := by
    unfold Dk.hit
    cases armed with
    | false => rfl
    | true =>
      have := hh rfl
      show (true && decide (cat ≤ op)) = false
      rw [decide_eq_false (by omega)]
      rfl
  obtain ⟨e0, c0, c1, e1, hc0, hc1⟩ := app_one (x := x) h0 h1 hm hs hit
  refine (tapp g ok _ s A c [x] w hD ⟨Nat.zero_le _, Nat.zero_le _, show (b0.length : Int) ≤ 1000 by omega, show (b1.length : Int) ≤ 1000 by omega, show (1000 : Int) ≤ 200000 by decide, ho.1, show op < 1000000 by omega, show (-9223372036854775808 : Int) ≤ 0 by decide, show (0 : Int) < 9223372036854775808 by decide⟩ hC (show 1 ≤ 140737488351232 by decide) (fun ad e _ => hA ad e) hok).mono ?_
  rintro e w' ⟨rfl, hD', hf⟩
  rw [e0]
  rw [e1] at hD'
  exact ⟨rfl, ⟨c0, c1, hD', hc0, hc1⟩, hf⟩
theorem tputX (g : Nat) (ok : Nat → Prop) (cat op x : Int) (s : Int) (m c : Nat) (A : Option Addr) (w : World) (h : InvW w ok g cat true false op m) (hm : m ≤ 100) (ho : 0 ≤ op ∧ op < 100000) (hs : s = 0 ∨ s = 1) (hh : cat ≤ op) (hC : Kd.C (Kd.int .u8) w A 1 [x]) (hA : ∀ ad, A = some ad → ad.block ≠ g) (hok : ∀ k, w.heap.size ≤ k → ok k) :
    Calls Try.prog 15 #[.pointer (some ⟨g, 0, none⟩), .int .i64 s, .slice A 1 c] w fun e w' => e = .returned (.int .i64 11) ∧ InvW w' ok g cat true true op (m + 1) ∧ Fr ok w w' := by
  obtain ⟨b0, b1, hD, h0, h1⟩ := h
  have hit : Dk.hit ⟨1000, b0, 0, b1, 0, cat, 0, true, false, op⟩ = true := by
    unfold Dk.hit
    show (true && decide (cat ≤ op)) = true
    rw [decide_eq_true hh]
    rfl
  obtain ⟨e0, c0, c1, e1, hc0, hc1⟩ := app_two (x := x) h0 h1 hm hs hit
  refine (tapp g ok _ s A c [x] w hD ⟨Nat.zero_le _, Nat.zero_le _, show (b0.length : Int) ≤ 1000 by omega, show (b1.length : Int) ≤ 1000 by omega, show (1000 : Int) ≤ 200000 by decide, ho.1, show op < 1000000 by omega, show (-9223372036854775808 : Int) ≤ 0 by decide, show (0 : Int) < 9223372036854775808 by decide⟩ hC (show 1 ≤ 140737488351232 by decide) (fun ad e _ => hA ad e) hok).mono ?_
  rintro e w' ⟨rfl, hD', hf⟩
  rw [e0]
  rw [e1] at hD'
  exact ⟨rfl, ⟨c0, c1, hD', hc0, hc1⟩, hf⟩
theorem tputD (g : Nat) (ok : Nat → Prop) (cat op x : Int) (s : Int) (m c : Nat) (A : Option Addr) (w : World) (h : InvW w ok g cat true true op m) (hm : m ≤ 100) (ho : 0 ≤ op ∧ op < 100000) (hC : Kd.C (Kd.int .u8) w A 1 [x]) (hA : ∀ ad, A = some ad → ad.block ≠ g) (hok : ∀ k, w.heap.size ≤ k → ok k) :
    Calls Try.prog 15 #[.pointer (some ⟨g, 0, none⟩), .int .i64 s, .slice A 1 c] w fun e w' => e = .returned (.int .i64 11) ∧ InvW w' ok g cat true true op (m + 1) ∧ Fr ok w w' := by
  obtain ⟨b0, b1, hD, h0, h1⟩ := h
  have e := app_down (D := ⟨1000, b0, 0, b1, 0, cat, 0, true, true, op⟩) (side := s) (l := [x]) rfl
  refine (tapp g ok _ s A c [x] w hD ⟨Nat.zero_le _, Nat.zero_le _, show (b0.length : Int) ≤ 1000 by omega, show (b1.length : Int) ≤ 1000 by omega, show (1000 : Int) ≤ 200000 by decide, ho.1, show op < 1000000 by omega, show (-9223372036854775808 : Int) ≤ 0 by decide, show (0 : Int) < 9223372036854775808 by decide⟩ hC (show 1 ≤ 140737488351232 by decide) (fun ad e _ => hA ad e) hok).mono ?_
  rintro e' w' ⟨rfl, hD', hf⟩
  rw [e.1]
  rw [e.2] at hD'
  exact ⟨rfl, ⟨b0, b1, hD', by omega, by omega⟩, hf⟩
theorem InvW.below {W W' : World} {ok : Nat → Prop} {g : Nat} {cat : Int} {armed down : Bool} {ops : Int} {m : Nat} (h : InvW W ok g cat armed down ops m) (hb : Below W.heap.size W W') : InvW W' ok g cat armed down ops m := by
  obtain ⟨b0, b1, hD, h0, h1⟩ := h
  exact ⟨b0, b1, hD.below hb, h0, h1⟩
theorem InvW.lt {W : World} {ok : Nat → Prop} {g : Nat} {cat : Int} {armed down : Bool} {ops : Int} {m : Nat} (h : InvW W ok g cat armed down ops m) : g < W.heap.size := by
  obtain ⟨b0, b1, hD, h0, h1⟩ := h
  exact hD.lt
theorem tarmW (g : Nat) (ok : Nat → Prop) (x : Int) (ops : Int) (m : Nat) (w : World) (h : InvW w ok g 0 false false ops m) : Calls Try.prog 18 #[.pointer (some ⟨g, 0, none⟩), .agg #[.int .i64 x, .int .i64 0]] w fun e w' => e = .returned (.tuple #[]) ∧ InvW w' ok g x true false ops m ∧ Fr ok w w' := by
  obtain ⟨b0, b1, hD, h0, h1⟩ := h
  refine (tarm g ok _ x 0 w hD).mono ?_
  rintro e w' ⟨rfl, hD', hf⟩
  exact ⟨rfl, ⟨b0, b1, hD', h0, h1⟩, hf⟩
theorem tdownW (g : Nat) (ok : Nat → Prop) (x : Int) (armed down : Bool) (ops : Int) (m : Nat) (w : World) (h : InvW w ok g x armed down ops m) : Calls Try.prog 19 #[.pointer (some ⟨g, 0, none⟩)] w fun e w' => e = .returned (.bool down) ∧ Below w.heap.size w w' := by
  obtain ⟨b0, b1, hD, h0, h1⟩ := h
  exact tdown g ok _ _ _ _ _ _ _ _ _ _ w hD
theorem topsW (g : Nat) (ok : Nat → Prop) (x : Int) (armed down : Bool) (ops : Int) (m : Nat) (w : World) (h : InvW w ok g x armed down ops m) : Calls Try.prog 20 #[.pointer (some ⟨g, 0, none⟩)] w fun e w' => e = .returned (.int .i64 ops) ∧ Below w.heap.size w w' := by
  obtain ⟨b0, b1, hD, h0, h1⟩ := h
  exact tops g ok _ _ _ _ _ _ _ _ _ _ w hD

set_option maxRecDepth 100000 in
set_option maxHeartbeats 4000000 in
theorem lawTWhere (were t more : Int) (w : World) (hwere : -9223372036854775808 ≤ were ∧ were < 9223372036854775808) (ht : -9223372036854775808 ≤ t ∧ t < 9223372036854775808) (hmore : -9223372036854775808 ≤ more ∧ more < 9223372036854775808) :
    Calls Try.prog 4 #[.int .i64 were, .int .i64 t, .int .i64 more] w fun e w' => e = .returned (.bool true) ∧ Below w.heap.size w w' := by
  have kc := fun (w : World) (C : Array Value) (n c : Nat) => Lib.run_convert_bytes_const (P := Try.prog) w 22 5 C n c Try.underlying22 Try.underlying5
  have HB := Aside0.mk (Below.refl w.heap.size w)
  by_cases c1 : were < 0
  · have h0 : decide (were < 0) = true := decide_eq_true c1
    go_enter Try.func4, Try.ntmps4
    go_wp2
    go_ret
    exact ⟨rfl, HB.out⟩
  have h0 : decide (were < 0) = false := decide_eq_false c1
  by_cases c2 : 20 < were
  · have h1 : decide (20 < were) = true := decide_eq_true c2
    go_enter Try.func4, Try.ntmps4
    go_wp2
    go_ret
    exact ⟨rfl, HB.out⟩
  have h1 : decide (20 < were) = false := decide_eq_false c2
  by_cases c3 : more < 0
  · have h2 : decide (more < 0) = true := decide_eq_true c3
    go_enter Try.func4, Try.ntmps4
    go_wp2
    go_ret
    exact ⟨rfl, HB.out⟩
  have h2 : decide (more < 0) = false := decide_eq_false c3
  by_cases c4 : 20 < more
  · have h3 : decide (20 < more) = true := decide_eq_true c4
    go_enter Try.func4, Try.ntmps4
    go_wp2
    go_ret
    exact ⟨rfl, HB.out⟩
  have h3 : decide (20 < more) = false := decide_eq_false c4
  by_cases c5 : 100 < t
  · have h4 : decide (100 < t) = true := decide_eq_true c5
    go_enter Try.func4, Try.ntmps4
    go_wp2
    go_ret
    exact ⟨rfl, HB.out⟩
  have h4 : decide (100 < t) = false := decide_eq_false c5
  obtain ⟨n, rfl⟩ : ∃ n : Nat, were = n := ⟨were.toNat, by omega⟩
  obtain ⟨m, rfl⟩ : ∃ m : Nat, more = m := ⟨more.toNat, by omega⟩
  have hn : n ≤ 20 := by omega
  have hm : m ≤ 20 := by omega
  have htt : t ≤ 100 := by omega
  have ht0 := ht.1
  clear c1 c2 c3 c4 c5 hwere hmore ht
  go_enter Try.func4, Try.ntmps4
  go_wp2_with (first | ((with_reducible refine gate_dst (N := 29) rfl ?_); (try (refine gate_guard (by rfl) ?_; dsimp only)); refine goesL_ (some 29) rfl rfl Try.func14 (by kernel_rfl) rfl #[.int .i64 1000] rfl (by (try simp only [List.map_toArray, List.map_cons, List.map_nil]); first | done | rfl | (simp only [List.length_drop, List.length_take]; rfl)) ?_; refine (tnew 1000 _ (by decide) (by decide) (fun k => w.heap.size ≤ k) (Nat.le_refl _)).mono ?_; rintro e w1 ⟨rfl, hD, hbl⟩; refine ⟨_, rfl, ?_⟩; have HI := Aside0.mk (show InvW w1 (fun k => w.heap.size ≤ k) w.heap.size 0 false false 0 0 from ⟨[], [], hD, Nat.le_refl _, Nat.le_refl _⟩); have HB' := Aside0.mk (below_step HB.out hbl); clear HB hbl hD; have HB := HB'; clear HB'))
  go_loopg [8] n (fun kq v8 w' => ∃ i : Nat, v8 = .int .i64 (i : Int) ∧ i ≤ n ∧ Aside0 (kq + i = n) ∧ Aside0 (InvW w' (fun k => w.heap.size ≤ k) w.heap.size 0 false false (i : Int) i) ∧ Aside0 (Below w.heap.size w w'))
  case atStart => exact ⟨0, rfl, Nat.zero_le _, ⟨rfl⟩, HI, HB⟩
  case round =>
    clear HI HB
    obtain ⟨i, rfl, hi, HK, HI, HB⟩ := hrel
    by_cases c : i < n
    · have cb : decide ((i : Int) < (n : Int)) = true := decide_eq_true (by exact_mod_cast c)
      go_wp2_with (first | ((with_reducible refine gate_dst (N := 40) rfl ?_); (try (refine gate_guard (by rfl) ?_; dsimp only)); refine goesL_ (some 40) rfl rfl Try.func15 (by kernel_rfl) rfl #[.pointer (some ⟨w.heap.size, 0, none⟩), .int .i64 (HMod.hMod (i : Int) (2 : Int) : Int), .slice (some ⟨wr.heap.size, 0, none⟩) 1 1] rfl (by (try simp only [List.map_toArray, List.map_cons, List.map_nil]); first | done | rfl | (simp only [List.length_drop, List.length_take]; rfl)) ?_; refine (tput w.heap.size (fun k => w.heap.size ≤ k) 0 (i : Int) 120 false (HMod.hMod (i : Int) (2 : Int) : Int) i 1 (some ⟨wr.heap.size, 0, none⟩) _ (HI.out.below (below_alloc (Below.refl _ _) _)) (by omega) (by omega) (side_mod i) (fun h => by cases h) (C_const wr [120] _ _ _ rfl (by decide)) (fun ad e => by cases e; exact Nat.ne_of_gt HI.out.lt) (fun k hk => Nat.le_trans (below_alloc HB.out _).size hk)).mono ?_; rintro e w2 ⟨rfl, hI, hfr⟩; refine ⟨_, rfl, ?_⟩; have HI1 := Aside0.mk hI; have HB1 := Aside0.mk (Fr.below' hfr (below_alloc HB.out _) (fun _ h => h)); clear hI hfr))
      go_roundg (n - (i + 1))
      case measure => have := HK.out; omega
      case rel => exact ⟨i + 1, by go_num, by omega, ⟨by omega⟩, ⟨HI1.out⟩, HB1⟩
    · have cb : decide ((i : Int) < (n : Int)) = false := decide_eq_false (by omega)
      have hin : i = n := by omega
      subst hin
      clear c
      go_wp2_with (first | ((with_reducible refine gate_dst (N := 44) rfl ?_); (try (refine gate_guard (by rfl) ?_; dsimp only)); refine goesL_ (some 44) rfl rfl Try.func18 (by kernel_rfl) rfl #[.pointer (some ⟨w.heap.size, 0, none⟩), .agg #[.int .i64 t, .int .i64 0]] rfl (by (try simp only [List.map_toArray, List.map_cons, List.map_nil]); first | done | rfl | (simp only [List.length_drop, List.length_take]; rfl)) ?_; refine (tarmW w.heap.size (fun k => w.heap.size ≤ k) t (i : Int) i _ HI.out).mono ?_; rintro e w3 ⟨rfl, hI, hfr⟩; refine ⟨_, rfl, ?_⟩; have HI3 := Aside0.mk hI; have HB3 := Aside0.mk (Fr.below' hfr HB.out (fun _ h => h)); clear hI hfr HI HB))
      have e0 : wDown i t 0 = false := by unfold wDown; simp
      have HI4 := Aside0.mk (show InvW w3 (fun k => w.heap.size ≤ k) w.heap.size t true (wDown i t 0) (wOps i t 0) (i + 0) by unfold wOps; rw [e0]; simpa using HI3.out)
      clear e0 HI3 hi HK
      go_loopg [9] m (fun kq v9 w' => ∃ j : Nat, v9 = .int .i64 (j : Int) ∧ j ≤ m ∧ Aside0 (kq + j = m) ∧ Aside0 (InvW w' (fun k => w.heap.size ≤ k) w.heap.size t true (wDown i t j) (wOps i t j) (i + j)) ∧ Aside0 (Below w.heap.size w w'))
      case atStart => exact ⟨0, rfl, Nat.zero_le _, ⟨rfl⟩, HI4, HB3⟩
      case round =>
        clear HI4 HB3
        obtain ⟨j, rfl, hj, HK, HI, HB⟩ := hrel
        by_cases c : j < m
        · have cb : decide ((j : Int) < (m : Int)) = true := decide_eq_true (by exact_mod_cast c)
          cases hd : wDown i t j with
          | true =>
            have hd1 : 0 < j ∧ t < (i : Int) + j := of_decide_eq_true hd
            have e1 : wDown i t (j + 1) = true := decide_eq_true ⟨by omega, by omega⟩
            obtain ⟨X, hX⟩ : ∃ X, wOps i t j = X := ⟨_, rfl⟩
            have hXv : 0 ≤ X ∧ X < 100000 := by rw [← hX]; unfold wOps; rw [if_pos hd]; split <;> omega
            have e2 : wOps i t (j + 1) = X := by rw [← hX]; unfold wOps; rw [if_pos hd, if_pos e1]
            have hI := HI.out
            rw [hd, hX] at hI
            clear HI
            have HI := Aside0.mk hI
            have HE := Aside0.mk (And.intro e1 e2)
            have hge : decide (t ≤ (i : Int) + (j : Int)) = true := decide_eq_true (by omega)
            clear hI e1 e2 hd hX hd1
            go_wp2_with (first | ((with_reducible refine gate_dst (N := 55) rfl ?_); (try (refine gate_guard (by rfl) ?_; dsimp only)); refine goesL_ (some 55) rfl rfl Try.func15 (by kernel_rfl) rfl #[.pointer (some ⟨w.heap.size, 0, none⟩), .int .i64 (HMod.hMod (j : Int) (2 : Int) : Int), .slice (some ⟨wr.heap.size, 0, none⟩) 1 1] rfl (by (try simp only [List.map_toArray, List.map_cons, List.map_nil]); first | done | rfl | (simp only [List.length_drop, List.length_take]; rfl)) ?_; refine (tputD w.heap.size (fun k => w.heap.size ≤ k) t X 121 (HMod.hMod (j : Int) (2 : Int) : Int) (i + j) 1 (some ⟨wr.heap.size, 0, none⟩) _ (HI.out.below (below_alloc (Below.refl _ _) _)) (by omega) (by omega) (C_const wr [121] _ _ _ rfl (by decide)) (fun ad e => by cases e; exact Nat.ne_of_gt HI.out.lt) (fun k hk => Nat.le_trans (below_alloc HB.out _).size hk)).mono ?_; rintro e w2 ⟨rfl, hI, hfr⟩; refine ⟨_, rfl, ?_⟩; have HI1 := Aside0.mk hI; have HB1 := Aside0.mk (Fr.below' hfr (below_alloc HB.out _) (fun _ h => h)); clear hI hfr))
            go_roundg (m - (j + 1))
            case measure => have := HK.out; omega
            case rel => exact ⟨j + 1, by go_num, by omega, ⟨by omega⟩, ⟨by rw [HE.out.1, HE.out.2]; exact HI1.out⟩, HB1⟩
          | false =>
            have hd1 : ¬ (0 < j ∧ t < (i : Int) + j) := of_decide_eq_false hd
            have hX : wOps i t j = (i : Int) + j := by unfold wOps; rw [hd]; rfl
            have hI := HI.out
            rw [hd, hX] at hI
            clear HI
            have HI := Aside0.mk hI
            by_cases c2 : t ≤ (i : Int) + j
            · have hge : decide (t ≤ (i : Int) + (j : Int)) = true := decide_eq_true c2
              have e1 : wDown i t (j + 1) = true := decide_eq_true ⟨by omega, by omega⟩
              have e2 : wOps i t (j + 1) = (i : Int) + j := by unfold wOps; rw [if_pos e1]; split <;> omega
              have HE := Aside0.mk (And.intro e1 e2)
              have HC := Aside0.mk c2
              clear hI e1 e2 hd hX hd1 c2
              go_wp2_with (first | ((with_reducible refine gate_dst (N := 55) rfl ?_); (try (refine gate_guard (by rfl) ?_; dsimp only)); refine goesL_ (some 55) rfl rfl Try.func15 (by kernel_rfl) rfl #[.pointer (some ⟨w.heap.size, 0, none⟩), .int .i64 (HMod.hMod (j : Int) (2 : Int) : Int), .slice (some ⟨wr.heap.size, 0, none⟩) 1 1] rfl (by (try simp only [List.map_toArray, List.map_cons, List.map_nil]); first | done | rfl | (simp only [List.length_drop, List.length_take]; rfl)) ?_; refine (tputX w.heap.size (fun k => w.heap.size ≤ k) t ((i : Int) + j) 121 (HMod.hMod (j : Int) (2 : Int) : Int) (i + j) 1 (some ⟨wr.heap.size, 0, none⟩) _ (HI.out.below (below_alloc (Below.refl _ _) _)) (by omega) (by omega) (side_mod j) HC.out (C_const wr [121] _ _ _ rfl (by decide)) (fun ad e => by cases e; exact Nat.ne_of_gt HI.out.lt) (fun k hk => Nat.le_trans (below_alloc HB.out _).size hk)).mono ?_; rintro e w2 ⟨rfl, hI, hfr⟩; refine ⟨_, rfl, ?_⟩; have HI1 := Aside0.mk hI; have HB1 := Aside0.mk (Fr.below' hfr (below_alloc HB.out _) (fun _ h => h)); clear hI hfr))
              go_roundg (m - (j + 1))
              case measure => have := HK.out; omega
              case rel => exact ⟨j + 1, by go_num, by omega, ⟨by omega⟩, ⟨by rw [HE.out.1, HE.out.2]; exact HI1.out⟩, HB1⟩
            · have hge : decide (t ≤ (i : Int) + (j : Int)) = false := decide_eq_false c2
              have e1 : wDown i t (j + 1) = false := decide_eq_false (by omega)
              have e2 : wOps i t (j + 1) = (i : Int) + j + 1 := by unfold wOps; rw [e1]; simp; omega
              have HE := Aside0.mk (And.intro e1 e2)
              have HC := Aside0.mk (show (i : Int) + j < t by omega)
              clear hI e1 e2 hd hX hd1 c2
              go_wp2_with (first | ((with_reducible refine gate_dst (N := 55) rfl ?_); (try (refine gate_guard (by rfl) ?_; dsimp only)); refine goesL_ (some 55) rfl rfl Try.func15 (by kernel_rfl) rfl #[.pointer (some ⟨w.heap.size, 0, none⟩), .int .i64 (HMod.hMod (j : Int) (2 : Int) : Int), .slice (some ⟨wr.heap.size, 0, none⟩) 1 1] rfl (by (try simp only [List.map_toArray, List.map_cons, List.map_nil]); first | done | rfl | (simp only [List.length_drop, List.length_take]; rfl)) ?_; refine (tput w.heap.size (fun k => w.heap.size ≤ k) t ((i : Int) + j) 121 true (HMod.hMod (j : Int) (2 : Int) : Int) (i + j) 1 (some ⟨wr.heap.size, 0, none⟩) _ (HI.out.below (below_alloc (Below.refl _ _) _)) (by omega) (by omega) (side_mod j) (fun _ => HC.out) (C_const wr [121] _ _ _ rfl (by decide)) (fun ad e => by cases e; exact Nat.ne_of_gt HI.out.lt) (fun k hk => Nat.le_trans (below_alloc HB.out _).size hk)).mono ?_; rintro e w2 ⟨rfl, hI, hfr⟩; refine ⟨_, rfl, ?_⟩; have HI1 := Aside0.mk hI; have HB1 := Aside0.mk (Fr.below' hfr (below_alloc HB.out _) (fun _ h => h)); clear hI hfr))
              go_roundg (m - (j + 1))
              case measure => have := HK.out; omega
              case rel => exact ⟨j + 1, by go_num, by omega, ⟨by omega⟩, ⟨by rw [HE.out.1, HE.out.2]; exact HI1.out⟩, HB1⟩
        · have cb : decide ((j : Int) < (m : Int)) = false := decide_eq_false (by omega)
          have hjm : j = m := by omega
          subst hjm
          obtain ⟨X, hX⟩ : ∃ X, wOps i t j = X := ⟨_, rfl⟩
          obtain ⟨M, hM⟩ : ∃ M, (if (i : Int) < t then t else (i : Int)) = M := ⟨_, rfl⟩
          have hMM : (i : Int) ≤ M ∧ t ≤ M ∧ (M = i ∨ M = t) := by rw [← hM]; split <;> omega
          have hI := HI.out
          rw [hX] at hI
          cases hd : wDown i t j with
          | true =>
            have hd1 : 0 < j ∧ t < (i : Int) + j := of_decide_eq_true hd
            have hXM : X = M := by rw [← hX, ← hM]; unfold wOps; rw [if_pos hd]
            have hmn : (if M < (i : Int) + (j : Int) then M else (i : Int) + (j : Int)) = X := by rw [hXM]; split <;> omega
            have g1 : decide (0 < (j : Int)) = true := decide_eq_true (by omega)
            have g1n : decide (0 < j) = true := decide_eq_true hd1.1
            have g2 : decide (t < (i : Int) + (j : Int)) = true := decide_eq_true hd1.2
            rw [hd] at hI
            clear HI
            have HI := Aside0.mk hI
            clear hI hd hX hd1 hXM c hMM
            go_wp2_with (first | ((with_reducible refine gate_dst (N := 65) rfl ?_); (try (refine gate_guard (by rfl) ?_; dsimp only)); refine goesL_ (some 65) rfl rfl Try.func19 (by kernel_rfl) rfl #[.pointer (some ⟨w.heap.size, 0, none⟩)] rfl (by (try simp only [List.map_toArray, List.map_cons, List.map_nil]); first | done | rfl | (simp only [List.length_drop, List.length_take]; rfl)) ?_; refine (tdownW w.heap.size (fun k => w.heap.size ≤ k) t true _ X (i + j) _ HI.out).mono ?_; rintro e w4 ⟨rfl, hbl⟩; refine ⟨_, rfl, ?_⟩; have HI' := Aside0.mk (HI.out.below hbl); have HB' := Aside0.mk (below_step HB.out hbl); clear HI HB hbl; have HI := HI'; have HB := HB'; clear HI' HB') | ((with_reducible refine gate_dst (N := 78) rfl ?_); (try (refine gate_guard (by rfl) ?_; dsimp only)); refine goesL_ (some 78) rfl rfl Try.func20 (by kernel_rfl) rfl #[.pointer (some ⟨w.heap.size, 0, none⟩)] rfl (by (try simp only [List.map_toArray, List.map_cons, List.map_nil]); first | done | rfl | (simp only [List.length_drop, List.length_take]; rfl)) ?_; refine (topsW w.heap.size (fun k => w.heap.size ≤ k) t true _ X (i + j) _ HI.out).mono ?_; rintro e w5 ⟨rfl, hbl⟩; refine ⟨_, rfl, ?_⟩; have HI' := Aside0.mk (HI.out.below hbl); have HB' := Aside0.mk (below_step HB.out hbl); clear HI HB hbl; have HI := HI'; have HB := HB'; clear HI' HB') | ((with_reducible refine gate_dst (N := 89) rfl ?_); (try (refine gate_guard (by rfl) ?_; dsimp only)); refine goesL_ (some 89) rfl rfl Try.func17 (by kernel_rfl) rfl #[] rfl (by (try simp only [List.map_toArray, List.map_cons, List.map_nil]); first | done | rfl | (simp only [List.length_drop, List.length_take]; rfl)) ?_; refine (known4 _).mono ?_; rintro e w6 ⟨rfl, hbl⟩; refine ⟨_, rfl, ?_⟩; have HI' := Aside0.mk (HI.out.below hbl); have HB' := Aside0.mk (below_step HB.out hbl); clear HI HB hbl; have HI := HI'; have HB := HB'; clear HI' HB'))
            go_ret
            exact ⟨rfl, HB.out⟩
          | false =>
            have hd1 : ¬ (0 < j ∧ t < (i : Int) + j) := of_decide_eq_false hd
            have hXv : X = (i : Int) + j := by rw [← hX]; unfold wOps; rw [hd]; rfl
            have hmn : (if M < (i : Int) + (j : Int) then M else (i : Int) + (j : Int)) = X := by rw [hXv]; split <;> omega
            rw [hd] at hI
            clear HI
            have HI := Aside0.mk hI
            by_cases c0 : 0 < j
            · have g1 : decide (0 < (j : Int)) = true := decide_eq_true (by omega)
              have g1n : decide (0 < j) = true := decide_eq_true c0
              have g2 : decide (t < (i : Int) + (j : Int)) = false := decide_eq_false (by omega)
              clear hI hd hX hd1 hXv c c0 hMM
              go_wp2_with (first | ((with_reducible refine gate_dst (N := 65) rfl ?_); (try (refine gate_guard (by rfl) ?_; dsimp only)); refine goesL_ (some 65) rfl rfl Try.func19 (by kernel_rfl) rfl #[.pointer (some ⟨w.heap.size, 0, none⟩)] rfl (by (try simp only [List.map_toArray, List.map_cons, List.map_nil]); first | done | rfl | (simp only [List.length_drop, List.length_take]; rfl)) ?_; refine (tdownW w.heap.size (fun k => w.heap.size ≤ k) t true _ X (i + j) _ HI.out).mono ?_; rintro e w4 ⟨rfl, hbl⟩; refine ⟨_, rfl, ?_⟩; have HI' := Aside0.mk (HI.out.below hbl); have HB' := Aside0.mk (below_step HB.out hbl); clear HI HB hbl; have HI := HI'; have HB := HB'; clear HI' HB') | ((with_reducible refine gate_dst (N := 78) rfl ?_); (try (refine gate_guard (by rfl) ?_; dsimp only)); refine goesL_ (some 78) rfl rfl Try.func20 (by kernel_rfl) rfl #[.pointer (some ⟨w.heap.size, 0, none⟩)] rfl (by (try simp only [List.map_toArray, List.map_cons, List.map_nil]); first | done | rfl | (simp only [List.length_drop, List.length_take]; rfl)) ?_; refine (topsW w.heap.size (fun k => w.heap.size ≤ k) t true _ X (i + j) _ HI.out).mono ?_; rintro e w5 ⟨rfl, hbl⟩; refine ⟨_, rfl, ?_⟩; have HI' := Aside0.mk (HI.out.below hbl); have HB' := Aside0.mk (below_step HB.out hbl); clear HI HB hbl; have HI := HI'; have HB := HB'; clear HI' HB') | ((with_reducible refine gate_dst (N := 89) rfl ?_); (try (refine gate_guard (by rfl) ?_; dsimp only)); refine goesL_ (some 89) rfl rfl Try.func17 (by kernel_rfl) rfl #[] rfl (by (try simp only [List.map_toArray, List.map_cons, List.map_nil]); first | done | rfl | (simp only [List.length_drop, List.length_take]; rfl)) ?_; refine (known4 _).mono ?_; rintro e w6 ⟨rfl, hbl⟩; refine ⟨_, rfl, ?_⟩; have HI' := Aside0.mk (HI.out.below hbl); have HB' := Aside0.mk (below_step HB.out hbl); clear HI HB hbl; have HI := HI'; have HB := HB'; clear HI' HB'))
              go_ret
              exact ⟨rfl, HB.out⟩
            · have g1 : decide (0 < (j : Int)) = false := decide_eq_false (by omega)
              have g1n : decide (0 < j) = false := decide_eq_false c0
              clear hI hd hX hd1 hXv c c0 hMM
              go_wp2_with (first | ((with_reducible refine gate_dst (N := 65) rfl ?_); (try (refine gate_guard (by rfl) ?_; dsimp only)); refine goesL_ (some 65) rfl rfl Try.func19 (by kernel_rfl) rfl #[.pointer (some ⟨w.heap.size, 0, none⟩)] rfl (by (try simp only [List.map_toArray, List.map_cons, List.map_nil]); first | done | rfl | (simp only [List.length_drop, List.length_take]; rfl)) ?_; refine (tdownW w.heap.size (fun k => w.heap.size ≤ k) t true _ X (i + j) _ HI.out).mono ?_; rintro e w4 ⟨rfl, hbl⟩; refine ⟨_, rfl, ?_⟩; have HI' := Aside0.mk (HI.out.below hbl); have HB' := Aside0.mk (below_step HB.out hbl); clear HI HB hbl; have HI := HI'; have HB := HB'; clear HI' HB') | ((with_reducible refine gate_dst (N := 78) rfl ?_); (try (refine gate_guard (by rfl) ?_; dsimp only)); refine goesL_ (some 78) rfl rfl Try.func20 (by kernel_rfl) rfl #[.pointer (some ⟨w.heap.size, 0, none⟩)] rfl (by (try simp only [List.map_toArray, List.map_cons, List.map_nil]); first | done | rfl | (simp only [List.length_drop, List.length_take]; rfl)) ?_; refine (topsW w.heap.size (fun k => w.heap.size ≤ k) t true _ X (i + j) _ HI.out).mono ?_; rintro e w5 ⟨rfl, hbl⟩; refine ⟨_, rfl, ?_⟩; have HI' := Aside0.mk (HI.out.below hbl); have HB' := Aside0.mk (below_step HB.out hbl); clear HI HB hbl; have HI := HI'; have HB := HB'; clear HI' HB') | ((with_reducible refine gate_dst (N := 89) rfl ?_); (try (refine gate_guard (by rfl) ?_; dsimp only)); refine goesL_ (some 89) rfl rfl Try.func17 (by kernel_rfl) rfl #[] rfl (by (try simp only [List.map_toArray, List.map_cons, List.map_nil]); first | done | rfl | (simp only [List.length_drop, List.length_take]; rfl)) ?_; refine (known4 _).mono ?_; rintro e w6 ⟨rfl, hbl⟩; refine ⟨_, rfl, ?_⟩; have HI' := Aside0.mk (HI.out.below hbl); have HB' := Aside0.mk (below_step HB.out hbl); clear HI HB hbl; have HI := HI'; have HB := HB'; clear HI' HB'))
              go_ret
              exact ⟨rfl, HB.out⟩
end Go.Proofs.Ythaeppjhmjpecaa.B
