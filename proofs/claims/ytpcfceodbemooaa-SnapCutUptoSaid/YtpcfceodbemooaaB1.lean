/- Laws beside the kit's words: make with a capacity; and numbers as bytes, eight each: nothing of the program. -/
import Derived.Test.YtpcfceodbemooaaB0
namespace Go.Proofs.Ytpcfceodbemooaa.B
open Go.RowKit Go.Proofs.YtpcfceodbemooaaW.PrintWords Go.Proofs.YtpcfceodbemooaaW.PrintLast Go.Proofs.YtpcfceodbemooaaW.PrintMore

def errW : Option Int → Value
  | none => .nilIface
  | some c => .iface 0 (.int .i64 c)
theorem errW_none : errW none = .nilIface := rfl
theorem errW_some (c : Int) : errW (some c) = .iface 0 (.int .i64 c) := rfl

theorem info5 : (Try.prog.info? 5).map (fun i => (i.zero, i.size, i.bytes)) = some (some (.int .u8 0), 1, 1) := by kernel_rfl
theorem info2 : (Try.prog.info? 2).map (fun i => (i.zero, i.size, i.bytes)) = some (some (.int .i64 0), 1, 8) := by kernel_rfl
theorem info31 : (Try.prog.info? 31).map (fun i => (i.zero, i.size, i.bytes)) = some (some (.slice none 0 0), 1, 24) := by kernel_rfl
theorem info3 : (Try.prog.info? 3).map (fun i => (i.zero, i.size, i.bytes)) = some (some (.int .i64 0), 1, 8) := by kernel_rfl
def rd_L1 (xs : List (List Int)) (i : Int) : (List Int) := xs.getD i.toNat ([] : List Int)
theorem at_L1 {w : World} {A : Option Addr} {n : Nat} {xs : List (List Int)} (h : Kd.C (Kd.slice 5 (Kd.int .u8)) w A n xs) (i : Int) (h0 : 0 ≤ i) (h1 : i < n) : ∃ ad A0 c0, A = some ad ∧ w.cell? (ad.add i.toNat) = some (.slice A0 (rd_L1 xs i).length c0) ∧ (rd_L1 xs i).length ≤ c0 ∧ (Kd.int .u8).C w A0 (rd_L1 xs i).length (rd_L1 xs i) := by
  obtain ⟨ad, c, e, _, hK, hc0⟩ := Kd.C_get h ([] : List Int) i h0 h1
  have hc : ∀ j u, c[j]? = some u → w.cell? (ad.add (i.toNat * 1 + j)) = some u := hc0
  obtain ⟨A0, c0, rfl, l0, g0⟩ := hK
  exact ⟨ad, A0, c0, e, by have hq := hc 0 _ rfl; rwa [Nat.mul_one, Nat.add_zero] at hq, l0, g0⟩

section
variable {P : Program} {ops : Array Oper} {rest : List Oper} {o : Oper} {a : Act} {Q : Exit → Act → World → Prop}
/-- make([]T, 0, n). -/
theorem R_make0 {α : Type} {enc : α → Value} {h1 : ∀ x, (enc x).oneCell' = true} {w0 W : World} (base e : Nat) (hgd : o.guard = none) (t : TypeId) (x y : Operand) (ho : o.op = .makeSlice t x y) (n : Nat) (m : Int) (hmn : m = n) (hx : a.eval x = .int .i64 0) (hy : a.eval y = .int .i64 m)
    (ht : P.underlying t = some (.slice e)) (z : Value) (bytes : Nat) (hinfo : (P.info? e).map (fun i => (i.zero, i.size, i.bytes)) = some (some z, 1, bytes)) (hb0 : 0 < bytes)
    {ok : Nat → Prop} (hfresh : ok W.heap.size) (hl : bytes * n ≤ 281474976710656) (HB : Below base w0 W) (hbase : base ≤ W.heap.size)
    (h : ∀ v1 w1, (Kd.scalar enc h1).R e w1 base ok v1 [] → Below base w0 w1 → W.grownBy w1 none → (∃ b, v1.ownBlock = some b ∧ W.heap.size ≤ b) → wpList P ops Q rest (a.put o.dst v1) w1) : wpList P ops Q (o :: rest) a W := by
  subst hmn
  obtain ⟨i0, hi, hzz⟩ := Option.map_eq_some_iff.1 hinfo
  simp only [Prod.mk.injEq] at hzz
  obtain ⟨hz0, hz1, hz2⟩ := hzz
  have hm : n ≤ 281474976710656 := Nat.le_trans (Nat.le_mul_of_pos_left _ hb0) hl
  obtain ⟨w', hr, hown, hg⟩ := run_make_own (P := P) W base t e i0 z 1 ht hi hz0 hz1 .i64 .i64 n (by rw [hz2]; exact hl) (by unfold maxLen; omega) hbase
  refine Kd.event_run (v := .slice (some ⟨W.heap.size, 0, none⟩) 0 n) (w1 := w') hgd ?_ (h _ _ ⟨fun k hk => ?_, [], hown, Reps.none _ _⟩ (HB.grown hg hbase (fun k hk => by cases hk)) hg ⟨W.heap.size, by simp [Value.ownBlock], Nat.le_refl _⟩)
  · simp [execOp, ho, hx, hy, hr]
  · have : W.heap.size = k := by simpa [Value.ownBlock] using hk
    subst this
    exact hfresh
end

section
variable {P : Program} {α : Type}
/-- 'xs[lo:hi]' of what is read: the new row under a name, its address a letter. -/
theorem cutM (d : Kd α) (t e : TypeId) {z : Value} {bytes : Nat} (ht : P.underlying t = some (.slice e)) (hinfo : (P.info? e).map (fun i => (i.zero, i.size, i.bytes)) = some (some z, d.sz, bytes)) (kl kh : IntKind) (A : Option Addr) (c : Nat) (xs : List α) (lo hi : Int) (a b : Nat) (ha : lo = a) (hb : hi = b) (hab : a ≤ b) (hbl : b ≤ xs.length) (hc : xs.length ≤ c) :
    ∃ (ys : List α) (A' : Option Addr) (c' : Nat), Aside0 (ys = (xs.take b).drop a) ∧ (∀ W : World, (Instr.slice t (.slice A xs.length c) (some (.int kl lo)) (some (.int kh hi)) none).run P W = .ok (.slice A' ys.length c') W) ∧ Aside0 (∀ w, Kd.C d w A xs.length xs → Kd.C d w A' ys.length ys) ∧ ys.length ≤ c' ∧ Aside0 (A'.map (·.block) = A.map (·.block)) := by
  obtain ⟨i0, hi0, hzz⟩ := Option.map_eq_some_iff.1 hinfo
  simp only [Prod.mk.injEq] at hzz
  obtain ⟨hz0, hz1, hz2⟩ := hzz
  subst ha hb
  have h1 := cut_mid (P := P) t e kl kh ht hi0 d.sz hz1 A xs.length c a b (by omega) (by omega) (by omega) hc
  simp only [Int.toNat_natCast] at h1
  have hl : ((xs.take b).drop a).length = b - a := by rw [List.length_drop, List.length_take]; omega
  refine ⟨(xs.take b).drop a, _, _, ⟨rfl⟩, fun W => by rw [hl]; exact h1 W, ⟨fun w h => Kd.C_mid h hab hbl hc⟩, by rw [hl]; omega, ⟨?_⟩⟩
  split
  · rfl
  · cases A with
    | none => rfl
    | some ad => simp only [Option.map_some, add_block]
theorem cutL (d : Kd α) (t e : TypeId) {z : Value} {bytes : Nat} (ht : P.underlying t = some (.slice e)) (hinfo : (P.info? e).map (fun i => (i.zero, i.size, i.bytes)) = some (some z, d.sz, bytes)) (kl : IntKind) (A : Option Addr) (c : Nat) (xs : List α) (lo : Int) (a : Nat) (ha : lo = a) (hal : a ≤ xs.length) (hc : xs.length ≤ c) :
    ∃ (ys : List α) (A' : Option Addr) (c' : Nat), Aside0 (ys = xs.drop a) ∧ (∀ W : World, (Instr.slice t (.slice A xs.length c) (some (.int kl lo)) none none).run P W = .ok (.slice A' ys.length c') W) ∧ Aside0 (∀ w, Kd.C d w A xs.length xs → Kd.C d w A' ys.length ys) ∧ ys.length ≤ c' ∧ Aside0 (A'.map (·.block) = A.map (·.block)) := by
  obtain ⟨i0, hi0, hzz⟩ := Option.map_eq_some_iff.1 hinfo
  simp only [Prod.mk.injEq] at hzz
  obtain ⟨hz0, hz1, hz2⟩ := hzz
  subst ha
  have h1 := cut_from (P := P) t e kl ht hi0 d.sz hz1 A xs.length c a (by omega) (by omega)
  simp only [Int.toNat_natCast] at h1
  refine ⟨xs.drop a, _, _, ⟨rfl⟩, fun W => by rw [List.length_drop]; exact h1 W, ⟨fun w h => Kd.C_drop h hal hc⟩, by rw [List.length_drop]; omega, ⟨?_⟩⟩
  split
  · rfl
  · cases A with
    | none => rfl
    | some ad => simp only [Option.map_some, add_block]
theorem cutH (d : Kd α) (t e : TypeId) {z : Value} {bytes : Nat} (ht : P.underlying t = some (.slice e)) (hinfo : (P.info? e).map (fun i => (i.zero, i.size, i.bytes)) = some (some z, d.sz, bytes)) (kh : IntKind) (A : Option Addr) (c : Nat) (xs : List α) (hi : Int) (b : Nat) (hb : hi = b) (hbl : b ≤ xs.length) (hc : xs.length ≤ c) :
    ∃ (ys : List α), Aside0 (ys = xs.take b) ∧ (∀ W : World, (Instr.slice t (.slice A xs.length c) none (some (.int kh hi)) none).run P W = .ok (.slice A ys.length c) W) ∧ Aside0 (∀ w, Kd.C d w A xs.length xs → Kd.C d w A ys.length ys) ∧ ys.length ≤ c := by
  obtain ⟨i0, hi0, hzz⟩ := Option.map_eq_some_iff.1 hinfo
  simp only [Prod.mk.injEq] at hzz
  obtain ⟨hz0, hz1, hz2⟩ := hzz
  subst hb
  have h1 := cut_to (P := P) t e kh ht hi0 A xs.length c b (by omega) (by omega) hc
  simp only [Int.toNat_natCast] at h1
  have hl : (xs.take b).length = b := by rw [List.length_take]; omega
  exact ⟨xs.take b, ⟨rfl⟩, fun W => by rw [hl]; exact h1 W, ⟨fun w h => Kd.C_take h hbl⟩, by omega⟩
end
section
variable {P : Program} {ops : Array Oper} {rest : List Oper} {o : Oper} {a : Act} {Q : Exit → Act → World → Prop}
/-- '[]byte(s)'. -/
theorem S_bytes {W : World} (hgd : o.guard = none) (src dst e : TypeId) (x : Operand) (ho : o.op = .convert src dst x) {u : TypeDesc} (hs : P.underlying src = some u) (hd : P.underlying dst = some (.slice e)) (he : P.underlying e = some (.int .u8)) (s : ByteArray) (xs : List Int) (hx : a.eval x = .string s) (hxs : bytesOf s = xs) (hl : xs.length ≤ 9223372036854775807)
    (h : ∀ A c w1, Kd.C (Kd.int .u8) w1 A xs.length xs → xs.length ≤ c → Below W.heap.size W w1 → wpList P ops Q rest (a.put o.dst (.slice A xs.length c)) w1) : wpList P ops Q (o :: rest) a W := by
  have hn : xs.length = s.size := by rw [← hxs, bytesOf_length]
  have hr := print_bytes (P := P) src dst e hs hd he s W
  refine Kd.event_run (v := .slice (some ⟨W.heap.size, 0, none⟩) xs.length (grownCap W s.size 0 e)) (w1 := Lib.bytesWorld W e s) hgd ?_ (h _ _ _ ?_ ?_ ?_)
  · simp [execOp, ho, hx, hr, hn]
  · have := bytes_reads W e s (by omega)
    rw [hxs, ← hn] at this
    exact Kd.C_of_reads (d := (0 : Int)) (h1 := fun _ => rfl) this
  · rw [hn]; exact grownCap_ge _ _ _ _
  · exact bytes_below (Below.refl _ _) (Nat.le_refl _) e s
end
/-- The bytes of a number, the greatest ahead. -/
def be8 (n : Int) : List Int := [n / 2 ^ 56 % 256, n / 2 ^ 48 % 256, n / 2 ^ 40 % 256, n / 2 ^ 32 % 256, n / 2 ^ 24 % 256, n / 2 ^ 16 % 256, n / 2 ^ 8 % 256, n % 256]
/-- Numbers as bytes. -/
def puts (l : List Int) : List Int := l.flatMap be8
theorem be8_length (n : Int) : (be8 n).length = 8 := rfl
theorem puts_nil : puts [] = [] := rfl
theorem puts_cons (n : Int) (l : List Int) : puts (n :: l) = be8 n ++ puts l := rfl
theorem puts_append (a b : List Int) : puts (a ++ b) = puts a ++ puts b := List.flatMap_append
theorem puts_length (l : List Int) : (puts l).length = 8 * l.length := by
  induction l with
  | nil => rfl
  | cons n l ih => rw [puts_cons, List.length_append, ih, be8_length, List.length_cons]; omega
theorem be8_bytes (n : Int) : IsB (be8 n) := fun x hx => by
  simp only [be8, List.mem_cons, List.not_mem_nil, or_false] at hx
  rcases hx with rfl | rfl | rfl | rfl | rfl | rfl | rfl | rfl <;> omega
theorem puts_bytes (l : List Int) : IsB (puts l) := by
  induction l with
  | nil => exact IsB.nil
  | cons n l ih => rw [puts_cons]; exact (be8_bytes n).append ih
theorem puts_take_succ (l : List Int) (k : Nat) (hk : k < l.length) : puts (l.take (k + 1)) = puts (l.take k) ++ be8 (l.getD k 0) := by
  rw [List.take_succ_eq_append_getElem hk, puts_append, List.getD_eq_getElem?_getD, List.getElem?_eq_getElem hk]
  simp [puts]
theorem be8_snoc (n : Int) (j : Nat) (h : j < 8) : (be8 n).take (j + 1) = (be8 n).take j ++ [n / 2 ^ (8 * (7 - j)) % 256] := by
  have : j = 0 ∨ j = 1 ∨ j = 2 ∨ j = 3 ∨ j = 4 ∨ j = 5 ∨ j = 6 ∨ j = 7 := by omega
  rcases this with rfl | rfl | rfl | rfl | rfl | rfl | rfl | rfl <;> simp [be8]
end Go.Proofs.Ytpcfceodbemooaa.B
