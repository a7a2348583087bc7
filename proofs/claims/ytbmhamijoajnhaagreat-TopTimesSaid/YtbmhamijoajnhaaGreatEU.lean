/- TopTimes' call: the pieces, joined. -/
import Derived.Test.YtbmhamijoajnhaaGreatETa
import Derived.Test.YtbmhamijoajnhaaGreatETb
import Derived.Test.YtbmhamijoajnhaaGreatETc
import Derived.Test.YtbmhamijoajnhaaGreatETd
import Derived.KernelRfl
namespace Go.Proofs.YtbmhamijoajnhaaGreat.E
open Go Go.RowKit
set_option maxRecDepth 100000
set_option linter.unusedSimpArgs false
set_option linter.unusedVariables false

def rho (s t a : Int) : Nat → Int := fun i => if i = 0 then s else if i = 1 then t else a
theorem sat4 {s t a : Int} {s0 s1 t0 t1 a0 a1 : Nat} (h1 : (s0 : Int) ≤ s ∧ s ≤ (s1 : Int)) (h2 : (t0 : Int) ≤ t ∧ t ≤ (t1 : Int)) (h3 : (a0 : Int) ≤ a ∧ a ≤ (a1 : Int)) (h : s ≤ t) : (F4 s0 s1 t0 t1 a0 a1).Sat (rho s t a) := by
  refine ⟨(sat_of (bd := (F4 s0 s1 t0 t1 a0 a1).bd) ⟨h1, h2, h3, trivial⟩).1, fun f hf => ?_⟩
  rcases List.mem_cons.1 hf with rfl | hf
  · simp [Lin.val, rho]
    omega
  · cases hf
/-- From a state that is written out TopTimes goes on until it returns true. -/
def Goes4 (s t a : Int) (k : List Item) (ts : List (Nat × AV)) (bs : List (List CV)) : Prop := Good Tryz.prog Tryz.f4 (rho s t a) k (putTs ts) (memOf bs)
theorem gE9 {s t a : Int} (hb : 0 ≤ s ∧ s ≤ 10 ∧ s ≤ t ∧ t ≤ 15 ∧ 0 ≤ a ∧ a ≤ 11) (h : 10 ≤ s) : Goes4 s t a kL2 E9t E9b := by
  exact @Good.finV Tryz.prog (F4 10 10 10 15 0 11) (rho s t a) _ _ Tryz.f4 148 kn1 19 7 _ prog_ok kn_ok hE9 (sat4 (by omega) (by omega) (by omega) (by omega))
theorem gE8 {s t a : Int} (hb : 0 ≤ s ∧ s ≤ 10 ∧ s ≤ t ∧ t ≤ 15 ∧ 0 ≤ a ∧ a ≤ 11) (h : 9 ≤ s) : Goes4 s t a kL2 E8t E8b := by
  by_cases c : s = 9
  · exact @Good.finV Tryz.prog (F4 9 9 9 15 0 11) (rho s t a) _ _ Tryz.f4 148 kn1 19 7 _ prog_ok kn_ok hE8 (sat4 (by omega) (by omega) (by omega) (by omega))
  · exact @Good.seg Tryz.prog (F4 10 10 9 15 0 11) (rho s t a) _ _ Tryz.f4 148 kn1 19 11 _ _ _ _ _ prog_ok kn_ok g61 (sat4 (by omega) (by omega) (by omega) (by omega)) (gE9 hb (by omega))
theorem gE7 {s t a : Int} (hb : 0 ≤ s ∧ s ≤ 10 ∧ s ≤ t ∧ t ≤ 15 ∧ 0 ≤ a ∧ a ≤ 11) (h : 8 ≤ s) : Goes4 s t a kL2 E7t E7b := by
  by_cases c : s = 8
  · exact @Good.finV Tryz.prog (F4 8 8 8 15 0 11) (rho s t a) _ _ Tryz.f4 148 kn1 19 7 _ prog_ok kn_ok hE7 (sat4 (by omega) (by omega) (by omega) (by omega))
  · exact @Good.seg Tryz.prog (F4 9 10 8 15 0 11) (rho s t a) _ _ Tryz.f4 148 kn1 19 11 _ _ _ _ _ prog_ok kn_ok g60 (sat4 (by omega) (by omega) (by omega) (by omega)) (gE8 hb (by omega))
theorem gE6 {s t a : Int} (hb : 0 ≤ s ∧ s ≤ 10 ∧ s ≤ t ∧ t ≤ 15 ∧ 0 ≤ a ∧ a ≤ 11) (h : 7 ≤ s) : Goes4 s t a kL2 E6t E6b := by
  by_cases c : s = 7
  · exact @Good.finV Tryz.prog (F4 7 7 7 15 0 11) (rho s t a) _ _ Tryz.f4 148 kn1 19 7 _ prog_ok kn_ok hE6 (sat4 (by omega) (by omega) (by omega) (by omega))
  · exact @Good.seg Tryz.prog (F4 8 10 7 15 0 11) (rho s t a) _ _ Tryz.f4 148 kn1 19 11 _ _ _ _ _ prog_ok kn_ok g59 (sat4 (by omega) (by omega) (by omega) (by omega)) (gE7 hb (by omega))
theorem gE5 {s t a : Int} (hb : 0 ≤ s ∧ s ≤ 10 ∧ s ≤ t ∧ t ≤ 15 ∧ 0 ≤ a ∧ a ≤ 11) (h : 6 ≤ s) : Goes4 s t a kL2 E5t E5b := by
  by_cases c : s = 6
  · exact @Good.finV Tryz.prog (F4 6 6 6 15 0 11) (rho s t a) _ _ Tryz.f4 148 kn1 19 7 _ prog_ok kn_ok hE5 (sat4 (by omega) (by omega) (by omega) (by omega))
  · exact @Good.seg Tryz.prog (F4 7 10 6 15 0 11) (rho s t a) _ _ Tryz.f4 148 kn1 19 11 _ _ _ _ _ prog_ok kn_ok g58 (sat4 (by omega) (by omega) (by omega) (by omega)) (gE6 hb (by omega))
theorem gE4 {s t a : Int} (hb : 0 ≤ s ∧ s ≤ 10 ∧ s ≤ t ∧ t ≤ 15 ∧ 0 ≤ a ∧ a ≤ 11) (h : 5 ≤ s) : Goes4 s t a kL2 E4t E4b := by
  by_cases c : s = 5
  · exact @Good.finV Tryz.prog (F4 5 5 5 15 0 11) (rho s t a) _ _ Tryz.f4 148 kn1 19 7 _ prog_ok kn_ok hE4 (sat4 (by omega) (by omega) (by omega) (by omega))
  · exact @Good.seg Tryz.prog (F4 6 10 5 15 0 11) (rho s t a) _ _ Tryz.f4 148 kn1 19 11 _ _ _ _ _ prog_ok kn_ok g57 (sat4 (by omega) (by omega) (by omega) (by omega)) (gE5 hb (by omega))
theorem gE3 {s t a : Int} (hb : 0 ≤ s ∧ s ≤ 10 ∧ s ≤ t ∧ t ≤ 15 ∧ 0 ≤ a ∧ a ≤ 11) (h : 4 ≤ s) : Goes4 s t a kL2 E3t E3b := by
  by_cases c : s = 4
  · exact @Good.finV Tryz.prog (F4 4 4 4 15 0 11) (rho s t a) _ _ Tryz.f4 148 kn1 19 7 _ prog_ok kn_ok hE3 (sat4 (by omega) (by omega) (by omega) (by omega))
  · exact @Good.seg Tryz.prog (F4 5 10 4 15 0 11) (rho s t a) _ _ Tryz.f4 148 kn1 19 11 _ _ _ _ _ prog_ok kn_ok g56 (sat4 (by omega) (by omega) (by omega) (by omega)) (gE4 hb (by omega))
theorem gE2 {s t a : Int} (hb : 0 ≤ s ∧ s ≤ 10 ∧ s ≤ t ∧ t ≤ 15 ∧ 0 ≤ a ∧ a ≤ 11) (h : 3 ≤ s) : Goes4 s t a kL2 E2t E2b := by
  by_cases c : s = 3
  · exact @Good.finV Tryz.prog (F4 3 3 3 15 0 11) (rho s t a) _ _ Tryz.f4 148 kn1 19 7 _ prog_ok kn_ok hE2 (sat4 (by omega) (by omega) (by omega) (by omega))
  · exact @Good.seg Tryz.prog (F4 4 10 3 15 0 11) (rho s t a) _ _ Tryz.f4 148 kn1 19 11 _ _ _ _ _ prog_ok kn_ok g55 (sat4 (by omega) (by omega) (by omega) (by omega)) (gE3 hb (by omega))
theorem gE1 {s t a : Int} (hb : 0 ≤ s ∧ s ≤ 10 ∧ s ≤ t ∧ t ≤ 15 ∧ 0 ≤ a ∧ a ≤ 11) (h : 2 ≤ s) : Goes4 s t a kL2 E1t E1b := by
  by_cases c : s = 2
  · exact @Good.finV Tryz.prog (F4 2 2 2 15 0 11) (rho s t a) _ _ Tryz.f4 148 kn1 19 7 _ prog_ok kn_ok hE1 (sat4 (by omega) (by omega) (by omega) (by omega))
  · exact @Good.seg Tryz.prog (F4 3 10 2 15 0 11) (rho s t a) _ _ Tryz.f4 148 kn1 19 11 _ _ _ _ _ prog_ok kn_ok g54 (sat4 (by omega) (by omega) (by omega) (by omega)) (gE2 hb (by omega))
theorem gE0 {s t a : Int} (hb : 0 ≤ s ∧ s ≤ 10 ∧ s ≤ t ∧ t ≤ 15 ∧ 0 ≤ a ∧ a ≤ 11) (h : 1 ≤ s) : Goes4 s t a kL2 E0t E0b := by
  by_cases c : s = 1
  · exact @Good.finV Tryz.prog (F4 1 1 1 15 0 11) (rho s t a) _ _ Tryz.f4 148 kn1 19 7 _ prog_ok kn_ok hE0 (sat4 (by omega) (by omega) (by omega) (by omega))
  · exact @Good.seg Tryz.prog (F4 2 10 1 15 0 11) (rho s t a) _ _ Tryz.f4 148 kn1 19 11 _ _ _ _ _ prog_ok kn_ok g53 (sat4 (by omega) (by omega) (by omega) (by omega)) (gE1 hb (by omega))
theorem gX11 {s t a : Int} (hb : 0 ≤ s ∧ s ≤ 10 ∧ s ≤ t ∧ t ≤ 15 ∧ 0 ≤ a ∧ a ≤ 11) (h : t < 11) (ha : 11 ≤ a) : Goes4 s t a kL1 X11t X11b := by
  exact @Good.finV Tryz.prog (F4 0 10 0 10 11 11) (rho s t a) _ _ Tryz.f4 148 kn1 19 7 _ prog_ok kn_ok hX11 (sat4 (by omega) (by omega) (by omega) (by omega))
theorem gX10 {s t a : Int} (hb : 0 ≤ s ∧ s ≤ 10 ∧ s ≤ t ∧ t ≤ 15 ∧ 0 ≤ a ∧ a ≤ 11) (h : t < 10) (ha : 10 ≤ a) : Goes4 s t a kL1 X10t X10b := by
  by_cases c : a = 10
  · exact @Good.finV Tryz.prog (F4 0 10 0 9 10 10) (rho s t a) _ _ Tryz.f4 148 kn1 19 7 _ prog_ok kn_ok hX10 (sat4 (by omega) (by omega) (by omega) (by omega))
  · exact @Good.seg Tryz.prog (F4 0 10 0 9 11 11) (rho s t a) _ _ Tryz.f4 148 kn1 19 11 _ _ _ _ _ prog_ok kn_ok g52 (sat4 (by omega) (by omega) (by omega) (by omega)) (gX11 hb (by omega) (by omega))
theorem gX9 {s t a : Int} (hb : 0 ≤ s ∧ s ≤ 10 ∧ s ≤ t ∧ t ≤ 15 ∧ 0 ≤ a ∧ a ≤ 11) (h : t < 9) (ha : 9 ≤ a) : Goes4 s t a kL1 X9t X9b := by
  by_cases c : a = 9
  · exact @Good.finV Tryz.prog (F4 0 10 0 8 9 9) (rho s t a) _ _ Tryz.f4 148 kn1 19 7 _ prog_ok kn_ok hX9 (sat4 (by omega) (by omega) (by omega) (by omega))
  · exact @Good.seg Tryz.prog (F4 0 10 0 8 10 11) (rho s t a) _ _ Tryz.f4 148 kn1 19 11 _ _ _ _ _ prog_ok kn_ok g48 (sat4 (by omega) (by omega) (by omega) (by omega)) (gX10 hb (by omega) (by omega))
theorem gX8 {s t a : Int} (hb : 0 ≤ s ∧ s ≤ 10 ∧ s ≤ t ∧ t ≤ 15 ∧ 0 ≤ a ∧ a ≤ 11) (h : t < 8) (ha : 8 ≤ a) : Goes4 s t a kL1 X8t X8b := by
  by_cases c : a = 8
  · exact @Good.finV Tryz.prog (F4 0 10 0 7 8 8) (rho s t a) _ _ Tryz.f4 148 kn1 19 7 _ prog_ok kn_ok hX8 (sat4 (by omega) (by omega) (by omega) (by omega))
  · exact @Good.seg Tryz.prog (F4 0 10 0 7 9 11) (rho s t a) _ _ Tryz.f4 148 kn1 19 11 _ _ _ _ _ prog_ok kn_ok g44 (sat4 (by omega) (by omega) (by omega) (by omega)) (gX9 hb (by omega) (by omega))
theorem gX7 {s t a : Int} (hb : 0 ≤ s ∧ s ≤ 10 ∧ s ≤ t ∧ t ≤ 15 ∧ 0 ≤ a ∧ a ≤ 11) (h : t < 7) (ha : 7 ≤ a) : Goes4 s t a kL1 X7t X7b := by
  by_cases c : a = 7
  · exact @Good.finV Tryz.prog (F4 0 10 0 6 7 7) (rho s t a) _ _ Tryz.f4 148 kn1 19 7 _ prog_ok kn_ok hX7 (sat4 (by omega) (by omega) (by omega) (by omega))
  · exact @Good.seg Tryz.prog (F4 0 10 0 6 8 11) (rho s t a) _ _ Tryz.f4 148 kn1 19 11 _ _ _ _ _ prog_ok kn_ok g39 (sat4 (by omega) (by omega) (by omega) (by omega)) (gX8 hb (by omega) (by omega))
theorem gX6 {s t a : Int} (hb : 0 ≤ s ∧ s ≤ 10 ∧ s ≤ t ∧ t ≤ 15 ∧ 0 ≤ a ∧ a ≤ 11) (h : t < 6) (ha : 6 ≤ a) : Goes4 s t a kL1 X6t X6b := by
  by_cases c : a = 6
  · exact @Good.finV Tryz.prog (F4 0 10 0 5 6 6) (rho s t a) _ _ Tryz.f4 148 kn1 19 7 _ prog_ok kn_ok hX6 (sat4 (by omega) (by omega) (by omega) (by omega))
  · exact @Good.seg Tryz.prog (F4 0 10 0 5 7 11) (rho s t a) _ _ Tryz.f4 148 kn1 19 11 _ _ _ _ _ prog_ok kn_ok g34 (sat4 (by omega) (by omega) (by omega) (by omega)) (gX7 hb (by omega) (by omega))
theorem gX5 {s t a : Int} (hb : 0 ≤ s ∧ s ≤ 10 ∧ s ≤ t ∧ t ≤ 15 ∧ 0 ≤ a ∧ a ≤ 11) (h : t < 5) (ha : 5 ≤ a) : Goes4 s t a kL1 X5t X5b := by
  by_cases c : a = 5
  · exact @Good.finV Tryz.prog (F4 0 10 0 4 5 5) (rho s t a) _ _ Tryz.f4 148 kn1 19 7 _ prog_ok kn_ok hX5 (sat4 (by omega) (by omega) (by omega) (by omega))
  · exact @Good.seg Tryz.prog (F4 0 10 0 4 6 11) (rho s t a) _ _ Tryz.f4 148 kn1 19 11 _ _ _ _ _ prog_ok kn_ok g29 (sat4 (by omega) (by omega) (by omega) (by omega)) (gX6 hb (by omega) (by omega))
theorem gX4 {s t a : Int} (hb : 0 ≤ s ∧ s ≤ 10 ∧ s ≤ t ∧ t ≤ 15 ∧ 0 ≤ a ∧ a ≤ 11) (h : t < 4) (ha : 4 ≤ a) : Goes4 s t a kL1 X4t X4b := by
  by_cases c : a = 4
  · exact @Good.finV Tryz.prog (F4 0 10 0 3 4 4) (rho s t a) _ _ Tryz.f4 148 kn1 19 7 _ prog_ok kn_ok hX4 (sat4 (by omega) (by omega) (by omega) (by omega))
  · exact @Good.seg Tryz.prog (F4 0 10 0 3 5 11) (rho s t a) _ _ Tryz.f4 148 kn1 19 11 _ _ _ _ _ prog_ok kn_ok g24 (sat4 (by omega) (by omega) (by omega) (by omega)) (gX5 hb (by omega) (by omega))
theorem gX3 {s t a : Int} (hb : 0 ≤ s ∧ s ≤ 10 ∧ s ≤ t ∧ t ≤ 15 ∧ 0 ≤ a ∧ a ≤ 11) (h : t < 3) (ha : 3 ≤ a) : Goes4 s t a kL1 X3t X3b := by
  by_cases c : a = 3
  · exact @Good.finV Tryz.prog (F4 0 10 0 2 3 3) (rho s t a) _ _ Tryz.f4 148 kn1 19 7 _ prog_ok kn_ok hX3 (sat4 (by omega) (by omega) (by omega) (by omega))
  · exact @Good.seg Tryz.prog (F4 0 10 0 2 4 11) (rho s t a) _ _ Tryz.f4 148 kn1 19 11 _ _ _ _ _ prog_ok kn_ok g19 (sat4 (by omega) (by omega) (by omega) (by omega)) (gX4 hb (by omega) (by omega))
theorem gX2 {s t a : Int} (hb : 0 ≤ s ∧ s ≤ 10 ∧ s ≤ t ∧ t ≤ 15 ∧ 0 ≤ a ∧ a ≤ 11) (h : t < 2) (ha : 2 ≤ a) : Goes4 s t a kL1 X2t X2b := by
  by_cases c : a = 2
  · exact @Good.finV Tryz.prog (F4 0 10 0 1 2 2) (rho s t a) _ _ Tryz.f4 148 kn1 19 7 _ prog_ok kn_ok hX2 (sat4 (by omega) (by omega) (by omega) (by omega))
  · exact @Good.seg Tryz.prog (F4 0 10 0 1 3 11) (rho s t a) _ _ Tryz.f4 148 kn1 19 11 _ _ _ _ _ prog_ok kn_ok g14 (sat4 (by omega) (by omega) (by omega) (by omega)) (gX3 hb (by omega) (by omega))
theorem gX1 {s t a : Int} (hb : 0 ≤ s ∧ s ≤ 10 ∧ s ≤ t ∧ t ≤ 15 ∧ 0 ≤ a ∧ a ≤ 11) (h : t < 1) (ha : 1 ≤ a) : Goes4 s t a kL1 X1t X1b := by
  by_cases c : a = 1
  · exact @Good.finV Tryz.prog (F4 0 10 0 0 1 1) (rho s t a) _ _ Tryz.f4 148 kn1 19 7 _ prog_ok kn_ok hX1 (sat4 (by omega) (by omega) (by omega) (by omega))
  · exact @Good.seg Tryz.prog (F4 0 10 0 0 2 11) (rho s t a) _ _ Tryz.f4 148 kn1 19 11 _ _ _ _ _ prog_ok kn_ok g9 (sat4 (by omega) (by omega) (by omega) (by omega)) (gX2 hb (by omega) (by omega))
theorem gD11 {s t a : Int} (hb : 0 ≤ s ∧ s ≤ 10 ∧ s ≤ t ∧ t ≤ 15 ∧ 0 ≤ a ∧ a ≤ 11) (h : 11 ≤ t) (ha : 11 ≤ a) : Goes4 s t a kL1 D11t D11b := by
  exact @Good.finV Tryz.prog (F4 0 10 11 15 11 11) (rho s t a) _ _ Tryz.f4 148 kn1 19 7 _ prog_ok kn_ok hD11 (sat4 (by omega) (by omega) (by omega) (by omega))
theorem gD10 {s t a : Int} (hb : 0 ≤ s ∧ s ≤ 10 ∧ s ≤ t ∧ t ≤ 15 ∧ 0 ≤ a ∧ a ≤ 11) (h : 10 ≤ t) (ha : 10 ≤ a) : Goes4 s t a kL1 D10t D10b := by
  by_cases c : a = 10
  · exact @Good.finV Tryz.prog (F4 0 10 10 15 10 10) (rho s t a) _ _ Tryz.f4 148 kn1 19 7 _ prog_ok kn_ok hD10 (sat4 (by omega) (by omega) (by omega) (by omega))
  · by_cases c3 : t = 10
    · exact @Good.seg Tryz.prog (F4 0 10 10 10 11 11) (rho s t a) _ _ Tryz.f4 148 kn1 19 11 _ _ _ _ _ prog_ok kn_ok g50 (sat4 (by omega) (by omega) (by omega) (by omega)) (gX11 hb (by omega) (by omega))
    · exact @Good.seg Tryz.prog (F4 0 10 11 15 11 11) (rho s t a) _ _ Tryz.f4 148 kn1 19 11 _ _ _ _ _ prog_ok kn_ok g51 (sat4 (by omega) (by omega) (by omega) (by omega)) (gD11 hb (by omega) (by omega))
theorem gD9 {s t a : Int} (hb : 0 ≤ s ∧ s ≤ 10 ∧ s ≤ t ∧ t ≤ 15 ∧ 0 ≤ a ∧ a ≤ 11) (h : 9 ≤ t) (ha : 9 ≤ a) : Goes4 s t a kL1 D9t D9b := by
  by_cases c : a = 9
  · by_cases c2 : s ≤ 9
    · exact @Good.finV Tryz.prog (F4 0 9 9 15 9 9) (rho s t a) _ _ Tryz.f4 148 kn1 19 7 _ prog_ok kn_ok hD9 (sat4 (by omega) (by omega) (by omega) (by omega))
    · exact @Good.seg Tryz.prog (F4 10 10 9 15 9 9) (rho s t a) _ _ Tryz.f4 148 kn1 19 30 _ _ _ _ _ prog_ok kn_ok g49 (sat4 (by omega) (by omega) (by omega) (by omega)) (gE9 hb (by omega))
  · by_cases c3 : t = 9
    · exact @Good.seg Tryz.prog (F4 0 10 9 9 10 11) (rho s t a) _ _ Tryz.f4 148 kn1 19 11 _ _ _ _ _ prog_ok kn_ok g46 (sat4 (by omega) (by omega) (by omega) (by omega)) (gX10 hb (by omega) (by omega))
    · exact @Good.seg Tryz.prog (F4 0 10 10 15 10 11) (rho s t a) _ _ Tryz.f4 148 kn1 19 11 _ _ _ _ _ prog_ok kn_ok g47 (sat4 (by omega) (by omega) (by omega) (by omega)) (gD10 hb (by omega) (by omega))
theorem gD8 {s t a : Int} (hb : 0 ≤ s ∧ s ≤ 10 ∧ s ≤ t ∧ t ≤ 15 ∧ 0 ≤ a ∧ a ≤ 11) (h : 8 ≤ t) (ha : 8 ≤ a) : Goes4 s t a kL1 D8t D8b := by
  by_cases c : a = 8
  · by_cases c2 : s ≤ 8
    · exact @Good.finV Tryz.prog (F4 0 8 8 15 8 8) (rho s t a) _ _ Tryz.f4 148 kn1 19 7 _ prog_ok kn_ok hD8 (sat4 (by omega) (by omega) (by omega) (by omega))
    · exact @Good.seg Tryz.prog (F4 9 10 8 15 8 8) (rho s t a) _ _ Tryz.f4 148 kn1 19 30 _ _ _ _ _ prog_ok kn_ok g45 (sat4 (by omega) (by omega) (by omega) (by omega)) (gE8 hb (by omega))
  · by_cases c3 : t = 8
    · exact @Good.seg Tryz.prog (F4 0 10 8 8 9 11) (rho s t a) _ _ Tryz.f4 148 kn1 19 11 _ _ _ _ _ prog_ok kn_ok g41 (sat4 (by omega) (by omega) (by omega) (by omega)) (gX9 hb (by omega) (by omega))
    · by_cases c4 : s ≤ 9
      · exact @Good.seg Tryz.prog (F4 0 9 9 15 9 11) (rho s t a) _ _ Tryz.f4 148 kn1 19 11 _ _ _ _ _ prog_ok kn_ok g42 (sat4 (by omega) (by omega) (by omega) (by omega)) (gD9 hb (by omega) (by omega))
      · exact @Good.seg Tryz.prog (F4 10 10 9 15 9 11) (rho s t a) _ _ Tryz.f4 148 kn1 19 11 _ _ _ _ _ prog_ok kn_ok g43 (sat4 (by omega) (by omega) (by omega) (by omega)) (gD9 hb (by omega) (by omega))
theorem gD7 {s t a : Int} (hb : 0 ≤ s ∧ s ≤ 10 ∧ s ≤ t ∧ t ≤ 15 ∧ 0 ≤ a ∧ a ≤ 11) (h : 7 ≤ t) (ha : 7 ≤ a) : Goes4 s t a kL1 D7t D7b := by
  by_cases c : a = 7
  · by_cases c2 : s ≤ 7
    · exact @Good.finV Tryz.prog (F4 0 7 7 15 7 7) (rho s t a) _ _ Tryz.f4 148 kn1 19 7 _ prog_ok kn_ok hD7 (sat4 (by omega) (by omega) (by omega) (by omega))
    · exact @Good.seg Tryz.prog (F4 8 10 7 15 7 7) (rho s t a) _ _ Tryz.f4 148 kn1 19 30 _ _ _ _ _ prog_ok kn_ok g40 (sat4 (by omega) (by omega) (by omega) (by omega)) (gE7 hb (by omega))
  · by_cases c3 : t = 7
    · exact @Good.seg Tryz.prog (F4 0 10 7 7 8 11) (rho s t a) _ _ Tryz.f4 148 kn1 19 11 _ _ _ _ _ prog_ok kn_ok g36 (sat4 (by omega) (by omega) (by omega) (by omega)) (gX8 hb (by omega) (by omega))
    · by_cases c4 : s ≤ 8
      · exact @Good.seg Tryz.prog (F4 0 8 8 15 8 11) (rho s t a) _ _ Tryz.f4 148 kn1 19 11 _ _ _ _ _ prog_ok kn_ok g37 (sat4 (by omega) (by omega) (by omega) (by omega)) (gD8 hb (by omega) (by omega))
      · exact @Good.seg Tryz.prog (F4 9 10 8 15 8 11) (rho s t a) _ _ Tryz.f4 148 kn1 19 11 _ _ _ _ _ prog_ok kn_ok g38 (sat4 (by omega) (by omega) (by omega) (by omega)) (gD8 hb (by omega) (by omega))
theorem gD6 {s t a : Int} (hb : 0 ≤ s ∧ s ≤ 10 ∧ s ≤ t ∧ t ≤ 15 ∧ 0 ≤ a ∧ a ≤ 11) (h : 6 ≤ t) (ha : 6 ≤ a) : Goes4 s t a kL1 D6t D6b := by
  by_cases c : a = 6
  · by_cases c2 : s ≤ 6
    · exact @Good.finV Tryz.prog (F4 0 6 6 15 6 6) (rho s t a) _ _ Tryz.f4 148 kn1 19 7 _ prog_ok kn_ok hD6 (sat4 (by omega) (by omega) (by omega) (by omega))
    · exact @Good.seg Tryz.prog (F4 7 10 6 15 6 6) (rho s t a) _ _ Tryz.f4 148 kn1 19 30 _ _ _ _ _ prog_ok kn_ok g35 (sat4 (by omega) (by omega) (by omega) (by omega)) (gE6 hb (by omega))
  · by_cases c3 : t = 6
    · exact @Good.seg Tryz.prog (F4 0 10 6 6 7 11) (rho s t a) _ _ Tryz.f4 148 kn1 19 11 _ _ _ _ _ prog_ok kn_ok g31 (sat4 (by omega) (by omega) (by omega) (by omega)) (gX7 hb (by omega) (by omega))
    · by_cases c4 : s ≤ 7
      · exact @Good.seg Tryz.prog (F4 0 7 7 15 7 11) (rho s t a) _ _ Tryz.f4 148 kn1 19 11 _ _ _ _ _ prog_ok kn_ok g32 (sat4 (by omega) (by omega) (by omega) (by omega)) (gD7 hb (by omega) (by omega))
      · exact @Good.seg Tryz.prog (F4 8 10 7 15 7 11) (rho s t a) _ _ Tryz.f4 148 kn1 19 11 _ _ _ _ _ prog_ok kn_ok g33 (sat4 (by omega) (by omega) (by omega) (by omega)) (gD7 hb (by omega) (by omega))
theorem gD5 {s t a : Int} (hb : 0 ≤ s ∧ s ≤ 10 ∧ s ≤ t ∧ t ≤ 15 ∧ 0 ≤ a ∧ a ≤ 11) (h : 5 ≤ t) (ha : 5 ≤ a) : Goes4 s t a kL1 D5t D5b := by
  by_cases c : a = 5
  · by_cases c2 : s ≤ 5
    · exact @Good.finV Tryz.prog (F4 0 5 5 15 5 5) (rho s t a) _ _ Tryz.f4 148 kn1 19 7 _ prog_ok kn_ok hD5 (sat4 (by omega) (by omega) (by omega) (by omega))
    · exact @Good.seg Tryz.prog (F4 6 10 5 15 5 5) (rho s t a) _ _ Tryz.f4 148 kn1 19 30 _ _ _ _ _ prog_ok kn_ok g30 (sat4 (by omega) (by omega) (by omega) (by omega)) (gE5 hb (by omega))
  · by_cases c3 : t = 5
    · exact @Good.seg Tryz.prog (F4 0 10 5 5 6 11) (rho s t a) _ _ Tryz.f4 148 kn1 19 11 _ _ _ _ _ prog_ok kn_ok g26 (sat4 (by omega) (by omega) (by omega) (by omega)) (gX6 hb (by omega) (by omega))
    · by_cases c4 : s ≤ 6
      · exact @Good.seg Tryz.prog (F4 0 6 6 15 6 11) (rho s t a) _ _ Tryz.f4 148 kn1 19 11 _ _ _ _ _ prog_ok kn_ok g27 (sat4 (by omega) (by omega) (by omega) (by omega)) (gD6 hb (by omega) (by omega))
      · exact @Good.seg Tryz.prog (F4 7 10 6 15 6 11) (rho s t a) _ _ Tryz.f4 148 kn1 19 11 _ _ _ _ _ prog_ok kn_ok g28 (sat4 (by omega) (by omega) (by omega) (by omega)) (gD6 hb (by omega) (by omega))
theorem gD4 {s t a : Int} (hb : 0 ≤ s ∧ s ≤ 10 ∧ s ≤ t ∧ t ≤ 15 ∧ 0 ≤ a ∧ a ≤ 11) (h : 4 ≤ t) (ha : 4 ≤ a) : Goes4 s t a kL1 D4t D4b := by
  by_cases c : a = 4
  · by_cases c2 : s ≤ 4
    · exact @Good.finV Tryz.prog (F4 0 4 4 15 4 4) (rho s t a) _ _ Tryz.f4 148 kn1 19 7 _ prog_ok kn_ok hD4 (sat4 (by omega) (by omega) (by omega) (by omega))
    · exact @Good.seg Tryz.prog (F4 5 10 4 15 4 4) (rho s t a) _ _ Tryz.f4 148 kn1 19 30 _ _ _ _ _ prog_ok kn_ok g25 (sat4 (by omega) (by omega) (by omega) (by omega)) (gE4 hb (by omega))
  · by_cases c3 : t = 4
    · exact @Good.seg Tryz.prog (F4 0 10 4 4 5 11) (rho s t a) _ _ Tryz.f4 148 kn1 19 11 _ _ _ _ _ prog_ok kn_ok g21 (sat4 (by omega) (by omega) (by omega) (by omega)) (gX5 hb (by omega) (by omega))
    · by_cases c4 : s ≤ 5
      · exact @Good.seg Tryz.prog (F4 0 5 5 15 5 11) (rho s t a) _ _ Tryz.f4 148 kn1 19 11 _ _ _ _ _ prog_ok kn_ok g22 (sat4 (by omega) (by omega) (by omega) (by omega)) (gD5 hb (by omega) (by omega))
      · exact @Good.seg Tryz.prog (F4 6 10 5 15 5 11) (rho s t a) _ _ Tryz.f4 148 kn1 19 11 _ _ _ _ _ prog_ok kn_ok g23 (sat4 (by omega) (by omega) (by omega) (by omega)) (gD5 hb (by omega) (by omega))
theorem gD3 {s t a : Int} (hb : 0 ≤ s ∧ s ≤ 10 ∧ s ≤ t ∧ t ≤ 15 ∧ 0 ≤ a ∧ a ≤ 11) (h : 3 ≤ t) (ha : 3 ≤ a) : Goes4 s t a kL1 D3t D3b := by
  by_cases c : a = 3
  · by_cases c2 : s ≤ 3
    · exact @Good.finV Tryz.prog (F4 0 3 3 15 3 3) (rho s t a) _ _ Tryz.f4 148 kn1 19 7 _ prog_ok kn_ok hD3 (sat4 (by omega) (by omega) (by omega) (by omega))
    · exact @Good.seg Tryz.prog (F4 4 10 3 15 3 3) (rho s t a) _ _ Tryz.f4 148 kn1 19 30 _ _ _ _ _ prog_ok kn_ok g20 (sat4 (by omega) (by omega) (by omega) (by omega)) (gE3 hb (by omega))
  · by_cases c3 : t = 3
    · exact @Good.seg Tryz.prog (F4 0 10 3 3 4 11) (rho s t a) _ _ Tryz.f4 148 kn1 19 11 _ _ _ _ _ prog_ok kn_ok g16 (sat4 (by omega) (by omega) (by omega) (by omega)) (gX4 hb (by omega) (by omega))
    · by_cases c4 : s ≤ 4
      · exact @Good.seg Tryz.prog (F4 0 4 4 15 4 11) (rho s t a) _ _ Tryz.f4 148 kn1 19 11 _ _ _ _ _ prog_ok kn_ok g17 (sat4 (by omega) (by omega) (by omega) (by omega)) (gD4 hb (by omega) (by omega))
      · exact @Good.seg Tryz.prog (F4 5 10 4 15 4 11) (rho s t a) _ _ Tryz.f4 148 kn1 19 11 _ _ _ _ _ prog_ok kn_ok g18 (sat4 (by omega) (by omega) (by omega) (by omega)) (gD4 hb (by omega) (by omega))
theorem gD2 {s t a : Int} (hb : 0 ≤ s ∧ s ≤ 10 ∧ s ≤ t ∧ t ≤ 15 ∧ 0 ≤ a ∧ a ≤ 11) (h : 2 ≤ t) (ha : 2 ≤ a) : Goes4 s t a kL1 D2t D2b := by
  by_cases c : a = 2
  · by_cases c2 : s ≤ 2
    · exact @Good.finV Tryz.prog (F4 0 2 2 15 2 2) (rho s t a) _ _ Tryz.f4 148 kn1 19 7 _ prog_ok kn_ok hD2 (sat4 (by omega) (by omega) (by omega) (by omega))
    · exact @Good.seg Tryz.prog (F4 3 10 2 15 2 2) (rho s t a) _ _ Tryz.f4 148 kn1 19 30 _ _ _ _ _ prog_ok kn_ok g15 (sat4 (by omega) (by omega) (by omega) (by omega)) (gE2 hb (by omega))
  · by_cases c3 : t = 2
    · exact @Good.seg Tryz.prog (F4 0 10 2 2 3 11) (rho s t a) _ _ Tryz.f4 148 kn1 19 11 _ _ _ _ _ prog_ok kn_ok g11 (sat4 (by omega) (by omega) (by omega) (by omega)) (gX3 hb (by omega) (by omega))
    · by_cases c4 : s ≤ 3
      · exact @Good.seg Tryz.prog (F4 0 3 3 15 3 11) (rho s t a) _ _ Tryz.f4 148 kn1 19 11 _ _ _ _ _ prog_ok kn_ok g12 (sat4 (by omega) (by omega) (by omega) (by omega)) (gD3 hb (by omega) (by omega))
      · exact @Good.seg Tryz.prog (F4 4 10 3 15 3 11) (rho s t a) _ _ Tryz.f4 148 kn1 19 11 _ _ _ _ _ prog_ok kn_ok g13 (sat4 (by omega) (by omega) (by omega) (by omega)) (gD3 hb (by omega) (by omega))
theorem gD1 {s t a : Int} (hb : 0 ≤ s ∧ s ≤ 10 ∧ s ≤ t ∧ t ≤ 15 ∧ 0 ≤ a ∧ a ≤ 11) (h : 1 ≤ t) (ha : 1 ≤ a) : Goes4 s t a kL1 D1t D1b := by
  by_cases c : a = 1
  · by_cases c2 : s ≤ 1
    · exact @Good.finV Tryz.prog (F4 0 1 1 15 1 1) (rho s t a) _ _ Tryz.f4 148 kn1 19 7 _ prog_ok kn_ok hD1 (sat4 (by omega) (by omega) (by omega) (by omega))
    · exact @Good.seg Tryz.prog (F4 2 10 1 15 1 1) (rho s t a) _ _ Tryz.f4 148 kn1 19 30 _ _ _ _ _ prog_ok kn_ok g10 (sat4 (by omega) (by omega) (by omega) (by omega)) (gE1 hb (by omega))
  · by_cases c3 : t = 1
    · exact @Good.seg Tryz.prog (F4 0 10 1 1 2 11) (rho s t a) _ _ Tryz.f4 148 kn1 19 11 _ _ _ _ _ prog_ok kn_ok g6 (sat4 (by omega) (by omega) (by omega) (by omega)) (gX2 hb (by omega) (by omega))
    · by_cases c4 : s ≤ 2
      · exact @Good.seg Tryz.prog (F4 0 2 2 15 2 11) (rho s t a) _ _ Tryz.f4 148 kn1 19 11 _ _ _ _ _ prog_ok kn_ok g7 (sat4 (by omega) (by omega) (by omega) (by omega)) (gD2 hb (by omega) (by omega))
      · exact @Good.seg Tryz.prog (F4 3 10 2 15 2 11) (rho s t a) _ _ Tryz.f4 148 kn1 19 11 _ _ _ _ _ prog_ok kn_ok g8 (sat4 (by omega) (by omega) (by omega) (by omega)) (gD2 hb (by omega) (by omega))
theorem gD0 {s t a : Int} (hb : 0 ≤ s ∧ s ≤ 10 ∧ s ≤ t ∧ t ≤ 15 ∧ 0 ≤ a ∧ a ≤ 11) (h : 0 ≤ t) (ha : 0 ≤ a) : Goes4 s t a kL1 D0t D0b := by
  by_cases c : a = 0
  · by_cases c2 : s ≤ 0
    · exact @Good.finV Tryz.prog (F4 0 0 0 15 0 0) (rho s t a) _ _ Tryz.f4 148 kn1 19 7 _ prog_ok kn_ok hD0 (sat4 (by omega) (by omega) (by omega) (by omega))
    · exact @Good.seg Tryz.prog (F4 1 10 0 15 0 0) (rho s t a) _ _ Tryz.f4 148 kn1 19 30 _ _ _ _ _ prog_ok kn_ok g5 (sat4 (by omega) (by omega) (by omega) (by omega)) (gE0 hb (by omega))
  · by_cases c3 : t = 0
    · exact @Good.seg Tryz.prog (F4 0 10 0 0 1 11) (rho s t a) _ _ Tryz.f4 148 kn1 19 11 _ _ _ _ _ prog_ok kn_ok g2 (sat4 (by omega) (by omega) (by omega) (by omega)) (gX1 hb (by omega) (by omega))
    · by_cases c4 : s ≤ 1
      · exact @Good.seg Tryz.prog (F4 0 1 1 15 1 11) (rho s t a) _ _ Tryz.f4 148 kn1 19 11 _ _ _ _ _ prog_ok kn_ok g3 (sat4 (by omega) (by omega) (by omega) (by omega)) (gD1 hb (by omega) (by omega))
      · exact @Good.seg Tryz.prog (F4 2 10 1 15 1 11) (rho s t a) _ _ Tryz.f4 148 kn1 19 11 _ _ _ _ _ prog_ok kn_ok g4 (sat4 (by omega) (by omega) (by omega) (by omega)) (gD1 hb (by omega) (by omega))
theorem ta : T Tryz.prog 4 [x0 0, x0 1, x0 2] ⟨[(.negSucc 9223372036854775807, .negSucc 0), (.negSucc 9223372036854775807, .ofNat 9223372036854775807), (.negSucc 9223372036854775807, .ofNat 9223372036854775807)], []⟩ := @T.leaf Tryz.prog 148 kn1 20 4 [x0 0, x0 1, x0 2] ⟨[(.negSucc 9223372036854775807, .negSucc 0), (.negSucc 9223372036854775807, .ofNat 9223372036854775807), (.negSucc 9223372036854775807, .ofNat 9223372036854775807)], []⟩ prog_ok kn_ok (by kernel_rfl)
theorem tc : T Tryz.prog 4 [x0 0, x0 1, x0 2] ⟨[(.ofNat 11, .ofNat 9223372036854775807), (.negSucc 9223372036854775807, .ofNat 9223372036854775807), (.negSucc 9223372036854775807, .ofNat 9223372036854775807)], []⟩ := @T.leaf Tryz.prog 148 kn1 20 4 [x0 0, x0 1, x0 2] ⟨[(.ofNat 11, .ofNat 9223372036854775807), (.negSucc 9223372036854775807, .ofNat 9223372036854775807), (.negSucc 9223372036854775807, .ofNat 9223372036854775807)], []⟩ prog_ok kn_ok (by kernel_rfl)
theorem te : T Tryz.prog 4 [x0 0, x0 1, x0 2] ⟨[(.ofNat 0, .ofNat 10), (.ofNat 16, .ofNat 9223372036854775807), (.negSucc 9223372036854775807, .ofNat 9223372036854775807)], []⟩ := @T.leaf Tryz.prog 148 kn1 20 4 [x0 0, x0 1, x0 2] ⟨[(.ofNat 0, .ofNat 10), (.ofNat 16, .ofNat 9223372036854775807), (.negSucc 9223372036854775807, .ofNat 9223372036854775807)], []⟩ prog_ok kn_ok (by kernel_rfl)
theorem tg_0 : T Tryz.prog 4 [x0 0, x0 1, x0 2] ⟨[(.ofNat 0, .ofNat 10), (.ofNat 0, .ofNat 15), (.ofNat 12, .ofNat 9223372036854775807)], [.mk (.negSucc 0) [(0, .ofNat 1), (1, .negSucc 0)]]⟩ := @T.leaf Tryz.prog 148 kn1 20 4 [x0 0, x0 1, x0 2] ⟨[(.ofNat 0, .ofNat 10), (.ofNat 0, .ofNat 15), (.ofNat 12, .ofNat 9223372036854775807)], [.mk (.negSucc 0) [(0, .ofNat 1), (1, .negSucc 0)]]⟩ prog_ok kn_ok (by kernel_rfl)
theorem tg_1 : T Tryz.prog 4 [x0 0, x0 1, x0 2] ⟨[(.ofNat 0, .ofNat 10), (.ofNat 0, .ofNat 15), (.ofNat 12, .ofNat 9223372036854775807)], [.mk (.ofNat 0) [(0, .negSucc 0), (1, .ofNat 1)]]⟩ := @T.leaf Tryz.prog 148 kn1 20 4 [x0 0, x0 1, x0 2] ⟨[(.ofNat 0, .ofNat 10), (.ofNat 0, .ofNat 15), (.ofNat 12, .ofNat 9223372036854775807)], [.mk (.ofNat 0) [(0, .negSucc 0), (1, .ofNat 1)]]⟩ prog_ok kn_ok (by kernel_rfl)
theorem tg : T Tryz.prog 4 [x0 0, x0 1, x0 2] ⟨[(.ofNat 0, .ofNat 10), (.ofNat 0, .ofNat 15), (.ofNat 12, .ofNat 9223372036854775807)], []⟩ := (.split (.mk (.negSucc 0) [(0, .ofNat 1), (1, .negSucc 0)]) (.mk (.ofNat 0) [(0, .negSucc 0), (1, .ofNat 1)]) rfl tg_0 tg_1)
theorem tf_0 : T Tryz.prog 4 [x0 0, x0 1, x0 2] ⟨[(.ofNat 0, .ofNat 10), (.ofNat 0, .ofNat 15), (.negSucc 9223372036854775807, .negSucc 0)], [.mk (.negSucc 0) [(0, .ofNat 1), (1, .negSucc 0)]]⟩ := @T.leaf Tryz.prog 148 kn1 20 4 [x0 0, x0 1, x0 2] ⟨[(.ofNat 0, .ofNat 10), (.ofNat 0, .ofNat 15), (.negSucc 9223372036854775807, .negSucc 0)], [.mk (.negSucc 0) [(0, .ofNat 1), (1, .negSucc 0)]]⟩ prog_ok kn_ok (by kernel_rfl)
theorem tf_1 : T Tryz.prog 4 [x0 0, x0 1, x0 2] ⟨[(.ofNat 0, .ofNat 10), (.ofNat 0, .ofNat 15), (.negSucc 9223372036854775807, .negSucc 0)], [.mk (.ofNat 0) [(0, .negSucc 0), (1, .ofNat 1)]]⟩ := @T.leaf Tryz.prog 148 kn1 20 4 [x0 0, x0 1, x0 2] ⟨[(.ofNat 0, .ofNat 10), (.ofNat 0, .ofNat 15), (.negSucc 9223372036854775807, .negSucc 0)], [.mk (.ofNat 0) [(0, .negSucc 0), (1, .ofNat 1)]]⟩ prog_ok kn_ok (by kernel_rfl)
theorem tf : T Tryz.prog 4 [x0 0, x0 1, x0 2] ⟨[(.ofNat 0, .ofNat 10), (.ofNat 0, .ofNat 15), (.negSucc 9223372036854775807, .negSucc 0)], []⟩ := (.split (.mk (.negSucc 0) [(0, .ofNat 1), (1, .negSucc 0)]) (.mk (.ofNat 0) [(0, .negSucc 0), (1, .ofNat 1)]) rfl tf_0 tf_1)
theorem td0 : T Tryz.prog 4 [i0 (.ofNat 0), x0 0, x0 1] ⟨[(.negSucc 9223372036854775807, .negSucc 0), (.negSucc 9223372036854775807, .ofNat 9223372036854775807)], []⟩ := @T.leaf Tryz.prog 148 kn1 20 4 [i0 (.ofNat 0), x0 0, x0 1] ⟨[(.negSucc 9223372036854775807, .negSucc 0), (.negSucc 9223372036854775807, .ofNat 9223372036854775807)], []⟩ prog_ok kn_ok (by kernel_rfl)
theorem td1 : T Tryz.prog 4 [i0 (.ofNat 1), x0 0, x0 1] ⟨[(.negSucc 9223372036854775807, .ofNat 0), (.negSucc 9223372036854775807, .ofNat 9223372036854775807)], []⟩ := @T.leaf Tryz.prog 148 kn1 20 4 [i0 (.ofNat 1), x0 0, x0 1] ⟨[(.negSucc 9223372036854775807, .ofNat 0), (.negSucc 9223372036854775807, .ofNat 9223372036854775807)], []⟩ prog_ok kn_ok (by kernel_rfl)
theorem td2 : T Tryz.prog 4 [i0 (.ofNat 2), x0 0, x0 1] ⟨[(.negSucc 9223372036854775807, .ofNat 1), (.negSucc 9223372036854775807, .ofNat 9223372036854775807)], []⟩ := @T.leaf Tryz.prog 148 kn1 20 4 [i0 (.ofNat 2), x0 0, x0 1] ⟨[(.negSucc 9223372036854775807, .ofNat 1), (.negSucc 9223372036854775807, .ofNat 9223372036854775807)], []⟩ prog_ok kn_ok (by kernel_rfl)
theorem td3 : T Tryz.prog 4 [i0 (.ofNat 3), x0 0, x0 1] ⟨[(.negSucc 9223372036854775807, .ofNat 2), (.negSucc 9223372036854775807, .ofNat 9223372036854775807)], []⟩ := @T.leaf Tryz.prog 148 kn1 20 4 [i0 (.ofNat 3), x0 0, x0 1] ⟨[(.negSucc 9223372036854775807, .ofNat 2), (.negSucc 9223372036854775807, .ofNat 9223372036854775807)], []⟩ prog_ok kn_ok (by kernel_rfl)
theorem td4 : T Tryz.prog 4 [i0 (.ofNat 4), x0 0, x0 1] ⟨[(.negSucc 9223372036854775807, .ofNat 3), (.negSucc 9223372036854775807, .ofNat 9223372036854775807)], []⟩ := @T.leaf Tryz.prog 148 kn1 20 4 [i0 (.ofNat 4), x0 0, x0 1] ⟨[(.negSucc 9223372036854775807, .ofNat 3), (.negSucc 9223372036854775807, .ofNat 9223372036854775807)], []⟩ prog_ok kn_ok (by kernel_rfl)
theorem td5 : T Tryz.prog 4 [i0 (.ofNat 5), x0 0, x0 1] ⟨[(.negSucc 9223372036854775807, .ofNat 4), (.negSucc 9223372036854775807, .ofNat 9223372036854775807)], []⟩ := @T.leaf Tryz.prog 148 kn1 20 4 [i0 (.ofNat 5), x0 0, x0 1] ⟨[(.negSucc 9223372036854775807, .ofNat 4), (.negSucc 9223372036854775807, .ofNat 9223372036854775807)], []⟩ prog_ok kn_ok (by kernel_rfl)
theorem td6 : T Tryz.prog 4 [i0 (.ofNat 6), x0 0, x0 1] ⟨[(.negSucc 9223372036854775807, .ofNat 5), (.negSucc 9223372036854775807, .ofNat 9223372036854775807)], []⟩ := @T.leaf Tryz.prog 148 kn1 20 4 [i0 (.ofNat 6), x0 0, x0 1] ⟨[(.negSucc 9223372036854775807, .ofNat 5), (.negSucc 9223372036854775807, .ofNat 9223372036854775807)], []⟩ prog_ok kn_ok (by kernel_rfl)
theorem td7 : T Tryz.prog 4 [i0 (.ofNat 7), x0 0, x0 1] ⟨[(.negSucc 9223372036854775807, .ofNat 6), (.negSucc 9223372036854775807, .ofNat 9223372036854775807)], []⟩ := @T.leaf Tryz.prog 148 kn1 20 4 [i0 (.ofNat 7), x0 0, x0 1] ⟨[(.negSucc 9223372036854775807, .ofNat 6), (.negSucc 9223372036854775807, .ofNat 9223372036854775807)], []⟩ prog_ok kn_ok (by kernel_rfl)
theorem td8 : T Tryz.prog 4 [i0 (.ofNat 8), x0 0, x0 1] ⟨[(.negSucc 9223372036854775807, .ofNat 7), (.negSucc 9223372036854775807, .ofNat 9223372036854775807)], []⟩ := @T.leaf Tryz.prog 148 kn1 20 4 [i0 (.ofNat 8), x0 0, x0 1] ⟨[(.negSucc 9223372036854775807, .ofNat 7), (.negSucc 9223372036854775807, .ofNat 9223372036854775807)], []⟩ prog_ok kn_ok (by kernel_rfl)
theorem td9 : T Tryz.prog 4 [i0 (.ofNat 9), x0 0, x0 1] ⟨[(.negSucc 9223372036854775807, .ofNat 8), (.negSucc 9223372036854775807, .ofNat 9223372036854775807)], []⟩ := @T.leaf Tryz.prog 148 kn1 20 4 [i0 (.ofNat 9), x0 0, x0 1] ⟨[(.negSucc 9223372036854775807, .ofNat 8), (.negSucc 9223372036854775807, .ofNat 9223372036854775807)], []⟩ prog_ok kn_ok (by kernel_rfl)
theorem td10 : T Tryz.prog 4 [i0 (.ofNat 10), x0 0, x0 1] ⟨[(.negSucc 9223372036854775807, .ofNat 9), (.negSucc 9223372036854775807, .ofNat 9223372036854775807)], []⟩ := @T.leaf Tryz.prog 148 kn1 20 4 [i0 (.ofNat 10), x0 0, x0 1] ⟨[(.negSucc 9223372036854775807, .ofNat 9), (.negSucc 9223372036854775807, .ofNat 9223372036854775807)], []⟩ prog_ok kn_ok (by kernel_rfl)
theorem topTimes (x y z : Int) (w : World) (hx : -9223372036854775808 ≤ x ∧ x < 9223372036854775808) (hy : -9223372036854775808 ≤ y ∧ y < 9223372036854775808) (hz : -9223372036854775808 ≤ z ∧ z < 9223372036854775808) : Calls Tryz.prog 4 #[.int .i64 x, .int .i64 y, .int .i64 z] w fun e w' => e = .returned (.bool true) ∧ Below w.heap.size w w' := by
  have hn : (Tryz.f4.name == "runtime.NumGoroutine") = false := by kernel_rfl
  have hc : Tryz.f4.body.isSome = true := by kernel_rfl
  have hm : Int.negSucc 9223372036854775807 = -9223372036854775808 := rfl
  have hm1 : Int.negSucc 0 = -1 := rfl
  have args : All2 (AR (fun _ => none) (rho x y z) w) [.int .i64 x, .int .i64 y, .int .i64 z] [x0 0, x0 1, x0 2] := ⟨x0_ok rfl, x0_ok rfl, x0_ok rfl, trivial⟩
  have go : ∀ bd, T Tryz.prog 4 [x0 0, x0 1, x0 2] ⟨bd, []⟩ → In (rho x y z) 0 bd → Calls Tryz.prog 4 #[.int .i64 x, .int .i64 y, .int .i64 z] w fun e w' => e = .returned (.bool true) ∧ Below w.heap.size w w' :=
    fun bd h hi => T.calls h _ hi w args Tryz.func4 hn hc
  by_cases cta : x < 0
  · exact go _ ta (by simp [In, rho, hm, hm1]; omega)
  by_cases ctc : 10 < x
  · exact go _ tc (by simp [In, rho, hm, hm1]; omega)
  by_cases ctd : y < x
  · obtain rfl | rfl | rfl | rfl | rfl | rfl | rfl | rfl | rfl | rfl | rfl : x = 0 ∨ x = 1 ∨ x = 2 ∨ x = 3 ∨ x = 4 ∨ x = 5 ∨ x = 6 ∨ x = 7 ∨ x = 8 ∨ x = 9 ∨ x = 10 := by omega
    · exact T.calls td0 (fun i => if i = 0 then y else z) (by simp [In, hm, hm1]; omega) w ⟨rfl, x0_ok rfl, x0_ok rfl, trivial⟩ Tryz.func4 hn hc
    · exact T.calls td1 (fun i => if i = 0 then y else z) (by simp [In, hm, hm1]; omega) w ⟨rfl, x0_ok rfl, x0_ok rfl, trivial⟩ Tryz.func4 hn hc
    · exact T.calls td2 (fun i => if i = 0 then y else z) (by simp [In, hm, hm1]; omega) w ⟨rfl, x0_ok rfl, x0_ok rfl, trivial⟩ Tryz.func4 hn hc
    · exact T.calls td3 (fun i => if i = 0 then y else z) (by simp [In, hm, hm1]; omega) w ⟨rfl, x0_ok rfl, x0_ok rfl, trivial⟩ Tryz.func4 hn hc
    · exact T.calls td4 (fun i => if i = 0 then y else z) (by simp [In, hm, hm1]; omega) w ⟨rfl, x0_ok rfl, x0_ok rfl, trivial⟩ Tryz.func4 hn hc
    · exact T.calls td5 (fun i => if i = 0 then y else z) (by simp [In, hm, hm1]; omega) w ⟨rfl, x0_ok rfl, x0_ok rfl, trivial⟩ Tryz.func4 hn hc
    · exact T.calls td6 (fun i => if i = 0 then y else z) (by simp [In, hm, hm1]; omega) w ⟨rfl, x0_ok rfl, x0_ok rfl, trivial⟩ Tryz.func4 hn hc
    · exact T.calls td7 (fun i => if i = 0 then y else z) (by simp [In, hm, hm1]; omega) w ⟨rfl, x0_ok rfl, x0_ok rfl, trivial⟩ Tryz.func4 hn hc
    · exact T.calls td8 (fun i => if i = 0 then y else z) (by simp [In, hm, hm1]; omega) w ⟨rfl, x0_ok rfl, x0_ok rfl, trivial⟩ Tryz.func4 hn hc
    · exact T.calls td9 (fun i => if i = 0 then y else z) (by simp [In, hm, hm1]; omega) w ⟨rfl, x0_ok rfl, x0_ok rfl, trivial⟩ Tryz.func4 hn hc
    · exact T.calls td10 (fun i => if i = 0 then y else z) (by simp [In, hm, hm1]; omega) w ⟨rfl, x0_ok rfl, x0_ok rfl, trivial⟩ Tryz.func4 hn hc
  by_cases cte : 15 < y
  · exact go _ te (by simp [In, rho, hm, hm1]; omega)
  by_cases ctf : z < 0
  · exact go _ tf (by simp [In, rho, hm, hm1]; omega)
  by_cases ctg : 11 < z
  · exact go _ tg (by simp [In, rho, hm, hm1]; omega)
  have hg : Good Tryz.prog Tryz.f4 (rho x y z) [.code codeOf] (putArgs args4 0 .lf) ⟨.lf, 0⟩ := by
    by_cases c0 : x = 0
    · exact @Good.seg Tryz.prog (F4 0 0 0 15 0 11) (rho x y z) _ _ Tryz.f4 148 kn1 19 21 _ _ _ _ _ prog_ok kn_ok g0 (sat4 (by omega) (by omega) (by omega) (by omega)) (gD0 ⟨by omega, by omega, by omega, by omega, by omega, by omega⟩ (by omega) (by omega))
    · exact @Good.seg Tryz.prog (F4 1 10 0 15 0 11) (rho x y z) _ _ Tryz.f4 148 kn1 19 21 _ _ _ _ _ prog_ok kn_ok g1 (sat4 (by omega) (by omega) (by omega) (by omega)) (gD0 ⟨by omega, by omega, by omega, by omega, by omega, by omega⟩ (by omega) (by omega))
  have hbody : Tryz.f4.body = some codeOf := by
    have h := hc
    unfold codeOf
    cases hq : Tryz.f4.body with
    | none => rw [hq] at h; cases h
    | some c => rfl
  exact calls_of_good prog_ok Tryz.func4 hbody hg w args
end Go.Proofs.YtbmhamijoajnhaaGreat.E
