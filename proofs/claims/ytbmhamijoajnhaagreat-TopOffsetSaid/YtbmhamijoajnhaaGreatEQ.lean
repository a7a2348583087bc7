/- TopOffset's call, by cases. -/
import Derived.Test.YtbmhamijoajnhaaGreatEP
import Derived.KernelRfl
namespace Go.Proofs.YtbmhamijoajnhaaGreat.E
open Go Go.RowKit
set_option maxRecDepth 100000
set_option linter.unusedSimpArgs false

theorem oa_f : T Tryz.prog 3 [x0 0, x0 1, b0 false] ⟨[(.negSucc 9223372036854775807, .ofNat 0), (.negSucc 9223372036854775807, .ofNat 9223372036854775807)], []⟩ := @T.leaf Tryz.prog 148 kn1 20 3 [x0 0, x0 1, b0 false] ⟨[(.negSucc 9223372036854775807, .ofNat 0), (.negSucc 9223372036854775807, .ofNat 9223372036854775807)], []⟩ prog_ok kn_ok (by kernel_rfl)
theorem ob_f : T Tryz.prog 3 [x0 0, x0 1, b0 false] ⟨[(.ofNat 1099511627777, .ofNat 9223372036854775807), (.negSucc 9223372036854775807, .ofNat 9223372036854775807)], []⟩ := @T.leaf Tryz.prog 148 kn1 20 3 [x0 0, x0 1, b0 false] ⟨[(.ofNat 1099511627777, .ofNat 9223372036854775807), (.negSucc 9223372036854775807, .ofNat 9223372036854775807)], []⟩ prog_ok kn_ok (by kernel_rfl)
theorem oc_f : T Tryz.prog 3 [x0 0, x0 1, b0 false] ⟨[(.ofNat 1, .ofNat 1099511627776), (.negSucc 9223372036854775807, .negSucc 0)], []⟩ := @T.leaf Tryz.prog 148 kn1 20 3 [x0 0, x0 1, b0 false] ⟨[(.ofNat 1, .ofNat 1099511627776), (.negSucc 9223372036854775807, .negSucc 0)], []⟩ prog_ok kn_ok (by kernel_rfl)
theorem od_f : T Tryz.prog 3 [x0 0, x0 1, b0 false] ⟨[(.ofNat 1, .ofNat 1099511627776), (.ofNat 6, .ofNat 9223372036854775807)], []⟩ := @T.leaf Tryz.prog 148 kn1 20 3 [x0 0, x0 1, b0 false] ⟨[(.ofNat 1, .ofNat 1099511627776), (.ofNat 6, .ofNat 9223372036854775807)], []⟩ prog_ok kn_ok (by kernel_rfl)
theorem oe_f_0 : T Tryz.prog 3 [x0 0, x0 1, b0 false] ⟨[(.ofNat 1, .ofNat 1099511627776), (.ofNat 1, .ofNat 5)], [.mk (.ofNat 1099511627775) [(0, .negSucc 0)], .mk (.negSucc 1099511627775) [(0, .ofNat 1), (1, .ofNat 1)]]⟩ := @T.leaf Tryz.prog 148 kn1 20 3 [x0 0, x0 1, b0 false] ⟨[(.ofNat 1, .ofNat 1099511627776), (.ofNat 1, .ofNat 5)], [.mk (.ofNat 1099511627775) [(0, .negSucc 0)], .mk (.negSucc 1099511627775) [(0, .ofNat 1), (1, .ofNat 1)]]⟩ prog_ok kn_ok (by kernel_rfl)
theorem oe_f_1 : T Tryz.prog 3 [x0 0, x0 1, b0 false] ⟨[(.ofNat 1, .ofNat 1099511627776), (.ofNat 1, .ofNat 5)], [.mk (.negSucc 1099511627775) [(0, .ofNat 1)], .mk (.negSucc 1099511627775) [(0, .ofNat 1), (1, .ofNat 1)]]⟩ := @T.leaf Tryz.prog 148 kn1 20 3 [x0 0, x0 1, b0 false] ⟨[(.ofNat 1, .ofNat 1099511627776), (.ofNat 1, .ofNat 5)], [.mk (.negSucc 1099511627775) [(0, .ofNat 1)], .mk (.negSucc 1099511627775) [(0, .ofNat 1), (1, .ofNat 1)]]⟩ prog_ok kn_ok (by kernel_rfl)
theorem oe_f_2 : T Tryz.prog 3 [x0 0, x0 1, b0 false] ⟨[(.ofNat 1, .ofNat 1099511627776), (.ofNat 1, .ofNat 5)], [.mk (.ofNat 1099511627775) [(0, .negSucc 0), (1, .negSucc 0)]]⟩ := @T.leaf Tryz.prog 148 kn1 20 3 [x0 0, x0 1, b0 false] ⟨[(.ofNat 1, .ofNat 1099511627776), (.ofNat 1, .ofNat 5)], [.mk (.ofNat 1099511627775) [(0, .negSucc 0), (1, .negSucc 0)]]⟩ prog_ok kn_ok (by kernel_rfl)
theorem oe_f : T Tryz.prog 3 [x0 0, x0 1, b0 false] ⟨[(.ofNat 1, .ofNat 1099511627776), (.ofNat 1, .ofNat 5)], []⟩ := (.split (.mk (.negSucc 1099511627775) [(0, .ofNat 1), (1, .ofNat 1)]) (.mk (.ofNat 1099511627775) [(0, .negSucc 0), (1, .negSucc 0)]) rfl (.split (.mk (.ofNat 1099511627775) [(0, .negSucc 0)]) (.mk (.negSucc 1099511627775) [(0, .ofNat 1)]) rfl oe_f_0 oe_f_1) oe_f_2)
theorem of_f_0 : T Tryz.prog 3 [x0 0, i0 (.ofNat 0), b0 false] ⟨[(.ofNat 1, .ofNat 1099511627776)], [.mk (.negSucc 1099511627775) [(0, .ofNat 1)]]⟩ := @T.leaf Tryz.prog 148 kn1 20 3 [x0 0, i0 (.ofNat 0), b0 false] ⟨[(.ofNat 1, .ofNat 1099511627776)], [.mk (.negSucc 1099511627775) [(0, .ofNat 1)]]⟩ prog_ok kn_ok (by kernel_rfl)
theorem of_f_1 : T Tryz.prog 3 [x0 0, i0 (.ofNat 0), b0 false] ⟨[(.ofNat 1, .ofNat 1099511627776)], [.mk (.ofNat 1099511627775) [(0, .negSucc 0)]]⟩ := @T.leaf Tryz.prog 148 kn1 20 3 [x0 0, i0 (.ofNat 0), b0 false] ⟨[(.ofNat 1, .ofNat 1099511627776)], [.mk (.ofNat 1099511627775) [(0, .negSucc 0)]]⟩ prog_ok kn_ok (by kernel_rfl)
theorem of_f : T Tryz.prog 3 [x0 0, i0 (.ofNat 0), b0 false] ⟨[(.ofNat 1, .ofNat 1099511627776)], []⟩ := (.split (.mk (.negSucc 1099511627775) [(0, .ofNat 1)]) (.mk (.ofNat 1099511627775) [(0, .negSucc 0)]) rfl of_f_0 of_f_1)
theorem oa_t : T Tryz.prog 3 [x0 0, x0 1, b0 true] ⟨[(.negSucc 9223372036854775807, .ofNat 0), (.negSucc 9223372036854775807, .ofNat 9223372036854775807)], []⟩ := @T.leaf Tryz.prog 148 kn1 20 3 [x0 0, x0 1, b0 true] ⟨[(.negSucc 9223372036854775807, .ofNat 0), (.negSucc 9223372036854775807, .ofNat 9223372036854775807)], []⟩ prog_ok kn_ok (by kernel_rfl)
theorem ob_t : T Tryz.prog 3 [x0 0, x0 1, b0 true] ⟨[(.ofNat 1099511627777, .ofNat 9223372036854775807), (.negSucc 9223372036854775807, .ofNat 9223372036854775807)], []⟩ := @T.leaf Tryz.prog 148 kn1 20 3 [x0 0, x0 1, b0 true] ⟨[(.ofNat 1099511627777, .ofNat 9223372036854775807), (.negSucc 9223372036854775807, .ofNat 9223372036854775807)], []⟩ prog_ok kn_ok (by kernel_rfl)
theorem oc_t : T Tryz.prog 3 [x0 0, x0 1, b0 true] ⟨[(.ofNat 1, .ofNat 1099511627776), (.negSucc 9223372036854775807, .negSucc 0)], []⟩ := @T.leaf Tryz.prog 148 kn1 20 3 [x0 0, x0 1, b0 true] ⟨[(.ofNat 1, .ofNat 1099511627776), (.negSucc 9223372036854775807, .negSucc 0)], []⟩ prog_ok kn_ok (by kernel_rfl)
theorem od_t : T Tryz.prog 3 [x0 0, x0 1, b0 true] ⟨[(.ofNat 1, .ofNat 1099511627776), (.ofNat 6, .ofNat 9223372036854775807)], []⟩ := @T.leaf Tryz.prog 148 kn1 20 3 [x0 0, x0 1, b0 true] ⟨[(.ofNat 1, .ofNat 1099511627776), (.ofNat 6, .ofNat 9223372036854775807)], []⟩ prog_ok kn_ok (by kernel_rfl)
theorem oe_t_0 : T Tryz.prog 3 [x0 0, x0 1, b0 true] ⟨[(.ofNat 1, .ofNat 1099511627776), (.ofNat 1, .ofNat 5)], [.mk (.ofNat 1099511627775) [(0, .negSucc 0)], .mk (.negSucc 1099511627775) [(0, .ofNat 1), (1, .ofNat 1)]]⟩ := @T.leaf Tryz.prog 148 kn1 20 3 [x0 0, x0 1, b0 true] ⟨[(.ofNat 1, .ofNat 1099511627776), (.ofNat 1, .ofNat 5)], [.mk (.ofNat 1099511627775) [(0, .negSucc 0)], .mk (.negSucc 1099511627775) [(0, .ofNat 1), (1, .ofNat 1)]]⟩ prog_ok kn_ok (by kernel_rfl)
theorem oe_t_1 : T Tryz.prog 3 [x0 0, x0 1, b0 true] ⟨[(.ofNat 1, .ofNat 1099511627776), (.ofNat 1, .ofNat 5)], [.mk (.negSucc 1099511627775) [(0, .ofNat 1)], .mk (.negSucc 1099511627775) [(0, .ofNat 1), (1, .ofNat 1)]]⟩ := @T.leaf Tryz.prog 148 kn1 20 3 [x0 0, x0 1, b0 true] ⟨[(.ofNat 1, .ofNat 1099511627776), (.ofNat 1, .ofNat 5)], [.mk (.negSucc 1099511627775) [(0, .ofNat 1)], .mk (.negSucc 1099511627775) [(0, .ofNat 1), (1, .ofNat 1)]]⟩ prog_ok kn_ok (by kernel_rfl)
theorem oe_t_2 : T Tryz.prog 3 [x0 0, x0 1, b0 true] ⟨[(.ofNat 1, .ofNat 1099511627776), (.ofNat 1, .ofNat 5)], [.mk (.ofNat 1099511627775) [(0, .negSucc 0), (1, .negSucc 0)]]⟩ := @T.leaf Tryz.prog 148 kn1 20 3 [x0 0, x0 1, b0 true] ⟨[(.ofNat 1, .ofNat 1099511627776), (.ofNat 1, .ofNat 5)], [.mk (.ofNat 1099511627775) [(0, .negSucc 0), (1, .negSucc 0)]]⟩ prog_ok kn_ok (by kernel_rfl)
theorem oe_t : T Tryz.prog 3 [x0 0, x0 1, b0 true] ⟨[(.ofNat 1, .ofNat 1099511627776), (.ofNat 1, .ofNat 5)], []⟩ := (.split (.mk (.negSucc 1099511627775) [(0, .ofNat 1), (1, .ofNat 1)]) (.mk (.ofNat 1099511627775) [(0, .negSucc 0), (1, .negSucc 0)]) rfl (.split (.mk (.ofNat 1099511627775) [(0, .negSucc 0)]) (.mk (.negSucc 1099511627775) [(0, .ofNat 1)]) rfl oe_t_0 oe_t_1) oe_t_2)
theorem of_t_0 : T Tryz.prog 3 [x0 0, i0 (.ofNat 0), b0 true] ⟨[(.ofNat 1, .ofNat 1099511627776)], [.mk (.negSucc 1099511627775) [(0, .ofNat 1)]]⟩ := @T.leaf Tryz.prog 148 kn1 20 3 [x0 0, i0 (.ofNat 0), b0 true] ⟨[(.ofNat 1, .ofNat 1099511627776)], [.mk (.negSucc 1099511627775) [(0, .ofNat 1)]]⟩ prog_ok kn_ok (by kernel_rfl)
theorem of_t_1 : T Tryz.prog 3 [x0 0, i0 (.ofNat 0), b0 true] ⟨[(.ofNat 1, .ofNat 1099511627776)], [.mk (.ofNat 1099511627775) [(0, .negSucc 0)]]⟩ := @T.leaf Tryz.prog 148 kn1 20 3 [x0 0, i0 (.ofNat 0), b0 true] ⟨[(.ofNat 1, .ofNat 1099511627776)], [.mk (.ofNat 1099511627775) [(0, .negSucc 0)]]⟩ prog_ok kn_ok (by kernel_rfl)
theorem of_t : T Tryz.prog 3 [x0 0, i0 (.ofNat 0), b0 true] ⟨[(.ofNat 1, .ofNat 1099511627776)], []⟩ := (.split (.mk (.negSucc 1099511627775) [(0, .ofNat 1)]) (.mk (.ofNat 1099511627775) [(0, .negSucc 0)]) rfl of_t_0 of_t_1)
theorem topOffset (x y : Int) (b : Bool) (w : World) (hx : -9223372036854775808 ≤ x ∧ x < 9223372036854775808) (hy : -9223372036854775808 ≤ y ∧ y < 9223372036854775808) :
    Calls Tryz.prog 3 #[.int .i64 x, .int .i64 y, .bool b] w fun e w' => e = .returned (.bool true) ∧ Below w.heap.size w w' := by
  have hn : (Tryz.f3.name == "runtime.NumGoroutine") = false := by kernel_rfl
  have hc : Tryz.f3.body.isSome = true := by kernel_rfl
  have hm : Int.negSucc 9223372036854775807 = -9223372036854775808 := rfl
  have hm1 : Int.negSucc 0 = -1 := rfl
  have args : All2 (AR (fun _ => none) (fun i => if i = 0 then x else y) w) [.int .i64 x, .int .i64 y, .bool b] [x0 0, x0 1, b0 b] := ⟨x0_ok rfl, x0_ok rfl, rfl, trivial⟩
  have go : ∀ bd, T Tryz.prog 3 [x0 0, x0 1, b0 b] ⟨bd, []⟩ → In (fun i => if i = 0 then x else y) 0 bd → Calls Tryz.prog 3 #[.int .i64 x, .int .i64 y, .bool b] w fun e w' => e = .returned (.bool true) ∧ Below w.heap.size w w' :=
    fun bd h hi => T.calls h _ hi w args Tryz.func3 hn hc
  by_cases c1 : x ≤ 0
  · cases b
    · exact go _ oa_f (by simp [In, hm]; omega)
    · exact go _ oa_t (by simp [In, hm]; omega)
  by_cases c2 : 1099511627776 < x
  · cases b
    · exact go _ ob_f (by simp [In, hm]; omega)
    · exact go _ ob_t (by simp [In, hm]; omega)
  by_cases c3 : y < 0
  · cases b
    · exact go _ oc_f (by simp [In, hm, hm1]; omega)
    · exact go _ oc_t (by simp [In, hm, hm1]; omega)
  by_cases c4 : 5 < y
  · cases b
    · exact go _ od_f (by simp [In, hm]; omega)
    · exact go _ od_t (by simp [In, hm]; omega)
  by_cases c5 : y = 0
  · subst c5
    have args : All2 (AR (fun _ => none) (fun _ => x) w) [.int .i64 x, .int .i64 0, .bool b] [x0 0, i0 (.ofNat 0), b0 b] := ⟨x0_ok rfl, rfl, rfl, trivial⟩
    cases b
    · exact T.calls of_f _ (by simp [In]; omega) w args Tryz.func3 hn hc
    · exact T.calls of_t _ (by simp [In]; omega) w args Tryz.func3 hn hc
  · cases b
    · exact go _ oe_f (by simp [In]; omega)
    · exact go _ oe_t (by simp [In]; omega)
end Go.Proofs.YtbmhamijoajnhaaGreat.E
