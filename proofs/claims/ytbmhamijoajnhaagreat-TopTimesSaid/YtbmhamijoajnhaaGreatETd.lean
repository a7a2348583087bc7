/- TopTimes, in pieces, part 4: reckoned by the kernel. -/
import Derived.Test.YtbmhamijoajnhaaGreatET
import Derived.KernelRfl
namespace Go.Proofs.YtbmhamijoajnhaaGreat.E
open Go Go.RowKit
set_option maxRecDepth 100000
set_option linter.unusedSimpArgs false
set_option linter.unusedVariables false
theorem hD10 : finV Tryz.prog 148 kn1 19 Tryz.f4 (F4 0 10 10 15 10 10) 7 kL1 (putTs D10t) (memOf D10b) = true := by kernel_rfl
theorem hD11 : finV Tryz.prog 148 kn1 19 Tryz.f4 (F4 0 10 11 15 11 11) 7 kL1 (putTs D11t) (memOf D11b) = true := by kernel_rfl
theorem hX1 : finV Tryz.prog 148 kn1 19 Tryz.f4 (F4 0 10 0 0 1 1) 7 kL1 (putTs X1t) (memOf X1b) = true := by kernel_rfl
theorem hX2 : finV Tryz.prog 148 kn1 19 Tryz.f4 (F4 0 10 0 1 2 2) 7 kL1 (putTs X2t) (memOf X2b) = true := by kernel_rfl
theorem hX3 : finV Tryz.prog 148 kn1 19 Tryz.f4 (F4 0 10 0 2 3 3) 7 kL1 (putTs X3t) (memOf X3b) = true := by kernel_rfl
theorem hX4 : finV Tryz.prog 148 kn1 19 Tryz.f4 (F4 0 10 0 3 4 4) 7 kL1 (putTs X4t) (memOf X4b) = true := by kernel_rfl
theorem hX5 : finV Tryz.prog 148 kn1 19 Tryz.f4 (F4 0 10 0 4 5 5) 7 kL1 (putTs X5t) (memOf X5b) = true := by kernel_rfl
theorem hX6 : finV Tryz.prog 148 kn1 19 Tryz.f4 (F4 0 10 0 5 6 6) 7 kL1 (putTs X6t) (memOf X6b) = true := by kernel_rfl
theorem hX7 : finV Tryz.prog 148 kn1 19 Tryz.f4 (F4 0 10 0 6 7 7) 7 kL1 (putTs X7t) (memOf X7b) = true := by kernel_rfl
theorem hX8 : finV Tryz.prog 148 kn1 19 Tryz.f4 (F4 0 10 0 7 8 8) 7 kL1 (putTs X8t) (memOf X8b) = true := by kernel_rfl
theorem hX9 : finV Tryz.prog 148 kn1 19 Tryz.f4 (F4 0 10 0 8 9 9) 7 kL1 (putTs X9t) (memOf X9b) = true := by kernel_rfl
theorem hX10 : finV Tryz.prog 148 kn1 19 Tryz.f4 (F4 0 10 0 9 10 10) 7 kL1 (putTs X10t) (memOf X10b) = true := by kernel_rfl
theorem hX11 : finV Tryz.prog 148 kn1 19 Tryz.f4 (F4 0 10 0 10 11 11) 7 kL1 (putTs X11t) (memOf X11b) = true := by kernel_rfl
theorem hE0 : finV Tryz.prog 148 kn1 19 Tryz.f4 (F4 1 1 1 15 0 11) 7 kL2 (putTs E0t) (memOf E0b) = true := by kernel_rfl
theorem hE1 : finV Tryz.prog 148 kn1 19 Tryz.f4 (F4 2 2 2 15 0 11) 7 kL2 (putTs E1t) (memOf E1b) = true := by kernel_rfl
theorem hE2 : finV Tryz.prog 148 kn1 19 Tryz.f4 (F4 3 3 3 15 0 11) 7 kL2 (putTs E2t) (memOf E2b) = true := by kernel_rfl
theorem hE3 : finV Tryz.prog 148 kn1 19 Tryz.f4 (F4 4 4 4 15 0 11) 7 kL2 (putTs E3t) (memOf E3b) = true := by kernel_rfl
theorem hE4 : finV Tryz.prog 148 kn1 19 Tryz.f4 (F4 5 5 5 15 0 11) 7 kL2 (putTs E4t) (memOf E4b) = true := by kernel_rfl
theorem hE5 : finV Tryz.prog 148 kn1 19 Tryz.f4 (F4 6 6 6 15 0 11) 7 kL2 (putTs E5t) (memOf E5b) = true := by kernel_rfl
theorem hE6 : finV Tryz.prog 148 kn1 19 Tryz.f4 (F4 7 7 7 15 0 11) 7 kL2 (putTs E6t) (memOf E6b) = true := by kernel_rfl
theorem hE7 : finV Tryz.prog 148 kn1 19 Tryz.f4 (F4 8 8 8 15 0 11) 7 kL2 (putTs E7t) (memOf E7b) = true := by kernel_rfl
theorem hE8 : finV Tryz.prog 148 kn1 19 Tryz.f4 (F4 9 9 9 15 0 11) 7 kL2 (putTs E8t) (memOf E8b) = true := by kernel_rfl
theorem hE9 : finV Tryz.prog 148 kn1 19 Tryz.f4 (F4 10 10 10 15 0 11) 7 kL2 (putTs E9t) (memOf E9b) = true := by kernel_rfl
end Go.Proofs.YtbmhamijoajnhaaGreat.E
