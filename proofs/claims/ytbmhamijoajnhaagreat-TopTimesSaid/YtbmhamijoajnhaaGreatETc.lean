/- TopTimes, in pieces, part 3: reckoned by the kernel. -/
import Derived.Test.YtbmhamijoajnhaaGreatET
import Derived.KernelRfl
namespace Go.Proofs.YtbmhamijoajnhaaGreat.E
open Go Go.RowKit
set_option maxRecDepth 100000
set_option linter.unusedSimpArgs false
set_option linter.unusedVariables false
theorem g48 : segV Tryz.prog 148 kn1 19 Tryz.f4 (F4 0 10 0 8 10 11) 11 kL1 (putTs X9t) (memOf X9b) [0, 1, 2, 3, 4, 5, 6, 7, 8, 9, 10, 11, 12, 13, 14, 15, 16, 17, 18] X10t X10b = (kL1, true) := by kernel_rfl
theorem g49 : segV Tryz.prog 148 kn1 19 Tryz.f4 (F4 10 10 9 15 9 9) 30 kL1 (putTs D9t) (memOf D9b) [0, 1, 2, 49, 51, 59, 61, 7, 8, 9, 10, 53, 55, 57, 63, 65, 67, 17, 18, 19] E9t E9b = (kL2, true) := by kernel_rfl
theorem g50 : segV Tryz.prog 148 kn1 19 Tryz.f4 (F4 0 10 10 10 11 11) 11 kL1 (putTs D10t) (memOf D10b) [0, 1, 2, 3, 4, 5, 6, 7, 8, 10, 11, 12, 13, 14, 15, 16, 17, 18, 19] X11t X11b = (kL1, true) := by kernel_rfl
theorem g51 : segV Tryz.prog 148 kn1 19 Tryz.f4 (F4 0 10 11 15 11 11) 11 kL1 (putTs D10t) (memOf D10b) [0, 1, 2, 3, 4, 5, 6, 7, 8, 44, 10, 11, 12, 13, 14, 15, 16, 17, 18, 19] D11t D11b = (kL1, true) := by kernel_rfl
theorem g52 : segV Tryz.prog 148 kn1 19 Tryz.f4 (F4 0 10 0 9 11 11) 11 kL1 (putTs X10t) (memOf X10b) [0, 1, 2, 3, 4, 5, 6, 7, 8, 9, 10, 11, 12, 13, 14, 15, 16, 17, 18] X11t X11b = (kL1, true) := by kernel_rfl
theorem g53 : segV Tryz.prog 148 kn1 19 Tryz.f4 (F4 2 10 1 15 0 11) 11 kL2 (putTs E0t) (memOf E0b) [0, 1, 2, 3, 4, 5, 6, 7, 8, 44, 10, 11, 12, 13, 14, 15, 16, 17, 18, 19] E1t E1b = (kL2, true) := by kernel_rfl
theorem g54 : segV Tryz.prog 148 kn1 19 Tryz.f4 (F4 3 10 2 15 0 11) 11 kL2 (putTs E1t) (memOf E1b) [0, 1, 2, 3, 4, 5, 6, 7, 8, 44, 10, 11, 12, 13, 14, 15, 16, 17, 18, 19] E2t E2b = (kL2, true) := by kernel_rfl
theorem g55 : segV Tryz.prog 148 kn1 19 Tryz.f4 (F4 4 10 3 15 0 11) 11 kL2 (putTs E2t) (memOf E2b) [0, 1, 2, 3, 4, 5, 6, 7, 8, 44, 10, 11, 12, 13, 14, 15, 16, 17, 18, 19] E3t E3b = (kL2, true) := by kernel_rfl
theorem g56 : segV Tryz.prog 148 kn1 19 Tryz.f4 (F4 5 10 4 15 0 11) 11 kL2 (putTs E3t) (memOf E3b) [0, 1, 2, 122, 124, 132, 134, 7, 8, 44, 10, 126, 128, 130, 136, 138, 140, 17, 18, 19] E4t E4b = (kL2, true) := by kernel_rfl
theorem g57 : segV Tryz.prog 148 kn1 19 Tryz.f4 (F4 6 10 5 15 0 11) 11 kL2 (putTs E4t) (memOf E4b) [0, 1, 2, 3, 4, 5, 6, 7, 8, 44, 10, 11, 12, 13, 14, 15, 16, 17, 18, 19] E5t E5b = (kL2, true) := by kernel_rfl
theorem g58 : segV Tryz.prog 148 kn1 19 Tryz.f4 (F4 7 10 6 15 0 11) 11 kL2 (putTs E5t) (memOf E5b) [0, 1, 2, 3, 4, 5, 6, 7, 8, 44, 10, 11, 12, 13, 14, 15, 16, 17, 18, 19] E6t E6b = (kL2, true) := by kernel_rfl
theorem g59 : segV Tryz.prog 148 kn1 19 Tryz.f4 (F4 8 10 7 15 0 11) 11 kL2 (putTs E6t) (memOf E6b) [0, 1, 2, 3, 4, 5, 6, 7, 8, 44, 10, 11, 12, 13, 14, 15, 16, 17, 18, 19] E7t E7b = (kL2, true) := by kernel_rfl
theorem g60 : segV Tryz.prog 148 kn1 19 Tryz.f4 (F4 9 10 8 15 0 11) 11 kL2 (putTs E7t) (memOf E7b) [0, 1, 2, 122, 124, 132, 134, 7, 8, 44, 10, 126, 128, 130, 136, 138, 140, 17, 18, 19] E8t E8b = (kL2, true) := by kernel_rfl
theorem g61 : segV Tryz.prog 148 kn1 19 Tryz.f4 (F4 10 10 9 15 0 11) 11 kL2 (putTs E8t) (memOf E8b) [0, 1, 2, 3, 4, 5, 6, 7, 8, 44, 10, 11, 12, 13, 14, 15, 16, 17, 18, 19] E9t E9b = (kL2, true) := by kernel_rfl
theorem hD0 : finV Tryz.prog 148 kn1 19 Tryz.f4 (F4 0 0 0 15 0 0) 7 kL1 (putTs D0t) (memOf D0b) = true := by kernel_rfl
theorem hD1 : finV Tryz.prog 148 kn1 19 Tryz.f4 (F4 0 1 1 15 1 1) 7 kL1 (putTs D1t) (memOf D1b) = true := by kernel_rfl
theorem hD2 : finV Tryz.prog 148 kn1 19 Tryz.f4 (F4 0 2 2 15 2 2) 7 kL1 (putTs D2t) (memOf D2b) = true := by kernel_rfl
theorem hD3 : finV Tryz.prog 148 kn1 19 Tryz.f4 (F4 0 3 3 15 3 3) 7 kL1 (putTs D3t) (memOf D3b) = true := by kernel_rfl
theorem hD4 : finV Tryz.prog 148 kn1 19 Tryz.f4 (F4 0 4 4 15 4 4) 7 kL1 (putTs D4t) (memOf D4b) = true := by kernel_rfl
theorem hD5 : finV Tryz.prog 148 kn1 19 Tryz.f4 (F4 0 5 5 15 5 5) 7 kL1 (putTs D5t) (memOf D5b) = true := by kernel_rfl
theorem hD6 : finV Tryz.prog 148 kn1 19 Tryz.f4 (F4 0 6 6 15 6 6) 7 kL1 (putTs D6t) (memOf D6b) = true := by kernel_rfl
theorem hD7 : finV Tryz.prog 148 kn1 19 Tryz.f4 (F4 0 7 7 15 7 7) 7 kL1 (putTs D7t) (memOf D7b) = true := by kernel_rfl
theorem hD8 : finV Tryz.prog 148 kn1 19 Tryz.f4 (F4 0 8 8 15 8 8) 7 kL1 (putTs D8t) (memOf D8b) = true := by kernel_rfl
theorem hD9 : finV Tryz.prog 148 kn1 19 Tryz.f4 (F4 0 9 9 15 9 9) 7 kL1 (putTs D9t) (memOf D9b) = true := by kernel_rfl
end Go.Proofs.YtbmhamijoajnhaaGreat.E
