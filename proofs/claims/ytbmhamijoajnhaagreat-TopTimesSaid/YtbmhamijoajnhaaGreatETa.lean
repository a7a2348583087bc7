/- TopTimes, in pieces, part 1: reckoned by the kernel. -/
import Derived.Test.YtbmhamijoajnhaaGreatET
import Derived.KernelRfl
namespace Go.Proofs.YtbmhamijoajnhaaGreat.E
open Go Go.RowKit
set_option maxRecDepth 100000
set_option linter.unusedSimpArgs false
set_option linter.unusedVariables false
theorem g0 : segV Tryz.prog 148 kn1 19 Tryz.f4 (F4 0 0 0 15 0 11) 21 [.code codeOf] (putArgs args4 0 .lf) ⟨.lf, 0⟩ [3, 5, 1, 8, 10, 14, 15, 24, 33, 68, 64, 11, 12, 13, 16, 17, 18, 25, 28, 31] D0t D0b = (kL1, true) := by kernel_rfl
theorem g1 : segV Tryz.prog 148 kn1 19 Tryz.f4 (F4 1 10 0 15 0 11) 21 [.code codeOf] (putArgs args4 0 .lf) ⟨.lf, 0⟩ [3, 5, 1, 8, 10, 14, 15, 24, 33, 68, 64, 11, 12, 13, 16, 17, 18, 25, 28, 31] D0t D0b = (kL1, true) := by kernel_rfl
theorem g2 : segV Tryz.prog 148 kn1 19 Tryz.f4 (F4 0 10 0 0 1 11) 11 kL1 (putTs D0t) (memOf D0b) [0, 1, 2, 3, 4, 5, 6, 7, 8, 10, 11, 12, 13, 14, 15, 16, 17, 18, 19] X1t X1b = (kL1, true) := by kernel_rfl
theorem g3 : segV Tryz.prog 148 kn1 19 Tryz.f4 (F4 0 1 1 15 1 11) 11 kL1 (putTs D0t) (memOf D0b) [0, 1, 2, 3, 4, 5, 6, 7, 8, 44, 10, 11, 12, 13, 14, 15, 16, 17, 18, 19] D1t D1b = (kL1, true) := by kernel_rfl
theorem g4 : segV Tryz.prog 148 kn1 19 Tryz.f4 (F4 2 10 1 15 1 11) 11 kL1 (putTs D0t) (memOf D0b) [0, 1, 2, 3, 4, 5, 6, 7, 8, 44, 10, 11, 12, 13, 14, 15, 16, 17, 18, 19] D1t D1b = (kL1, true) := by kernel_rfl
theorem g5 : segV Tryz.prog 148 kn1 19 Tryz.f4 (F4 1 10 0 15 0 0) 30 kL1 (putTs D0t) (memOf D0b) [0, 1, 2, 49, 51, 59, 61, 7, 8, 9, 10, 53, 55, 57, 63, 65, 67, 17, 18, 19] E0t E0b = (kL2, true) := by kernel_rfl
theorem g6 : segV Tryz.prog 148 kn1 19 Tryz.f4 (F4 0 10 1 1 2 11) 11 kL1 (putTs D1t) (memOf D1b) [0, 1, 2, 3, 4, 5, 6, 7, 8, 10, 11, 12, 13, 14, 15, 16, 17, 18, 19] X2t X2b = (kL1, true) := by kernel_rfl
theorem g7 : segV Tryz.prog 148 kn1 19 Tryz.f4 (F4 0 2 2 15 2 11) 11 kL1 (putTs D1t) (memOf D1b) [0, 1, 2, 3, 4, 5, 6, 7, 8, 44, 10, 11, 12, 13, 14, 15, 16, 17, 18, 19] D2t D2b = (kL1, true) := by kernel_rfl
theorem g8 : segV Tryz.prog 148 kn1 19 Tryz.f4 (F4 3 10 2 15 2 11) 11 kL1 (putTs D1t) (memOf D1b) [0, 1, 2, 3, 4, 5, 6, 7, 8, 44, 10, 11, 12, 13, 14, 15, 16, 17, 18, 19] D2t D2b = (kL1, true) := by kernel_rfl
theorem g9 : segV Tryz.prog 148 kn1 19 Tryz.f4 (F4 0 10 0 0 2 11) 11 kL1 (putTs X1t) (memOf X1b) [0, 1, 2, 3, 4, 5, 6, 7, 8, 9, 10, 11, 12, 13, 14, 15, 16, 17, 18] X2t X2b = (kL1, true) := by kernel_rfl
theorem g10 : segV Tryz.prog 148 kn1 19 Tryz.f4 (F4 2 10 1 15 1 1) 30 kL1 (putTs D1t) (memOf D1b) [0, 1, 2, 49, 51, 59, 61, 7, 8, 9, 10, 53, 55, 57, 63, 65, 67, 17, 18, 19] E1t E1b = (kL2, true) := by kernel_rfl
theorem g11 : segV Tryz.prog 148 kn1 19 Tryz.f4 (F4 0 10 2 2 3 11) 11 kL1 (putTs D2t) (memOf D2b) [0, 1, 2, 3, 4, 5, 6, 7, 8, 10, 11, 12, 13, 14, 15, 16, 17, 18, 19] X3t X3b = (kL1, true) := by kernel_rfl
theorem g12 : segV Tryz.prog 148 kn1 19 Tryz.f4 (F4 0 3 3 15 3 11) 11 kL1 (putTs D2t) (memOf D2b) [0, 1, 2, 3, 4, 5, 6, 7, 8, 44, 10, 11, 12, 13, 14, 15, 16, 17, 18, 19] D3t D3b = (kL1, true) := by kernel_rfl
theorem g13 : segV Tryz.prog 148 kn1 19 Tryz.f4 (F4 4 10 3 15 3 11) 11 kL1 (putTs D2t) (memOf D2b) [0, 1, 2, 3, 4, 5, 6, 7, 8, 44, 10, 11, 12, 13, 14, 15, 16, 17, 18, 19] D3t D3b = (kL1, true) := by kernel_rfl
theorem g14 : segV Tryz.prog 148 kn1 19 Tryz.f4 (F4 0 10 0 1 3 11) 11 kL1 (putTs X2t) (memOf X2b) [0, 1, 2, 3, 4, 5, 6, 7, 8, 9, 10, 11, 12, 13, 14, 15, 16, 17, 18] X3t X3b = (kL1, true) := by kernel_rfl
theorem g15 : segV Tryz.prog 148 kn1 19 Tryz.f4 (F4 3 10 2 15 2 2) 30 kL1 (putTs D2t) (memOf D2b) [0, 1, 2, 49, 51, 59, 61, 7, 8, 9, 10, 53, 55, 57, 63, 65, 67, 17, 18, 19] E2t E2b = (kL2, true) := by kernel_rfl
theorem g16 : segV Tryz.prog 148 kn1 19 Tryz.f4 (F4 0 10 3 3 4 11) 11 kL1 (putTs D3t) (memOf D3b) [0, 1, 2, 113, 115, 123, 125, 7, 8, 10, 117, 119, 121, 127, 129, 131, 17, 18, 19] X4t X4b = (kL1, true) := by kernel_rfl
theorem g17 : segV Tryz.prog 148 kn1 19 Tryz.f4 (F4 0 4 4 15 4 11) 11 kL1 (putTs D3t) (memOf D3b) [0, 1, 2, 213, 215, 223, 225, 7, 8, 44, 10, 217, 219, 221, 227, 229, 231, 17, 18, 19] D4t D4b = (kL1, true) := by kernel_rfl
theorem g18 : segV Tryz.prog 148 kn1 19 Tryz.f4 (F4 5 10 4 15 4 11) 11 kL1 (putTs D3t) (memOf D3b) [0, 1, 2, 122, 124, 132, 134, 7, 8, 44, 10, 126, 128, 130, 136, 138, 140, 17, 18, 19] D4t D4b = (kL1, true) := by kernel_rfl
theorem g19 : segV Tryz.prog 148 kn1 19 Tryz.f4 (F4 0 10 0 2 4 11) 11 kL1 (putTs X3t) (memOf X3b) [0, 1, 2, 105, 107, 115, 117, 7, 8, 9, 109, 111, 113, 119, 121, 123, 16, 17, 18] X4t X4b = (kL1, true) := by kernel_rfl
theorem g20 : segV Tryz.prog 148 kn1 19 Tryz.f4 (F4 4 10 3 15 3 3) 30 kL1 (putTs D3t) (memOf D3b) [0, 1, 2, 49, 51, 59, 61, 7, 8, 9, 10, 53, 55, 57, 63, 65, 67, 17, 18, 19] E3t E3b = (kL2, true) := by kernel_rfl
theorem g21 : segV Tryz.prog 148 kn1 19 Tryz.f4 (F4 0 10 4 4 5 11) 11 kL1 (putTs D4t) (memOf D4b) [0, 1, 2, 3, 4, 5, 6, 7, 8, 10, 11, 12, 13, 14, 15, 16, 17, 18, 19] X5t X5b = (kL1, true) := by kernel_rfl
theorem g22 : segV Tryz.prog 148 kn1 19 Tryz.f4 (F4 0 5 5 15 5 11) 11 kL1 (putTs D4t) (memOf D4b) [0, 1, 2, 3, 4, 5, 6, 7, 8, 44, 10, 11, 12, 13, 14, 15, 16, 17, 18, 19] D5t D5b = (kL1, true) := by kernel_rfl
theorem g23 : segV Tryz.prog 148 kn1 19 Tryz.f4 (F4 6 10 5 15 5 11) 11 kL1 (putTs D4t) (memOf D4b) [0, 1, 2, 3, 4, 5, 6, 7, 8, 44, 10, 11, 12, 13, 14, 15, 16, 17, 18, 19] D5t D5b = (kL1, true) := by kernel_rfl
end Go.Proofs.YtbmhamijoajnhaaGreat.E
