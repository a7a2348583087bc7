/- TopTimes, in pieces, part 2: reckoned by the kernel. -/
import Derived.Test.YtbmhamijoajnhaaGreatET
import Derived.KernelRfl
namespace Go.Proofs.YtbmhamijoajnhaaGreat.E
open Go Go.RowKit
set_option maxRecDepth 100000
set_option linter.unusedSimpArgs false
set_option linter.unusedVariables false
theorem g24 : segV Tryz.prog 148 kn1 19 Tryz.f4 (F4 0 10 0 3 5 11) 11 kL1 (putTs X4t) (memOf X4b) [0, 1, 2, 3, 4, 5, 6, 7, 8, 9, 10, 11, 12, 13, 14, 15, 16, 17, 18] X5t X5b = (kL1, true) := by kernel_rfl
theorem g25 : segV Tryz.prog 148 kn1 19 Tryz.f4 (F4 5 10 4 15 4 4) 30 kL1 (putTs D4t) (memOf D4b) [0, 1, 2, 49, 51, 59, 61, 7, 8, 9, 10, 53, 55, 57, 63, 65, 67, 17, 18, 19] E4t E4b = (kL2, true) := by kernel_rfl
theorem g26 : segV Tryz.prog 148 kn1 19 Tryz.f4 (F4 0 10 5 5 6 11) 11 kL1 (putTs D5t) (memOf D5b) [0, 1, 2, 3, 4, 5, 6, 7, 8, 10, 11, 12, 13, 14, 15, 16, 17, 18, 19] X6t X6b = (kL1, true) := by kernel_rfl
theorem g27 : segV Tryz.prog 148 kn1 19 Tryz.f4 (F4 0 6 6 15 6 11) 11 kL1 (putTs D5t) (memOf D5b) [0, 1, 2, 3, 4, 5, 6, 7, 8, 44, 10, 11, 12, 13, 14, 15, 16, 17, 18, 19] D6t D6b = (kL1, true) := by kernel_rfl
theorem g28 : segV Tryz.prog 148 kn1 19 Tryz.f4 (F4 7 10 6 15 6 11) 11 kL1 (putTs D5t) (memOf D5b) [0, 1, 2, 3, 4, 5, 6, 7, 8, 44, 10, 11, 12, 13, 14, 15, 16, 17, 18, 19] D6t D6b = (kL1, true) := by kernel_rfl
theorem g29 : segV Tryz.prog 148 kn1 19 Tryz.f4 (F4 0 10 0 4 6 11) 11 kL1 (putTs X5t) (memOf X5b) [0, 1, 2, 3, 4, 5, 6, 7, 8, 9, 10, 11, 12, 13, 14, 15, 16, 17, 18] X6t X6b = (kL1, true) := by kernel_rfl
theorem g30 : segV Tryz.prog 148 kn1 19 Tryz.f4 (F4 6 10 5 15 5 5) 30 kL1 (putTs D5t) (memOf D5b) [0, 1, 2, 49, 51, 59, 61, 7, 8, 9, 10, 53, 55, 57, 63, 65, 67, 17, 18, 19] E5t E5b = (kL2, true) := by kernel_rfl
theorem g31 : segV Tryz.prog 148 kn1 19 Tryz.f4 (F4 0 10 6 6 7 11) 11 kL1 (putTs D6t) (memOf D6b) [0, 1, 2, 3, 4, 5, 6, 7, 8, 10, 11, 12, 13, 14, 15, 16, 17, 18, 19] X7t X7b = (kL1, true) := by kernel_rfl
theorem g32 : segV Tryz.prog 148 kn1 19 Tryz.f4 (F4 0 7 7 15 7 11) 11 kL1 (putTs D6t) (memOf D6b) [0, 1, 2, 3, 4, 5, 6, 7, 8, 44, 10, 11, 12, 13, 14, 15, 16, 17, 18, 19] D7t D7b = (kL1, true) := by kernel_rfl
theorem g33 : segV Tryz.prog 148 kn1 19 Tryz.f4 (F4 8 10 7 15 7 11) 11 kL1 (putTs D6t) (memOf D6b) [0, 1, 2, 3, 4, 5, 6, 7, 8, 44, 10, 11, 12, 13, 14, 15, 16, 17, 18, 19] D7t D7b = (kL1, true) := by kernel_rfl
theorem g34 : segV Tryz.prog 148 kn1 19 Tryz.f4 (F4 0 10 0 5 7 11) 11 kL1 (putTs X6t) (memOf X6b) [0, 1, 2, 3, 4, 5, 6, 7, 8, 9, 10, 11, 12, 13, 14, 15, 16, 17, 18] X7t X7b = (kL1, true) := by kernel_rfl
theorem g35 : segV Tryz.prog 148 kn1 19 Tryz.f4 (F4 7 10 6 15 6 6) 30 kL1 (putTs D6t) (memOf D6b) [0, 1, 2, 49, 51, 59, 61, 7, 8, 9, 10, 53, 55, 57, 63, 65, 67, 17, 18, 19] E6t E6b = (kL2, true) := by kernel_rfl
theorem g36 : segV Tryz.prog 148 kn1 19 Tryz.f4 (F4 0 10 7 7 8 11) 11 kL1 (putTs D7t) (memOf D7b) [0, 1, 2, 113, 115, 123, 125, 7, 8, 10, 117, 119, 121, 127, 129, 131, 17, 18, 19] X8t X8b = (kL1, true) := by kernel_rfl
theorem g37 : segV Tryz.prog 148 kn1 19 Tryz.f4 (F4 0 8 8 15 8 11) 11 kL1 (putTs D7t) (memOf D7b) [0, 1, 2, 213, 215, 223, 225, 7, 8, 44, 10, 217, 219, 221, 227, 229, 231, 17, 18, 19] D8t D8b = (kL1, true) := by kernel_rfl
theorem g38 : segV Tryz.prog 148 kn1 19 Tryz.f4 (F4 9 10 8 15 8 11) 11 kL1 (putTs D7t) (memOf D7b) [0, 1, 2, 122, 124, 132, 134, 7, 8, 44, 10, 126, 128, 130, 136, 138, 140, 17, 18, 19] D8t D8b = (kL1, true) := by kernel_rfl
theorem g39 : segV Tryz.prog 148 kn1 19 Tryz.f4 (F4 0 10 0 6 8 11) 11 kL1 (putTs X7t) (memOf X7b) [0, 1, 2, 105, 107, 115, 117, 7, 8, 9, 109, 111, 113, 119, 121, 123, 16, 17, 18] X8t X8b = (kL1, true) := by kernel_rfl
theorem g40 : segV Tryz.prog 148 kn1 19 Tryz.f4 (F4 8 10 7 15 7 7) 30 kL1 (putTs D7t) (memOf D7b) [0, 1, 2, 49, 51, 59, 61, 7, 8, 9, 10, 53, 55, 57, 63, 65, 67, 17, 18, 19] E7t E7b = (kL2, true) := by kernel_rfl
theorem g41 : segV Tryz.prog 148 kn1 19 Tryz.f4 (F4 0 10 8 8 9 11) 11 kL1 (putTs D8t) (memOf D8b) [0, 1, 2, 3, 4, 5, 6, 7, 8, 10, 11, 12, 13, 14, 15, 16, 17, 18, 19] X9t X9b = (kL1, true) := by kernel_rfl
theorem g42 : segV Tryz.prog 148 kn1 19 Tryz.f4 (F4 0 9 9 15 9 11) 11 kL1 (putTs D8t) (memOf D8b) [0, 1, 2, 3, 4, 5, 6, 7, 8, 44, 10, 11, 12, 13, 14, 15, 16, 17, 18, 19] D9t D9b = (kL1, true) := by kernel_rfl
theorem g43 : segV Tryz.prog 148 kn1 19 Tryz.f4 (F4 10 10 9 15 9 11) 11 kL1 (putTs D8t) (memOf D8b) [0, 1, 2, 3, 4, 5, 6, 7, 8, 44, 10, 11, 12, 13, 14, 15, 16, 17, 18, 19] D9t D9b = (kL1, true) := by kernel_rfl
theorem g44 : segV Tryz.prog 148 kn1 19 Tryz.f4 (F4 0 10 0 7 9 11) 11 kL1 (putTs X8t) (memOf X8b) [0, 1, 2, 3, 4, 5, 6, 7, 8, 9, 10, 11, 12, 13, 14, 15, 16, 17, 18] X9t X9b = (kL1, true) := by kernel_rfl
theorem g45 : segV Tryz.prog 148 kn1 19 Tryz.f4 (F4 9 10 8 15 8 8) 30 kL1 (putTs D8t) (memOf D8b) [0, 1, 2, 49, 51, 59, 61, 7, 8, 9, 10, 53, 55, 57, 63, 65, 67, 17, 18, 19] E8t E8b = (kL2, true) := by kernel_rfl
theorem g46 : segV Tryz.prog 148 kn1 19 Tryz.f4 (F4 0 10 9 9 10 11) 11 kL1 (putTs D9t) (memOf D9b) [0, 1, 2, 3, 4, 5, 6, 7, 8, 10, 11, 12, 13, 14, 15, 16, 17, 18, 19] X10t X10b = (kL1, true) := by kernel_rfl
theorem g47 : segV Tryz.prog 148 kn1 19 Tryz.f4 (F4 0 10 10 15 10 11) 11 kL1 (putTs D9t) (memOf D9b) [0, 1, 2, 3, 4, 5, 6, 7, 8, 44, 10, 11, 12, 13, 14, 15, 16, 17, 18, 19] D10t D10b = (kL1, true) := by kernel_rfl
end Go.Proofs.YtbmhamijoajnhaaGreat.E
