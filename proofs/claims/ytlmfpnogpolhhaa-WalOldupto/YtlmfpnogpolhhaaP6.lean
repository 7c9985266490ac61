/- Printed by program: Go functions as Lean programs, each tied to its code. No condition. -/
import Derived.Test.YtlmfpnogpolhhaaP0
import Derived.Test.YtlmfpnogpolhhaaP1
import Derived.Test.YtlmfpnogpolhhaaP2
import Derived.Test.YtlmfpnogpolhhaaP3
import Derived.Test.YtlmfpnogpolhhaaP4
import Derived.Test.YtlmfpnogpolhhaaP5
set_option linter.unusedVariables false
set_option linter.unusedSimpArgs false
namespace Gx
open Go
set_option linter.unusedVariables false
set_option maxRecDepth 100000
/-- ramble/ramblelaw04.DiskNone -/
def ramblelaw04_DiskNone_j1 (self1 : (Int) → M (Bool)) (c13_31 : Int) (x93_27 : Bool) : M (Bool) := do
  M.ite x93_27 (do
    M.pure false
    ) (do
    self1 (IntKind.wrap .i64 (c13_31 + 1))
    )
noncomputable def ro7_7 : Array Oper := opsOf Go.Proofs.Try.f7 7
def tE7_7 : List (List Nat) := [[], [0], [1], [2], [2], [4, 2], [2, 2], [3, 5, 6, 6, 2], [7, 2], [2, 8], [9, 7], [10], [11, 10, 10], [12, 10], [10, 13], [14, 12], [15], [16, 15, 15], [17, 15], [15, 18], [19, 17], [20], [20], [22, 20], [21, 23, 20, 20], [24, 20], [20, 25], [26, 24], [27], [27], [29, 27], [28, 30, 27, 27], [31, 27], [27, 32], [33, 31], [34], [34], [36, 34], [34], [38, 34], [34], [40, 34], [35, 37, 39, 41, 34, 34], [42, 34], [34, 43], [44, 42], [45], [46, 45, 45], [45, 47], [48, 47], [49], [50, 49, 49], [51, 49], [49, 52], [53, 51], [54], [55, 54, 54], [56, 54], [57, 54], [54, 58], [59, 56], [60], [61, 60, 60], [62, 60], [60, 63], [64, 62], [65], [66, 65, 65], [67, 65], [65, 68]]
def tC7_7 : List (List Nat) := [[], [0], [1], [2], [2], [2, 4], [2], [2, 3, 5, 6], [2, 7], [2, 8], [9], [10], [10, 11], [10, 12], [10, 13], [14], [15], [15, 16], [15, 17], [15, 18], [19], [20], [20], [20, 22], [20, 21, 23], [20, 24], [20, 25], [26], [27], [27], [27, 29], [27, 28, 30], [27, 31], [27, 32], [33], [34], [34], [34, 36], [34], [34, 38], [34], [34, 40], [34, 35, 37, 39, 41], [34, 42], [34, 43], [44], [45], [45, 46], [45, 47], [48], [49], [49, 50], [49, 51], [49, 52], [53], [54], [54, 55], [54, 56], [54, 57], [54, 58], [59], [60], [60, 61], [60, 62], [60, 63], [64], [65], [65, 66], [65, 67], [65, 68]]
def tW7_7 : List (List Nat) := [[], [0], [0, 1], [0, 1, 2], [0, 1, 2], [0, 1, 2, 4], [0, 1, 2], [0, 1, 2, 3, 4, 5, 6], [0, 1, 2, 3, 4, 5, 6, 7], [0, 1, 2, 3, 4, 5, 6, 7, 8], [0, 1, 2, 3, 4, 5, 6, 7, 8, 9], [0, 1, 2, 3, 4, 5, 6, 7, 8, 9, 10], [0, 1, 2, 3, 4, 5, 6, 7, 8, 9, 10, 11], [0, 1, 2, 3, 4, 5, 6, 7, 8, 9, 10, 11, 12], [0, 1, 2, 3, 4, 5, 6, 7, 8, 9, 10, 11, 12, 13], [0, 1, 2, 3, 4, 5, 6, 7, 8, 9, 10, 11, 12, 13, 14], [0, 1, 2, 3, 4, 5, 6, 7, 8, 9, 10, 11, 12, 13, 14, 15], [0, 1, 2, 3, 4, 5, 6, 7, 8, 9, 10, 11, 12, 13, 14, 15, 16], [0, 1, 2, 3, 4, 5, 6, 7, 8, 9, 10, 11, 12, 13, 14, 15, 16, 17], [0, 1, 2, 3, 4, 5, 6, 7, 8, 9, 10, 11, 12, 13, 14, 15, 16, 17, 18], [0, 1, 2, 3, 4, 5, 6, 7, 8, 9, 10, 11, 12, 13, 14, 15, 16, 17, 18, 19], [0, 1, 2, 3, 4, 5, 6, 7, 8, 9, 10, 11, 12, 13, 14, 15, 16, 17, 18, 19, 20], [0, 1, 2, 3, 4, 5, 6, 7, 8, 9, 10, 11, 12, 13, 14, 15, 16, 17, 18, 19, 20], [0, 1, 2, 3, 4, 5, 6, 7, 8, 9, 10, 11, 12, 13, 14, 15, 16, 17, 18, 19, 20, 22], [0, 1, 2, 3, 4, 5, 6, 7, 8, 9, 10, 11, 12, 13, 14, 15, 16, 17, 18, 19, 20, 21, 22, 23], [0, 1, 2, 3, 4, 5, 6, 7, 8, 9, 10, 11, 12, 13, 14, 15, 16, 17, 18, 19, 20, 21, 22, 23, 24], [0, 1, 2, 3, 4, 5, 6, 7, 8, 9, 10, 11, 12, 13, 14, 15, 16, 17, 18, 19, 20, 21, 22, 23, 24, 25], [0, 1, 2, 3, 4, 5, 6, 7, 8, 9, 10, 11, 12, 13, 14, 15, 16, 17, 18, 19, 20, 21, 22, 23, 24, 25, 26], [0, 1, 2, 3, 4, 5, 6, 7, 8, 9, 10, 11, 12, 13, 14, 15, 16, 17, 18, 19, 20, 21, 22, 23, 24, 25, 26, 27], [0, 1, 2, 3, 4, 5, 6, 7, 8, 9, 10, 11, 12, 13, 14, 15, 16, 17, 18, 19, 20, 21, 22, 23, 24, 25, 26, 27], [0, 1, 2, 3, 4, 5, 6, 7, 8, 9, 10, 11, 12, 13, 14, 15, 16, 17, 18, 19, 20, 21, 22, 23, 24, 25, 26, 27, 29], [0, 1, 2, 3, 4, 5, 6, 7, 8, 9, 10, 11, 12, 13, 14, 15, 16, 17, 18, 19, 20, 21, 22, 23, 24, 25, 26, 27, 28, 29, 30], [0, 1, 2, 3, 4, 5, 6, 7, 8, 9, 10, 11, 12, 13, 14, 15, 16, 17, 18, 19, 20, 21, 22, 23, 24, 25, 26, 27, 28, 29, 30, 31], [0, 1, 2, 3, 4, 5, 6, 7, 8, 9, 10, 11, 12, 13, 14, 15, 16, 17, 18, 19, 20, 21, 22, 23, 24, 25, 26, 27, 28, 29, 30, 31, 32], [0, 1, 2, 3, 4, 5, 6, 7, 8, 9, 10, 11, 12, 13, 14, 15, 16, 17, 18, 19, 20, 21, 22, 23, 24, 25, 26, 27, 28, 29, 30, 31, 32, 33], [0, 1, 2, 3, 4, 5, 6, 7, 8, 9, 10, 11, 12, 13, 14, 15, 16, 17, 18, 19, 20, 21, 22, 23, 24, 25, 26, 27, 28, 29, 30, 31, 32, 33, 34], [0, 1, 2, 3, 4, 5, 6, 7, 8, 9, 10, 11, 12, 13, 14, 15, 16, 17, 18, 19, 20, 21, 22, 23, 24, 25, 26, 27, 28, 29, 30, 31, 32, 33, 34], [0, 1, 2, 3, 4, 5, 6, 7, 8, 9, 10, 11, 12, 13, 14, 15, 16, 17, 18, 19, 20, 21, 22, 23, 24, 25, 26, 27, 28, 29, 30, 31, 32, 33, 34, 36], [0, 1, 2, 3, 4, 5, 6, 7, 8, 9, 10, 11, 12, 13, 14, 15, 16, 17, 18, 19, 20, 21, 22, 23, 24, 25, 26, 27, 28, 29, 30, 31, 32, 33, 34], [0, 1, 2, 3, 4, 5, 6, 7, 8, 9, 10, 11, 12, 13, 14, 15, 16, 17, 18, 19, 20, 21, 22, 23, 24, 25, 26, 27, 28, 29, 30, 31, 32, 33, 34, 38], [0, 1, 2, 3, 4, 5, 6, 7, 8, 9, 10, 11, 12, 13, 14, 15, 16, 17, 18, 19, 20, 21, 22, 23, 24, 25, 26, 27, 28, 29, 30, 31, 32, 33, 34], [0, 1, 2, 3, 4, 5, 6, 7, 8, 9, 10, 11, 12, 13, 14, 15, 16, 17, 18, 19, 20, 21, 22, 23, 24, 25, 26, 27, 28, 29, 30, 31, 32, 33, 34, 40], [0, 1, 2, 3, 4, 5, 6, 7, 8, 9, 10, 11, 12, 13, 14, 15, 16, 17, 18, 19, 20, 21, 22, 23, 24, 25, 26, 27, 28, 29, 30, 31, 32, 33, 34, 35, 36, 37, 38, 39, 40, 41], [0, 1, 2, 3, 4, 5, 6, 7, 8, 9, 10, 11, 12, 13, 14, 15, 16, 17, 18, 19, 20, 21, 22, 23, 24, 25, 26, 27, 28, 29, 30, 31, 32, 33, 34, 35, 36, 37, 38, 39, 40, 41, 42], [0, 1, 2, 3, 4, 5, 6, 7, 8, 9, 10, 11, 12, 13, 14, 15, 16, 17, 18, 19, 20, 21, 22, 23, 24, 25, 26, 27, 28, 29, 30, 31, 32, 33, 34, 35, 36, 37, 38, 39, 40, 41, 42, 43], [0, 1, 2, 3, 4, 5, 6, 7, 8, 9, 10, 11, 12, 13, 14, 15, 16, 17, 18, 19, 20, 21, 22, 23, 24, 25, 26, 27, 28, 29, 30, 31, 32, 33, 34, 35, 36, 37, 38, 39, 40, 41, 42, 43, 44], [0, 1, 2, 3, 4, 5, 6, 7, 8, 9, 10, 11, 12, 13, 14, 15, 16, 17, 18, 19, 20, 21, 22, 23, 24, 25, 26, 27, 28, 29, 30, 31, 32, 33, 34, 35, 36, 37, 38, 39, 40, 41, 42, 43, 44, 45], [0, 1, 2, 3, 4, 5, 6, 7, 8, 9, 10, 11, 12, 13, 14, 15, 16, 17, 18, 19, 20, 21, 22, 23, 24, 25, 26, 27, 28, 29, 30, 31, 32, 33, 34, 35, 36, 37, 38, 39, 40, 41, 42, 43, 44, 45, 46], [0, 1, 2, 3, 4, 5, 6, 7, 8, 9, 10, 11, 12, 13, 14, 15, 16, 17, 18, 19, 20, 21, 22, 23, 24, 25, 26, 27, 28, 29, 30, 31, 32, 33, 34, 35, 36, 37, 38, 39, 40, 41, 42, 43, 44, 45, 46, 47], [0, 1, 2, 3, 4, 5, 6, 7, 8, 9, 10, 11, 12, 13, 14, 15, 16, 17, 18, 19, 20, 21, 22, 23, 24, 25, 26, 27, 28, 29, 30, 31, 32, 33, 34, 35, 36, 37, 38, 39, 40, 41, 42, 43, 44, 45, 46, 47, 48], [0, 1, 2, 3, 4, 5, 6, 7, 8, 9, 10, 11, 12, 13, 14, 15, 16, 17, 18, 19, 20, 21, 22, 23, 24, 25, 26, 27, 28, 29, 30, 31, 32, 33, 34, 35, 36, 37, 38, 39, 40, 41, 42, 43, 44, 45, 46, 47, 48, 49], [0, 1, 2, 3, 4, 5, 6, 7, 8, 9, 10, 11, 12, 13, 14, 15, 16, 17, 18, 19, 20, 21, 22, 23, 24, 25, 26, 27, 28, 29, 30, 31, 32, 33, 34, 35, 36, 37, 38, 39, 40, 41, 42, 43, 44, 45, 46, 47, 48, 49, 50], [0, 1, 2, 3, 4, 5, 6, 7, 8, 9, 10, 11, 12, 13, 14, 15, 16, 17, 18, 19, 20, 21, 22, 23, 24, 25, 26, 27, 28, 29, 30, 31, 32, 33, 34, 35, 36, 37, 38, 39, 40, 41, 42, 43, 44, 45, 46, 47, 48, 49, 50, 51], [0, 1, 2, 3, 4, 5, 6, 7, 8, 9, 10, 11, 12, 13, 14, 15, 16, 17, 18, 19, 20, 21, 22, 23, 24, 25, 26, 27, 28, 29, 30, 31, 32, 33, 34, 35, 36, 37, 38, 39, 40, 41, 42, 43, 44, 45, 46, 47, 48, 49, 50, 51, 52], [0, 1, 2, 3, 4, 5, 6, 7, 8, 9, 10, 11, 12, 13, 14, 15, 16, 17, 18, 19, 20, 21, 22, 23, 24, 25, 26, 27, 28, 29, 30, 31, 32, 33, 34, 35, 36, 37, 38, 39, 40, 41, 42, 43, 44, 45, 46, 47, 48, 49, 50, 51, 52, 53], [0, 1, 2, 3, 4, 5, 6, 7, 8, 9, 10, 11, 12, 13, 14, 15, 16, 17, 18, 19, 20, 21, 22, 23, 24, 25, 26, 27, 28, 29, 30, 31, 32, 33, 34, 35, 36, 37, 38, 39, 40, 41, 42, 43, 44, 45, 46, 47, 48, 49, 50, 51, 52, 53, 54], [0, 1, 2, 3, 4, 5, 6, 7, 8, 9, 10, 11, 12, 13, 14, 15, 16, 17, 18, 19, 20, 21, 22, 23, 24, 25, 26, 27, 28, 29, 30, 31, 32, 33, 34, 35, 36, 37, 38, 39, 40, 41, 42, 43, 44, 45, 46, 47, 48, 49, 50, 51, 52, 53, 54, 55], [0, 1, 2, 3, 4, 5, 6, 7, 8, 9, 10, 11, 12, 13, 14, 15, 16, 17, 18, 19, 20, 21, 22, 23, 24, 25, 26, 27, 28, 29, 30, 31, 32, 33, 34, 35, 36, 37, 38, 39, 40, 41, 42, 43, 44, 45, 46, 47, 48, 49, 50, 51, 52, 53, 54, 55, 56], [0, 1, 2, 3, 4, 5, 6, 7, 8, 9, 10, 11, 12, 13, 14, 15, 16, 17, 18, 19, 20, 21, 22, 23, 24, 25, 26, 27, 28, 29, 30, 31, 32, 33, 34, 35, 36, 37, 38, 39, 40, 41, 42, 43, 44, 45, 46, 47, 48, 49, 50, 51, 52, 53, 54, 55, 56, 57], [0, 1, 2, 3, 4, 5, 6, 7, 8, 9, 10, 11, 12, 13, 14, 15, 16, 17, 18, 19, 20, 21, 22, 23, 24, 25, 26, 27, 28, 29, 30, 31, 32, 33, 34, 35, 36, 37, 38, 39, 40, 41, 42, 43, 44, 45, 46, 47, 48, 49, 50, 51, 52, 53, 54, 55, 56, 57, 58], [0, 1, 2, 3, 4, 5, 6, 7, 8, 9, 10, 11, 12, 13, 14, 15, 16, 17, 18, 19, 20, 21, 22, 23, 24, 25, 26, 27, 28, 29, 30, 31, 32, 33, 34, 35, 36, 37, 38, 39, 40, 41, 42, 43, 44, 45, 46, 47, 48, 49, 50, 51, 52, 53, 54, 55, 56, 57, 58, 59], [0, 1, 2, 3, 4, 5, 6, 7, 8, 9, 10, 11, 12, 13, 14, 15, 16, 17, 18, 19, 20, 21, 22, 23, 24, 25, 26, 27, 28, 29, 30, 31, 32, 33, 34, 35, 36, 37, 38, 39, 40, 41, 42, 43, 44, 45, 46, 47, 48, 49, 50, 51, 52, 53, 54, 55, 56, 57, 58, 59, 60], [0, 1, 2, 3, 4, 5, 6, 7, 8, 9, 10, 11, 12, 13, 14, 15, 16, 17, 18, 19, 20, 21, 22, 23, 24, 25, 26, 27, 28, 29, 30, 31, 32, 33, 34, 35, 36, 37, 38, 39, 40, 41, 42, 43, 44, 45, 46, 47, 48, 49, 50, 51, 52, 53, 54, 55, 56, 57, 58, 59, 60, 61], [0, 1, 2, 3, 4, 5, 6, 7, 8, 9, 10, 11, 12, 13, 14, 15, 16, 17, 18, 19, 20, 21, 22, 23, 24, 25, 26, 27, 28, 29, 30, 31, 32, 33, 34, 35, 36, 37, 38, 39, 40, 41, 42, 43, 44, 45, 46, 47, 48, 49, 50, 51, 52, 53, 54, 55, 56, 57, 58, 59, 60, 61, 62], [0, 1, 2, 3, 4, 5, 6, 7, 8, 9, 10, 11, 12, 13, 14, 15, 16, 17, 18, 19, 20, 21, 22, 23, 24, 25, 26, 27, 28, 29, 30, 31, 32, 33, 34, 35, 36, 37, 38, 39, 40, 41, 42, 43, 44, 45, 46, 47, 48, 49, 50, 51, 52, 53, 54, 55, 56, 57, 58, 59, 60, 61, 62, 63], [0, 1, 2, 3, 4, 5, 6, 7, 8, 9, 10, 11, 12, 13, 14, 15, 16, 17, 18, 19, 20, 21, 22, 23, 24, 25, 26, 27, 28, 29, 30, 31, 32, 33, 34, 35, 36, 37, 38, 39, 40, 41, 42, 43, 44, 45, 46, 47, 48, 49, 50, 51, 52, 53, 54, 55, 56, 57, 58, 59, 60, 61, 62, 63, 64], [0, 1, 2, 3, 4, 5, 6, 7, 8, 9, 10, 11, 12, 13, 14, 15, 16, 17, 18, 19, 20, 21, 22, 23, 24, 25, 26, 27, 28, 29, 30, 31, 32, 33, 34, 35, 36, 37, 38, 39, 40, 41, 42, 43, 44, 45, 46, 47, 48, 49, 50, 51, 52, 53, 54, 55, 56, 57, 58, 59, 60, 61, 62, 63, 64, 65], [0, 1, 2, 3, 4, 5, 6, 7, 8, 9, 10, 11, 12, 13, 14, 15, 16, 17, 18, 19, 20, 21, 22, 23, 24, 25, 26, 27, 28, 29, 30, 31, 32, 33, 34, 35, 36, 37, 38, 39, 40, 41, 42, 43, 44, 45, 46, 47, 48, 49, 50, 51, 52, 53, 54, 55, 56, 57, 58, 59, 60, 61, 62, 63, 64, 65, 66], [0, 1, 2, 3, 4, 5, 6, 7, 8, 9, 10, 11, 12, 13, 14, 15, 16, 17, 18, 19, 20, 21, 22, 23, 24, 25, 26, 27, 28, 29, 30, 31, 32, 33, 34, 35, 36, 37, 38, 39, 40, 41, 42, 43, 44, 45, 46, 47, 48, 49, 50, 51, 52, 53, 54, 55, 56, 57, 58, 59, 60, 61, 62, 63, 64, 65, 66, 67], [0, 1, 2, 3, 4, 5, 6, 7, 8, 9, 10, 11, 12, 13, 14, 15, 16, 17, 18, 19, 20, 21, 22, 23, 24, 25, 26, 27, 28, 29, 30, 31, 32, 33, 34, 35, 36, 37, 38, 39, 40, 41, 42, 43, 44, 45, 46, 47, 48, 49, 50, 51, 52, 53, 54, 55, 56, 57, 58, 59, 60, 61, 62, 63, 64, 65, 66, 67, 68]]
theorem tb7_7 : tabAt Go.Proofs.Try.f7 7 tE7_7 tC7_7 tW7_7 = true := by kernel_rfl
theorem tb7_7m : tabMB 70 tE7_7 tC7_7 tW7_7 [0, 1, 2, 4, 4, 20, 4, 108, 132, 260, 640, 1024, 3072, 5120, 9216, 20480, 32768, 98304, 163840, 294912, 655360, 1048576, 1048576, 5242880, 11534336, 17825792, 34603008, 83886080, 134217728, 134217728, 671088640, 1476395008, 2281701376, 4429185024, 10737418240, 17179869184, 17179869184, 85899345920, 17179869184, 292057776128, 17179869184, 1116691496960, 2937757630464, 4415226380288, 8813272891392, 21990232555520, 35184372088832, 105553116266496, 175921860444160, 422212465065984, 562949953421312, 1688849860263936, 2814749767106560, 5066549580791808, 11258999068426240, 18014398509481984, 54043195528445952, 90071992547409920, 162129586585337856, 306244774661193728, 648518346341351424, 1152921504606846976, 3458764513820540928, 5764607523034234880, 10376293541461622784, 23058430092136939520, 36893488147419103232, 110680464442257309696, 184467440737095516160, 332041393326771929088] [0, 1, 2, 4, 4, 20, 4, 108, 132, 260, 512, 1024, 3072, 5120, 9216, 16384, 32768, 98304, 163840, 294912, 524288, 1048576, 1048576, 5242880, 11534336, 17825792, 34603008, 67108864, 134217728, 134217728, 671088640, 1476395008, 2281701376, 4429185024, 8589934592, 17179869184, 17179869184, 85899345920, 17179869184, 292057776128, 17179869184, 1116691496960, 2937757630464, 4415226380288, 8813272891392, 17592186044416, 35184372088832, 105553116266496, 175921860444160, 281474976710656, 562949953421312, 1688849860263936, 2814749767106560, 5066549580791808, 9007199254740992, 18014398509481984, 54043195528445952, 90071992547409920, 162129586585337856, 306244774661193728, 576460752303423488, 1152921504606846976, 3458764513820540928, 5764607523034234880, 10376293541461622784, 18446744073709551616, 36893488147419103232, 110680464442257309696, 184467440737095516160, 332041393326771929088] [0, 1, 3, 7, 7, 23, 7, 127, 255, 511, 1023, 2047, 4095, 8191, 16383, 32767, 65535, 131071, 262143, 524287, 1048575, 2097151, 2097151, 6291455, 16777215, 33554431, 67108863, 134217727, 268435455, 268435455, 805306367, 2147483647, 4294967295, 8589934591, 17179869183, 34359738367, 34359738367, 103079215103, 34359738367, 309237645311, 34359738367, 1133871366143, 4398046511103, 8796093022207, 17592186044415, 35184372088831, 70368744177663, 140737488355327, 281474976710655, 562949953421311, 1125899906842623, 2251799813685247, 4503599627370495, 9007199254740991, 18014398509481983, 36028797018963967, 72057594037927935, 144115188075855871, 288230376151711743, 576460752303423487, 1152921504606846975, 2305843009213693951, 4611686018427387903, 9223372036854775807, 18446744073709551615, 36893488147419103231, 73786976294838206463, 147573952589676412927, 295147905179352825855, 590295810358705651711] = true := by kernel_rfl
def ramblelaw04_DiskNone_l1 (c1_12 : Addr) (c11_13 : Sl) (c12_14 : Int) (self1 : (Int) → M (Bool)) : (Int) → M (Bool) := fun s => match s with
  | x13_11 => do
    M.ite (decide (x13_11 < c12_14)) (do
      let x15_20 ← ixL c11_13 x13_11 1
      let x16_21 ← ldP x15_20
      let x20_23 ← ldI .i64 ((c1_12).add 1)
      let x21_24 ← disk_Disk_Read x16_21 x20_23
      let x5_25 ← mkB ty_api_Sector (Array.replicate 128 (.int .u8 0) : Array Value)
      M.need (x21_24.1.size = 128)
      stG x5_25 x21_24.1
      M.ite (x21_24.2 != 2) (do
        ramblelaw04_DiskNone_j1 self1 x13_11 true
        ) (do
        let x29_34 ← ldI .i64 ((c1_12).add 1)
        let x30_35 ← ramblelaw04_filled 1
        chk (fun h : Heap => (hcell h ((c1_12).add 1) = some (.int .i64 x29_34)))
        let x31_36 ← disk_Disk_Write x16_21 x29_34 x30_35
        M.ite (x31_36 != 2) (do
          ramblelaw04_DiskNone_j1 self1 x13_11 true
          ) (do
          let x36_38 ← disk_Disk_Flush x16_21
          M.ite (x36_38 != 2) (do
            ramblelaw04_DiskNone_j1 self1 x13_11 true
            ) (do
            let x41_40 ← disk_Disk_SetFuse x16_21 1
            M.ite (x41_40 != 2) (do
              ramblelaw04_DiskNone_j1 self1 x13_11 true
              ) (do
              let x47_42 ← ldL ((c1_12).add 3)
              let x48_43 ← disk_Disk_Crash x16_21 0 x47_42
              M.ite (x48_43 != 2) (do
                ramblelaw04_DiskNone_j1 self1 x13_11 true
                ) (do
                let x54_45 ← ldL ((c1_12).add 3)
                let x55_46 ← disk_Disk_Start x16_21 0 x54_45
                M.ite (x55_46 != 2) (do
                  ramblelaw04_DiskNone_j1 self1 x13_11 true
                  ) (do
                  let x61_48 ← ldI .i64 ((c1_12).add 1)
                  let x63_49 ← ldI .i64 ((c1_12).add 4)
                  let x65_50 ← ldI .u32 ((c1_12).add 5)
                  let x66_51 ← disk_Disk_Burst x16_21 x61_48 x63_49 x65_50
                  M.ite (x66_51 != 2) (do
                    ramblelaw04_DiskNone_j1 self1 x13_11 true
                    ) (do
                    let x71_53 ← disk_Disk_Down x16_21
                    M.ite x71_53 (do
                      ramblelaw04_DiskNone_j1 self1 x13_11 true
                      ) (do
                      let x75_55 ← disk_Disk_Sectors x16_21
                      M.ite (x75_55 != 0) (do
                        ramblelaw04_DiskNone_j1 self1 x13_11 true
                        ) (do
                        let x80_57 ← disk_Disk_Dirty x16_21
                        M.ite ((x80_57.len : Int) != 0) (do
                          ramblelaw04_DiskNone_j1 self1 x13_11 true
                          ) (do
                          let x86_59 ← disk_Disk_Calls x16_21
                          M.ite (x86_59 != 0) (do
                            ramblelaw04_DiskNone_j1 self1 x13_11 true
                            ) (do
                            let x91_61 ← disk_Disk_Clone x16_21
                            ramblelaw04_DiskNone_j1 self1 x13_11 (!(x91_61).isNone)
                            )
                          )
                        )
                      )
                    )
                  )
                )
              )
            )
          )
        )
      ) (do
      M.pure true
      )
def ramblelaw04_DiskNone (x0 : Array Value) : M (Bool) := do
  let x1_2 ← mkB ty_ramblelaw04_Op x0
  let x7_5 ← ramblelaw04_begun
  M.ite (!x7_5) (do
    M.pure false
    ) (do
    let x10_9 ← mkB ty_disk_Disk (#[.slice none 0 0, .slice none 0 0, .map none, .bool false, .int .i64 0, .int .i64 0] : Array Value)
    let x11_10 ← bdL ty_p_disk_Disk 2 #[.pointer (none : Option Addr), .pointer (some x10_9)]
    M.loop (ramblelaw04_DiskNone_l1 x1_2 x11_10 (x11_10.len : Int)) 0
    )
theorem S_ramblelaw04_DiskNone (x0 : Array Value) : Sound Go.Proofs.Try.prog 7 #[.agg x0] (fun (r : Bool) => .bool r) (ramblelaw04_DiskNone x0) := by
  refine sound_of [(0, .agg x0)] Go.Proofs.Try.func7 rfl rfl (Nat.le_of_ble_eq_true rfl) (args_of ⟨rfl, trivial⟩) (fun w0 w Q R a hret hE hR H => ?_)
  unfold ramblelaw04_DiskNone at H
  refine w_seq (fun K hK_1 => ?_)
  refine t_region ?_
  obtain ⟨x1_2, qx1_2, H⟩ := H
  refine t_valh (v := .pointer (some x1_2)) rfl rfl hE rfl hR (r_box hE rfl qx1_2) (fun a w hE hR hh => ?_)
  replace H := M.at hh H; clear hh
  refine t_val (v := .bool false) rfl rfl hE rfl (r_assign hE rfl) (fun a hE => ?_)
  refine t_nil ?_
  refine hK_1 _ _ ?_
  refine w_seq (fun K hK_3 => ?_)
  refine w_seq (fun K hK_4 => ?_)
  refine t_region ?_
  refine t_call hE hR cl_ramblelaw04_begun rfl (S_ramblelaw04_begun ) (M.unbind H) (fun x7_5 a w ea hR H => ?_)
  have hE := Env.put_some hE rfl ea; clear ea
  refine t_val (v := .bool (!x7_5)) rfl rfl hE rfl (r_un hE rfl u_not) (fun a hE => ?_)
  refine t_nil ?_
  refine hK_4 _ _ ?_
  refine w_cond (!x7_5) hE rfl (fun hb => ?_) (fun hb => ?_)
  · replace H := M.ite_t hb H
    refine w_seq (fun K hK_6 => ?_)
    refine t_region ?_
    refine t_val (v := .bool false) rfl rfl hE rfl (r_assign hE rfl) (fun a hE => ?_)
    refine t_nil ?_
    refine hK_6 _ _ ?_
    refine w_ret ?_
    exact hret _ _ _ false _ hE hR (res_run hE rfl (RV.tmp rfl RV.nil)) rfl H
  · replace H := M.ite_f hb H
    refine w_skip ?_
    refine hK_3 _ _ ?_
    refine w_seq (fun K hK_7 => ?_)
    refine w_seq (fun K hK_8 => ?_)
    refine t_region ?_
    refine t_val (v := .agg (#[.slice none 0 0, .slice none 0 0, .map none, .bool false, .int .i64 0, .int .i64 0] : Array Value)) rfl rfl hE rfl (r_build0 bd66) (fun a hE => ?_)
    obtain ⟨x10_9, qx10_9, H⟩ := H
    refine t_valh (v := .pointer (some x10_9)) rfl rfl hE rfl hR (r_box hE rfl qx10_9) (fun a w hE hR hh => ?_)
    replace H := M.at hh H; clear hh
    obtain ⟨x11_10, qx11_10, H⟩ := H
    refine t_valh (v := (x11_10 : Sl).v) rfl rfl hE rfl hR (r_buildL (cells := #[.pointer (none : Option Addr), .pointer (some x10_9)]) hE rfl un67 sz23 zr23 rfl rfl qx11_10) (fun a w hE hR hh => ?_)
    replace H := M.at hh H; clear hh
    refine t_val (v := .int .i64 (x11_10.len : Int)) rfl rfl hE rfl (r_len hE rfl 23 un67) (fun a hE => ?_)
    refine t_val (v := .int .i64 0) rfl rfl hE rfl (r_move hE rfl) (fun a hE => ?_)
    refine t_nil ?_
    refine hK_8 _ _ ?_
    refine w_block ?_
    refine l_loop (fun (s : Int) => (⟨95, []⟩ : Frm)) (fun (s : Int) => [(1, .pointer (some x1_2)), (11, (x11_10 : Sl).v), (12, .int .i64 (x11_10.len : Int)), (13, .int .i64 s)]) H (hE.cut (.cons rfl (.cons rfl (.cons rfl (.cons rfl Subs.nil))))) hR (fun Y self1 hY_15 x13_11 a w hE hR H => ?_)
    replace hE : Env (⟨95, []⟩ : Frm) a [(1, .pointer (some x1_2)), (11, (x11_10 : Sl).v), (12, .int .i64 (x11_10.len : Int)), (13, .int .i64 x13_11)] := hE
    replace H : (ramblelaw04_DiskNone_l1 x1_2 x11_10 (x11_10.len : Int) self1 x13_11).wp w.heap Q := H
    unfold ramblelaw04_DiskNone_l1 at H
    refine w_seq (fun K hK_16 => ?_)
    refine t_region ?_
    refine t_val (v := .bool (decide (x13_11 < (x11_10.len : Int)))) rfl rfl hE rfl (r_bin hE rfl rfl g_int b_lss) (fun a hE => ?_)
    refine t_nil ?_
    refine hK_16 _ _ ?_
    refine w_seq (fun K hK_17 => ?_)
    refine w_cond (decide (x13_11 < (x11_10.len : Int))) hE rfl (fun hb => ?_) (fun hb => ?_)
    · replace H := M.ite_t hb H
      refine w_skip ?_
      refine hK_17 _ _ ?_
      refine w_seq (fun K hK_18 => ?_)
      refine w_block ?_
      refine w_seq (fun K hK_19 => ?_)
      refine t_region ?_
      obtain ⟨x15_20, qx15_20, H⟩ := H
      refine t_val (v := .pointer (some x15_20)) rfl rfl hE rfl (r_indexAddrL hE rfl rfl un67 sz23 qx15_20) (fun a hE => ?_)
      obtain ⟨x16_21, qx16_21, H⟩ := H
      refine t_val (v := .pointer x16_21) rfl rfl hE rfl (r_load hE rfl sc23 qx16_21) (fun a hE => ?_)
      refine t_val (v := .pointer x16_21) rfl rfl hE rfl (r_assign hE rfl) (fun a hE => ?_)
      refine t_nil ?_
      refine hK_19 _ _ ?_
      refine w_seq (fun K hK_22 => ?_)
      refine t_region ?_
      refine t_val (v := .pointer x16_21) rfl rfl hE rfl (r_move hE rfl) (fun a hE => ?_)
      refine t_val (v := .pointer (some ((x1_2).add 1))) rfl rfl hE rfl (r_fieldAddr hE rfl fd51_1) (fun a hE => ?_)
      obtain ⟨x20_23, qx20_23, H⟩ := H
      refine t_val (v := .int .i64 x20_23) rfl rfl hE rfl (r_load hE rfl sc3 qx20_23) (fun a hE => ?_)
      refine t_call hE hR cl_disk_Disk_Read rfl (S_disk_Disk_Read x16_21 x20_23) (M.unbind H) (fun x21_24 a w ea hR H => ?_)
      have hE := Env.put_some hE rfl ea; clear ea
      refine t_val (v := .tuple #[.agg x21_24.1, .int .i64 x21_24.2]) rfl rfl hE rfl (r_move hE rfl) (fun a hE => ?_)
      refine t_val (v := .agg x21_24.1) rfl rfl hE rfl (r_extract hE rfl rfl) (fun a hE => ?_)
      refine t_val (v := .int .i64 x21_24.2) rfl rfl hE rfl (r_extract hE rfl rfl) (fun a hE => ?_)
      obtain ⟨x5_25, qx5_25, H⟩ := H
      refine t_valh (v := .pointer (some x5_25)) rfl rfl hE rfl hR (r_alloc zr47 qx5_25) (fun a w hE hR hh => ?_)
      replace H := M.at hh H; clear hh
      obtain ⟨qz, H⟩ := H
      obtain ⟨u_26, qu_26, H⟩ := H
      refine t_sth rfl rfl hE hR (r_storeG hE rfl rfl sz47 qz qu_26) (fun a w hE hR hh => ?_)
      replace H := M.at hh H; clear hh
      refine t_val (v := .int .i64 x21_24.2) rfl rfl hE rfl (r_assign hE rfl) (fun a hE => ?_)
      refine t_nil ?_
      refine hK_22 _ _ ?_
      refine w_seq_join (fun a w => ∃ (x93_27 : Bool), Env (⟨95, []⟩ : Frm) a [(1, .pointer (some x1_2)), (11, (x11_10 : Sl).v), (12, .int .i64 (x11_10.len : Int)), (13, .int .i64 x13_11), (93, .bool x93_27)] ∧ Rest w0 w ∧ (ramblelaw04_DiskNone_j1 self1 x13_11 x93_27).wp w.heap Q) ?_ ?_
      · rintro a w ⟨x93_27, hE, hR, H⟩
        unfold ramblelaw04_DiskNone_j1 at H
        refine w_cond x93_27 hE rfl (fun hb => ?_) (fun hb => ?_)
        · replace H := M.ite_t hb H
          refine w_seq (fun K hK_32 => ?_)
          refine t_region ?_
          refine t_val (v := .bool false) rfl rfl hE rfl (r_assign hE rfl) (fun a hE => ?_)
          refine t_nil ?_
          refine hK_32 _ _ ?_
          refine w_ret ?_
          exact hret _ _ _ false _ hE hR (res_run hE rfl (RV.tmp rfl RV.nil)) rfl H
        · replace H := M.ite_f hb H
          refine w_skip ?_
          refine hK_18 _ _ ?_
          refine t_region ?_
          refine t_val (v := .int .i64 (IntKind.wrap .i64 (x13_11 + 1))) rfl rfl hE rfl (r_bin hE rfl rfl g_int b_add) (fun a hE => ?_)
          refine t_val (v := .int .i64 (IntKind.wrap .i64 (x13_11 + 1))) rfl rfl hE rfl (r_move hE rfl) (fun a hE => ?_)
          refine t_nil ?_
          exact hY_15 (IntKind.wrap .i64 (x13_11 + 1)) _ _ (hE.cut (.cons rfl (.cons rfl (.cons rfl (.cons rfl Subs.nil))))) hR H
      · skip
        rcases bool_em (x21_24.2 != 2) with hb_33 | hb_33
        · replace H := M.ite_t hb_33 H
          refine reg_eq (rops := ro7_7) (by kernel_rfl) ?_
          have hT : Tab ro7_7 _ _ _ := tab_of tb7_7 rfl (by kernel_rfl)
          have hM := TabM.of tb7_7m
          refine d_start (m := 70) (fun w : World => (fun h : Heap => True) w.heap) [0, 1, 2, 3, 4, 5, 6, 7, 8, 9, 10, 11, 12, 13, 14, 15, 16, 17, 18, 19, 20, 21, 22, 23, 24, 25, 26, 27, 28, 29, 30, 31, 32, 33, 34, 35, 36, 37, 38, 39, 40, 41, 42, 43, 44, 45, 46, 47, 48, 49, 50, 51, 52, 53, 54, 55, 56, 57, 58, 59, 60, 61, 62, 63, 64, 65, 66, 67, 68, 69] (unb 70 0) mo hR (by kernel_rfl) (by kernel_rfl) (fun w' e => by rw [e]; exact trivial) (fun w hh hR hs => ?_)
          replace H := M.at hh H; clear hh
          refine d_pureg (i := 0) (v := .int .i64 x21_24.2) (unb 70 1) rfl rfl hT (anyM hM (by kernel_rfl)) hE rfl (wanted_none rfl) (fun w => r_move hE rfl) (fun a hE => ?_)
          refine d_pureg (i := 1) (v := .bool (x21_24.2 != 2)) (unb 70 3) rfl rfl hT (anyM hM (by kernel_rfl)) hE rfl (wanted_none rfl) (fun w => r_bin hE rfl rfl g_int b_neq) (fun a hE => ?_)
          refine d_pureg (i := 2) (v := .bool (x21_24.2 != 2)) (unb 70 7) rfl rfl hT (anyM hM (by kernel_rfl)) hE rfl (wanted_none rfl) (fun w => r_move hE rfl) (fun a hE => ?_)
          have hE := hE.reb 26 (x21_24.2 != 2) true hb_33 rfl
          replace hE := hE.cut (l' := [(1, .pointer (some x1_2)), (11, (x11_10 : Sl).v), (12, .int .i64 (x11_10.len : Int)), (13, .int .i64 x13_11), (4, .pointer x16_21), (26, .bool true)]) (.cons rfl (.cons rfl (.cons rfl (.cons rfl (.cons rfl (.cons rfl Subs.nil))))))
          refine d_offsM' [(3, some 27), (4, some 28), (5, some 29), (6, some 30), (7, some 31), (8, some 32)] 61 hT hM hE (by kernel_rfl) (m' := 511) (by kernel_rfl) (fun a hE => ?_)
          refine d_pureg (i := 9) (v := .bool true) (unb 70 1023) rfl rfl hT (anyM hM (by kernel_rfl)) hE rfl (wanted_none rfl) (fun w => r_pick_t hE rfl rfl) (fun a hE => ?_)
          refine d_pureg (i := 10) (v := .bool true) (unb 70 2047) rfl rfl hT (anyM hM (by kernel_rfl)) hE rfl (wanted_none rfl) (fun w => r_move hE rfl) (fun a hE => ?_)
          refine d_offsM' [(11, some 35), (12, some 36), (13, some 37)] 56 hT hM hE (by kernel_rfl) (m' := 16383) (by kernel_rfl) (fun a hE => ?_)
          refine d_pureg (i := 14) (v := .bool true) (unb 70 32767) rfl rfl hT (anyM hM (by kernel_rfl)) hE rfl (wanted_none rfl) (fun w => r_pick_t hE rfl rfl) (fun a hE => ?_)
          refine d_pureg (i := 15) (v := .bool true) (unb 70 65535) rfl rfl hT (anyM hM (by kernel_rfl)) hE rfl (wanted_none rfl) (fun w => r_move hE rfl) (fun a hE => ?_)
          refine d_offsM' [(16, some 40), (17, some 41), (18, some 42)] 51 hT hM hE (by kernel_rfl) (m' := 524287) (by kernel_rfl) (fun a hE => ?_)
          refine d_pureg (i := 19) (v := .bool true) (unb 70 1048575) rfl rfl hT (anyM hM (by kernel_rfl)) hE rfl (wanted_none rfl) (fun w => r_pick_t hE rfl rfl) (fun a hE => ?_)
          refine d_pureg (i := 20) (v := .bool true) (unb 70 2097151) rfl rfl hT (anyM hM (by kernel_rfl)) hE rfl (wanted_none rfl) (fun w => r_move hE rfl) (fun a hE => ?_)
          refine d_offsM' [(21, some 45), (22, some 46), (23, some 47), (24, some 48), (25, some 49)] 44 hT hM hE (by kernel_rfl) (m' := 67108863) (by kernel_rfl) (fun a hE => ?_)
          refine d_pureg (i := 26) (v := .bool true) (unb 70 134217727) rfl rfl hT (anyM hM (by kernel_rfl)) hE rfl (wanted_none rfl) (fun w => r_pick_t hE rfl rfl) (fun a hE => ?_)
          refine d_pureg (i := 27) (v := .bool true) (unb 70 268435455) rfl rfl hT (anyM hM (by kernel_rfl)) hE rfl (wanted_none rfl) (fun w => r_move hE rfl) (fun a hE => ?_)
          refine d_offsM' [(28, some 52), (29, some 53), (30, some 54), (31, some 55), (32, some 56)] 37 hT hM hE (by kernel_rfl) (m' := 8589934591) (by kernel_rfl) (fun a hE => ?_)
          refine d_pureg (i := 33) (v := .bool true) (unb 70 17179869183) rfl rfl hT (anyM hM (by kernel_rfl)) hE rfl (wanted_none rfl) (fun w => r_pick_t hE rfl rfl) (fun a hE => ?_)
          refine d_pureg (i := 34) (v := .bool true) (unb 70 34359738367) rfl rfl hT (anyM hM (by kernel_rfl)) hE rfl (wanted_none rfl) (fun w => r_move hE rfl) (fun a hE => ?_)
          refine d_offsM' [(35, some 59), (36, some 60), (37, some 61), (38, some 62), (39, some 63), (40, some 64), (41, some 65), (42, some 66), (43, some 67)] 26 hT hM hE (by kernel_rfl) (m' := 17592186044415) (by kernel_rfl) (fun a hE => ?_)
          refine d_pureg (i := 44) (v := .bool true) (unb 70 35184372088831) rfl rfl hT (anyM hM (by kernel_rfl)) hE rfl (wanted_none rfl) (fun w => r_pick_t hE rfl rfl) (fun a hE => ?_)
          refine d_pureg (i := 45) (v := .bool true) (unb 70 70368744177663) rfl rfl hT (anyM hM (by kernel_rfl)) hE rfl (wanted_none rfl) (fun w => r_move hE rfl) (fun a hE => ?_)
          refine d_off (i := 46) (unb 70 140737488355327) rfl rfl hT (anyM hM (by kernel_rfl)) (unwanted_of rfl hE rfl rfl rfl) (fun a ea => ?_)
          have hE := Env.put_some hE rfl ea; clear ea
          refine d_off (i := 47) (unb 70 281474976710655) rfl rfl hT (anyM hM (by kernel_rfl)) (unwanted_of rfl hE rfl rfl rfl) (fun a ea => ?_)
          have hE := Env.put_some hE rfl ea; clear ea
          refine d_pureg (i := 48) (v := .bool true) (unb 70 562949953421311) rfl rfl hT (anyM hM (by kernel_rfl)) hE rfl (wanted_none rfl) (fun w => r_pick_t hE rfl rfl) (fun a hE => ?_)
          refine d_pureg (i := 49) (v := .bool true) (unb 70 1125899906842623) rfl rfl hT (anyM hM (by kernel_rfl)) hE rfl (wanted_none rfl) (fun w => r_move hE rfl) (fun a hE => ?_)
          refine d_offsM' [(50, some 74), (51, some 75), (52, some 76)] 17 hT hM hE (by kernel_rfl) (m' := 9007199254740991) (by kernel_rfl) (fun a hE => ?_)
          refine d_pureg (i := 53) (v := .bool true) (unb 70 18014398509481983) rfl rfl hT (anyM hM (by kernel_rfl)) hE rfl (wanted_none rfl) (fun w => r_pick_t hE rfl rfl) (fun a hE => ?_)
          refine d_pureg (i := 54) (v := .bool true) (unb 70 36028797018963967) rfl rfl hT (anyM hM (by kernel_rfl)) hE rfl (wanted_none rfl) (fun w => r_move hE rfl) (fun a hE => ?_)
          refine d_offsM' [(55, some 79), (56, some 80), (57, some 81), (58, some 82)] 11 hT hM hE (by kernel_rfl) (m' := 576460752303423487) (by kernel_rfl) (fun a hE => ?_)
          refine d_pureg (i := 59) (v := .bool true) (unb 70 1152921504606846975) rfl rfl hT (anyM hM (by kernel_rfl)) hE rfl (wanted_none rfl) (fun w => r_pick_t hE rfl rfl) (fun a hE => ?_)
          refine d_pureg (i := 60) (v := .bool true) (unb 70 2305843009213693951) rfl rfl hT (anyM hM (by kernel_rfl)) hE rfl (wanted_none rfl) (fun w => r_move hE rfl) (fun a hE => ?_)
          refine d_offsM' [(61, some 85), (62, some 86), (63, some 87)] 6 hT hM hE (by kernel_rfl) (m' := 18446744073709551615) (by kernel_rfl) (fun a hE => ?_)
          refine d_pureg (i := 64) (v := .bool true) (unb 70 36893488147419103231) rfl rfl hT (anyM hM (by kernel_rfl)) hE rfl (wanted_none rfl) (fun w => r_pick_t hE rfl rfl) (fun a hE => ?_)
          refine d_pureg (i := 65) (v := .bool true) (unb 70 73786976294838206463) rfl rfl hT (anyM hM (by kernel_rfl)) hE rfl (wanted_none rfl) (fun w => r_move hE rfl) (fun a hE => ?_)
          refine d_offsM' [(66, some 90), (67, some 91), (68, some 92)] 1 hT hM hE (by kernel_rfl) (m' := 590295810358705651711) (by kernel_rfl) (fun a hE => ?_)
          refine d_pureg (i := 69) (v := .bool true) (unb 70 1180591620717411303423) rfl rfl hT (anyM hM (by kernel_rfl)) hE rfl (wanted_none rfl) (fun w => r_pick_t hE rfl rfl) (fun a hE => ?_)
          refine d_done hT (doneM hM (by kernel_rfl)) ?_
          exact ⟨true, hE.cut (.cons rfl (.cons rfl (.cons rfl (.cons rfl (.cons rfl Subs.nil))))), hR, H⟩
        · replace H := M.ite_f hb_33 H
          obtain ⟨x29_34, qx29_34, H⟩ := H
          refine reg_eq (rops := ro7_7) (by kernel_rfl) ?_
          have hT : Tab ro7_7 _ _ _ := tab_of tb7_7 rfl (by kernel_rfl)
          have hM := TabM.of tb7_7m
          refine d_start (m := 70) (fun w : World => (fun h : Heap => (hcell h ((x1_2).add 1) = some (.int .i64 x29_34))) w.heap) [7, 8, 9, 10, 11, 12, 13, 14, 15, 16, 17, 18, 19, 20, 21, 22, 23, 24, 25, 26, 27, 28, 29, 30, 31, 32, 33, 34, 35, 36, 37, 38, 39, 40, 41, 42, 43, 44, 45, 46, 47, 48, 49, 50, 51, 52, 53, 54, 55, 56, 57, 58, 59, 60, 61, 62, 63, 64, 65, 66, 67, 68, 69] (unb 70 0) mo hR (by kernel_rfl) (by kernel_rfl) (fun w' e => by rw [e]; exact qx29_34) (fun w hh hR hs => ?_)
          replace H := M.at hh H; clear hh
          refine d_pureg (i := 0) (v := .int .i64 x21_24.2) (unb 70 1) rfl rfl hT (anyM hM (by kernel_rfl)) hE rfl (wanted_none rfl) (fun w => r_move hE rfl) (fun a hE => ?_)
          refine d_pureg (i := 1) (v := .bool (x21_24.2 != 2)) (unb 70 3) rfl rfl hT (anyM hM (by kernel_rfl)) hE rfl (wanted_none rfl) (fun w => r_bin hE rfl rfl g_int b_neq) (fun a hE => ?_)
          refine d_pureg (i := 2) (v := .bool (x21_24.2 != 2)) (unb 70 7) rfl rfl hT (anyM hM (by kernel_rfl)) hE rfl (wanted_none rfl) (fun w => r_move hE rfl) (fun a hE => ?_)
          have hE := hE.reb 26 (x21_24.2 != 2) false hb_33 rfl
          replace hE := hE.cut (l' := [(1, .pointer (some x1_2)), (11, (x11_10 : Sl).v), (12, .int .i64 (x11_10.len : Int)), (13, .int .i64 x13_11), (4, .pointer x16_21), (26, .bool false)]) (.cons rfl (.cons rfl (.cons rfl (.cons rfl (.cons rfl (.cons rfl Subs.nil))))))
          refine d_pureg (i := 3) (v := .pointer x16_21) (unb 70 15) rfl rfl hT (anyM hM (by kernel_rfl)) hE rfl (wanted_of rfl hE rfl rfl rfl) (fun w => r_move hE rfl) (fun a hE => ?_)
          refine d_pureg (i := 4) (v := .pointer (some ((x1_2).add 1))) (unb 70 31) rfl rfl hT (anyM hM (by kernel_rfl)) hE rfl (wanted_of rfl hE rfl rfl rfl) (fun w => r_fieldAddr hE rfl fd51_1) (fun a hE => ?_)
          refine d_read (i := 5) (v := .int .i64 x29_34) (unb 70 63) rfl rfl hT (takeM hM (by kernel_rfl)) hE rfl (wanted_of rfl hE rfl rfl rfl) hs (fun w s => r_load hE rfl sc3 s) (fun a hE => ?_)
          refine d_call (i := 6) (unb 70 127) rfl rfl rfl hT (oneM hM (by kernel_rfl)) rfl hE hR (wanted_of rfl hE rfl rfl rfl) cl_ramblelaw04_filled rfl (S_ramblelaw04_filled 1) (M.unbind H) (fun r h H w' e => by obtain ⟨_, sA, H⟩ := H; rw [e]; exact sA) (fun x30_35 a w ea hR H hs => ?_)
          obtain ⟨_, sA, H⟩ := H; clear sA
          have hE := Env.put_some hE rfl ea; clear ea
          refine d_calll (i := 7) (unb 70 255) rfl rfl rfl hT (oneM hM (by kernel_rfl)) rfl hE hR (wanted_of rfl hE rfl rfl rfl) cl_disk_Disk_Write rfl (S_disk_Disk_Write x16_21 x29_34 x30_35) (M.unbind H) (fun x31_36 a w ea hR H => ?_)
          have hE := Env.put_some hE rfl ea; clear ea
          rcases bool_em (x31_36 != 2) with hb_37 | hb_37
          · replace H := M.ite_t hb_37 H
            refine d_pureg (i := 8) (v := .bool (x31_36 != 2)) (unb 70 511) rfl rfl hT (anyM hM (by kernel_rfl)) hE rfl (wanted_of rfl hE rfl rfl rfl) (fun w => r_bin hE rfl rfl g_int b_neq) (fun a hE => ?_)
            refine d_pureg (i := 9) (v := .bool (x31_36 != 2)) (unb 70 1023) rfl rfl hT (anyM hM (by kernel_rfl)) hE rfl (wanted_none rfl) (fun w => r_pick_f hE rfl rfl) (fun a hE => ?_)
            refine d_pureg (i := 10) (v := .bool (x31_36 != 2)) (unb 70 2047) rfl rfl hT (anyM hM (by kernel_rfl)) hE rfl (wanted_none rfl) (fun w => r_move hE rfl) (fun a hE => ?_)
            have hE := hE.reb 34 (x31_36 != 2) true hb_37 rfl
            replace hE := hE.cut (l' := [(1, .pointer (some x1_2)), (11, (x11_10 : Sl).v), (12, .int .i64 (x11_10.len : Int)), (13, .int .i64 x13_11), (4, .pointer x16_21), (34, .bool true)]) (.cons rfl (.cons rfl (.cons rfl (.cons rfl (.cons rfl (.cons rfl Subs.nil))))))
            refine d_offsM' [(11, some 35), (12, some 36), (13, some 37)] 56 hT hM hE (by kernel_rfl) (m' := 16383) (by kernel_rfl) (fun a hE => ?_)
            refine d_pureg (i := 14) (v := .bool true) (unb 70 32767) rfl rfl hT (anyM hM (by kernel_rfl)) hE rfl (wanted_none rfl) (fun w => r_pick_t hE rfl rfl) (fun a hE => ?_)
            refine d_pureg (i := 15) (v := .bool true) (unb 70 65535) rfl rfl hT (anyM hM (by kernel_rfl)) hE rfl (wanted_none rfl) (fun w => r_move hE rfl) (fun a hE => ?_)
            refine d_offsM' [(16, some 40), (17, some 41), (18, some 42)] 51 hT hM hE (by kernel_rfl) (m' := 524287) (by kernel_rfl) (fun a hE => ?_)
            refine d_pureg (i := 19) (v := .bool true) (unb 70 1048575) rfl rfl hT (anyM hM (by kernel_rfl)) hE rfl (wanted_none rfl) (fun w => r_pick_t hE rfl rfl) (fun a hE => ?_)
            refine d_pureg (i := 20) (v := .bool true) (unb 70 2097151) rfl rfl hT (anyM hM (by kernel_rfl)) hE rfl (wanted_none rfl) (fun w => r_move hE rfl) (fun a hE => ?_)
            refine d_offsM' [(21, some 45), (22, some 46), (23, some 47), (24, some 48), (25, some 49)] 44 hT hM hE (by kernel_rfl) (m' := 67108863) (by kernel_rfl) (fun a hE => ?_)
            refine d_pureg (i := 26) (v := .bool true) (unb 70 134217727) rfl rfl hT (anyM hM (by kernel_rfl)) hE rfl (wanted_none rfl) (fun w => r_pick_t hE rfl rfl) (fun a hE => ?_)
            refine d_pureg (i := 27) (v := .bool true) (unb 70 268435455) rfl rfl hT (anyM hM (by kernel_rfl)) hE rfl (wanted_none rfl) (fun w => r_move hE rfl) (fun a hE => ?_)
            refine d_offsM' [(28, some 52), (29, some 53), (30, some 54), (31, some 55), (32, some 56)] 37 hT hM hE (by kernel_rfl) (m' := 8589934591) (by kernel_rfl) (fun a hE => ?_)
            refine d_pureg (i := 33) (v := .bool true) (unb 70 17179869183) rfl rfl hT (anyM hM (by kernel_rfl)) hE rfl (wanted_none rfl) (fun w => r_pick_t hE rfl rfl) (fun a hE => ?_)
            refine d_pureg (i := 34) (v := .bool true) (unb 70 34359738367) rfl rfl hT (anyM hM (by kernel_rfl)) hE rfl (wanted_none rfl) (fun w => r_move hE rfl) (fun a hE => ?_)
            refine d_offsM' [(35, some 59), (36, some 60), (37, some 61), (38, some 62), (39, some 63), (40, some 64), (41, some 65), (42, some 66), (43, some 67)] 26 hT hM hE (by kernel_rfl) (m' := 17592186044415) (by kernel_rfl) (fun a hE => ?_)
            refine d_pureg (i := 44) (v := .bool true) (unb 70 35184372088831) rfl rfl hT (anyM hM (by kernel_rfl)) hE rfl (wanted_none rfl) (fun w => r_pick_t hE rfl rfl) (fun a hE => ?_)
            refine d_pureg (i := 45) (v := .bool true) (unb 70 70368744177663) rfl rfl hT (anyM hM (by kernel_rfl)) hE rfl (wanted_none rfl) (fun w => r_move hE rfl) (fun a hE => ?_)
            refine d_off (i := 46) (unb 70 140737488355327) rfl rfl hT (anyM hM (by kernel_rfl)) (unwanted_of rfl hE rfl rfl rfl) (fun a ea => ?_)
            have hE := Env.put_some hE rfl ea; clear ea
            refine d_off (i := 47) (unb 70 281474976710655) rfl rfl hT (anyM hM (by kernel_rfl)) (unwanted_of rfl hE rfl rfl rfl) (fun a ea => ?_)
            have hE := Env.put_some hE rfl ea; clear ea
            refine d_pureg (i := 48) (v := .bool true) (unb 70 562949953421311) rfl rfl hT (anyM hM (by kernel_rfl)) hE rfl (wanted_none rfl) (fun w => r_pick_t hE rfl rfl) (fun a hE => ?_)
            refine d_pureg (i := 49) (v := .bool true) (unb 70 1125899906842623) rfl rfl hT (anyM hM (by kernel_rfl)) hE rfl (wanted_none rfl) (fun w => r_move hE rfl) (fun a hE => ?_)
            refine d_offsM' [(50, some 74), (51, some 75), (52, some 76)] 17 hT hM hE (by kernel_rfl) (m' := 9007199254740991) (by kernel_rfl) (fun a hE => ?_)
            refine d_pureg (i := 53) (v := .bool true) (unb 70 18014398509481983) rfl rfl hT (anyM hM (by kernel_rfl)) hE rfl (wanted_none rfl) (fun w => r_pick_t hE rfl rfl) (fun a hE => ?_)
            refine d_pureg (i := 54) (v := .bool true) (unb 70 36028797018963967) rfl rfl hT (anyM hM (by kernel_rfl)) hE rfl (wanted_none rfl) (fun w => r_move hE rfl) (fun a hE => ?_)
            refine d_offsM' [(55, some 79), (56, some 80), (57, some 81), (58, some 82)] 11 hT hM hE (by kernel_rfl) (m' := 576460752303423487) (by kernel_rfl) (fun a hE => ?_)
            refine d_pureg (i := 59) (v := .bool true) (unb 70 1152921504606846975) rfl rfl hT (anyM hM (by kernel_rfl)) hE rfl (wanted_none rfl) (fun w => r_pick_t hE rfl rfl) (fun a hE => ?_)
            refine d_pureg (i := 60) (v := .bool true) (unb 70 2305843009213693951) rfl rfl hT (anyM hM (by kernel_rfl)) hE rfl (wanted_none rfl) (fun w => r_move hE rfl) (fun a hE => ?_)
            refine d_offsM' [(61, some 85), (62, some 86), (63, some 87)] 6 hT hM hE (by kernel_rfl) (m' := 18446744073709551615) (by kernel_rfl) (fun a hE => ?_)
            refine d_pureg (i := 64) (v := .bool true) (unb 70 36893488147419103231) rfl rfl hT (anyM hM (by kernel_rfl)) hE rfl (wanted_none rfl) (fun w => r_pick_t hE rfl rfl) (fun a hE => ?_)
            refine d_pureg (i := 65) (v := .bool true) (unb 70 73786976294838206463) rfl rfl hT (anyM hM (by kernel_rfl)) hE rfl (wanted_none rfl) (fun w => r_move hE rfl) (fun a hE => ?_)
            refine d_offsM' [(66, some 90), (67, some 91), (68, some 92)] 1 hT hM hE (by kernel_rfl) (m' := 590295810358705651711) (by kernel_rfl) (fun a hE => ?_)
            refine d_pureg (i := 69) (v := .bool true) (unb 70 1180591620717411303423) rfl rfl hT (anyM hM (by kernel_rfl)) hE rfl (wanted_none rfl) (fun w => r_pick_t hE rfl rfl) (fun a hE => ?_)
            refine d_done hT (doneM hM (by kernel_rfl)) ?_
            exact ⟨true, hE.cut (.cons rfl (.cons rfl (.cons rfl (.cons rfl (.cons rfl Subs.nil))))), hR, H⟩
          · replace H := M.ite_f hb_37 H
            refine d_pureg (i := 8) (v := .bool (x31_36 != 2)) (unb 70 511) rfl rfl hT (anyM hM (by kernel_rfl)) hE rfl (wanted_of rfl hE rfl rfl rfl) (fun w => r_bin hE rfl rfl g_int b_neq) (fun a hE => ?_)
            refine d_pureg (i := 9) (v := .bool (x31_36 != 2)) (unb 70 1023) rfl rfl hT (anyM hM (by kernel_rfl)) hE rfl (wanted_none rfl) (fun w => r_pick_f hE rfl rfl) (fun a hE => ?_)
            refine d_pureg (i := 10) (v := .bool (x31_36 != 2)) (unb 70 2047) rfl rfl hT (anyM hM (by kernel_rfl)) hE rfl (wanted_none rfl) (fun w => r_move hE rfl) (fun a hE => ?_)
            have hE := hE.reb 34 (x31_36 != 2) false hb_37 rfl
            replace hE := hE.cut (l' := [(1, .pointer (some x1_2)), (11, (x11_10 : Sl).v), (12, .int .i64 (x11_10.len : Int)), (13, .int .i64 x13_11), (4, .pointer x16_21), (34, .bool false)]) (.cons rfl (.cons rfl (.cons rfl (.cons rfl (.cons rfl (.cons rfl Subs.nil))))))
            refine d_pureg (i := 11) (v := .pointer x16_21) (unb 70 4095) rfl rfl hT (anyM hM (by kernel_rfl)) hE rfl (wanted_of rfl hE rfl rfl rfl) (fun w => r_move hE rfl) (fun a hE => ?_)
            refine d_calll (i := 12) (unb 70 8191) rfl rfl rfl hT (oneM hM (by kernel_rfl)) rfl hE hR (wanted_of rfl hE rfl rfl rfl) cl_disk_Disk_Flush rfl (S_disk_Disk_Flush x16_21) (M.unbind H) (fun x36_38 a w ea hR H => ?_)
            have hE := Env.put_some hE rfl ea; clear ea
            rcases bool_em (x36_38 != 2) with hb_39 | hb_39
            · replace H := M.ite_t hb_39 H
              refine d_pureg (i := 13) (v := .bool (x36_38 != 2)) (unb 70 16383) rfl rfl hT (anyM hM (by kernel_rfl)) hE rfl (wanted_of rfl hE rfl rfl rfl) (fun w => r_bin hE rfl rfl g_int b_neq) (fun a hE => ?_)
              refine d_pureg (i := 14) (v := .bool (x36_38 != 2)) (unb 70 32767) rfl rfl hT (anyM hM (by kernel_rfl)) hE rfl (wanted_none rfl) (fun w => r_pick_f hE rfl rfl) (fun a hE => ?_)
              refine d_pureg (i := 15) (v := .bool (x36_38 != 2)) (unb 70 65535) rfl rfl hT (anyM hM (by kernel_rfl)) hE rfl (wanted_none rfl) (fun w => r_move hE rfl) (fun a hE => ?_)
              have hE := hE.reb 39 (x36_38 != 2) true hb_39 rfl
              replace hE := hE.cut (l' := [(1, .pointer (some x1_2)), (11, (x11_10 : Sl).v), (12, .int .i64 (x11_10.len : Int)), (13, .int .i64 x13_11), (4, .pointer x16_21), (39, .bool true)]) (.cons rfl (.cons rfl (.cons rfl (.cons rfl (.cons rfl (.cons rfl Subs.nil))))))
              refine d_offsM' [(16, some 40), (17, some 41), (18, some 42)] 51 hT hM hE (by kernel_rfl) (m' := 524287) (by kernel_rfl) (fun a hE => ?_)
              refine d_pureg (i := 19) (v := .bool true) (unb 70 1048575) rfl rfl hT (anyM hM (by kernel_rfl)) hE rfl (wanted_none rfl) (fun w => r_pick_t hE rfl rfl) (fun a hE => ?_)
              refine d_pureg (i := 20) (v := .bool true) (unb 70 2097151) rfl rfl hT (anyM hM (by kernel_rfl)) hE rfl (wanted_none rfl) (fun w => r_move hE rfl) (fun a hE => ?_)
              refine d_offsM' [(21, some 45), (22, some 46), (23, some 47), (24, some 48), (25, some 49)] 44 hT hM hE (by kernel_rfl) (m' := 67108863) (by kernel_rfl) (fun a hE => ?_)
              refine d_pureg (i := 26) (v := .bool true) (unb 70 134217727) rfl rfl hT (anyM hM (by kernel_rfl)) hE rfl (wanted_none rfl) (fun w => r_pick_t hE rfl rfl) (fun a hE => ?_)
              refine d_pureg (i := 27) (v := .bool true) (unb 70 268435455) rfl rfl hT (anyM hM (by kernel_rfl)) hE rfl (wanted_none rfl) (fun w => r_move hE rfl) (fun a hE => ?_)
              refine d_offsM' [(28, some 52), (29, some 53), (30, some 54), (31, some 55), (32, some 56)] 37 hT hM hE (by kernel_rfl) (m' := 8589934591) (by kernel_rfl) (fun a hE => ?_)
              refine d_pureg (i := 33) (v := .bool true) (unb 70 17179869183) rfl rfl hT (anyM hM (by kernel_rfl)) hE rfl (wanted_none rfl) (fun w => r_pick_t hE rfl rfl) (fun a hE => ?_)
              refine d_pureg (i := 34) (v := .bool true) (unb 70 34359738367) rfl rfl hT (anyM hM (by kernel_rfl)) hE rfl (wanted_none rfl) (fun w => r_move hE rfl) (fun a hE => ?_)
              refine d_offsM' [(35, some 59), (36, some 60), (37, some 61), (38, some 62), (39, some 63), (40, some 64), (41, some 65), (42, some 66), (43, some 67)] 26 hT hM hE (by kernel_rfl) (m' := 17592186044415) (by kernel_rfl) (fun a hE => ?_)
              refine d_pureg (i := 44) (v := .bool true) (unb 70 35184372088831) rfl rfl hT (anyM hM (by kernel_rfl)) hE rfl (wanted_none rfl) (fun w => r_pick_t hE rfl rfl) (fun a hE => ?_)
              refine d_pureg (i := 45) (v := .bool true) (unb 70 70368744177663) rfl rfl hT (anyM hM (by kernel_rfl)) hE rfl (wanted_none rfl) (fun w => r_move hE rfl) (fun a hE => ?_)
              refine d_off (i := 46) (unb 70 140737488355327) rfl rfl hT (anyM hM (by kernel_rfl)) (unwanted_of rfl hE rfl rfl rfl) (fun a ea => ?_)
              have hE := Env.put_some hE rfl ea; clear ea
              refine d_off (i := 47) (unb 70 281474976710655) rfl rfl hT (anyM hM (by kernel_rfl)) (unwanted_of rfl hE rfl rfl rfl) (fun a ea => ?_)
              have hE := Env.put_some hE rfl ea; clear ea
              refine d_pureg (i := 48) (v := .bool true) (unb 70 562949953421311) rfl rfl hT (anyM hM (by kernel_rfl)) hE rfl (wanted_none rfl) (fun w => r_pick_t hE rfl rfl) (fun a hE => ?_)
              refine d_pureg (i := 49) (v := .bool true) (unb 70 1125899906842623) rfl rfl hT (anyM hM (by kernel_rfl)) hE rfl (wanted_none rfl) (fun w => r_move hE rfl) (fun a hE => ?_)
              refine d_offsM' [(50, some 74), (51, some 75), (52, some 76)] 17 hT hM hE (by kernel_rfl) (m' := 9007199254740991) (by kernel_rfl) (fun a hE => ?_)
              refine d_pureg (i := 53) (v := .bool true) (unb 70 18014398509481983) rfl rfl hT (anyM hM (by kernel_rfl)) hE rfl (wanted_none rfl) (fun w => r_pick_t hE rfl rfl) (fun a hE => ?_)
              refine d_pureg (i := 54) (v := .bool true) (unb 70 36028797018963967) rfl rfl hT (anyM hM (by kernel_rfl)) hE rfl (wanted_none rfl) (fun w => r_move hE rfl) (fun a hE => ?_)
              refine d_offsM' [(55, some 79), (56, some 80), (57, some 81), (58, some 82)] 11 hT hM hE (by kernel_rfl) (m' := 576460752303423487) (by kernel_rfl) (fun a hE => ?_)
              refine d_pureg (i := 59) (v := .bool true) (unb 70 1152921504606846975) rfl rfl hT (anyM hM (by kernel_rfl)) hE rfl (wanted_none rfl) (fun w => r_pick_t hE rfl rfl) (fun a hE => ?_)
              refine d_pureg (i := 60) (v := .bool true) (unb 70 2305843009213693951) rfl rfl hT (anyM hM (by kernel_rfl)) hE rfl (wanted_none rfl) (fun w => r_move hE rfl) (fun a hE => ?_)
              refine d_offsM' [(61, some 85), (62, some 86), (63, some 87)] 6 hT hM hE (by kernel_rfl) (m' := 18446744073709551615) (by kernel_rfl) (fun a hE => ?_)
              refine d_pureg (i := 64) (v := .bool true) (unb 70 36893488147419103231) rfl rfl hT (anyM hM (by kernel_rfl)) hE rfl (wanted_none rfl) (fun w => r_pick_t hE rfl rfl) (fun a hE => ?_)
              refine d_pureg (i := 65) (v := .bool true) (unb 70 73786976294838206463) rfl rfl hT (anyM hM (by kernel_rfl)) hE rfl (wanted_none rfl) (fun w => r_move hE rfl) (fun a hE => ?_)
              refine d_offsM' [(66, some 90), (67, some 91), (68, some 92)] 1 hT hM hE (by kernel_rfl) (m' := 590295810358705651711) (by kernel_rfl) (fun a hE => ?_)
              refine d_pureg (i := 69) (v := .bool true) (unb 70 1180591620717411303423) rfl rfl hT (anyM hM (by kernel_rfl)) hE rfl (wanted_none rfl) (fun w => r_pick_t hE rfl rfl) (fun a hE => ?_)
              refine d_done hT (doneM hM (by kernel_rfl)) ?_
              exact ⟨true, hE.cut (.cons rfl (.cons rfl (.cons rfl (.cons rfl (.cons rfl Subs.nil))))), hR, H⟩
            · replace H := M.ite_f hb_39 H
              refine d_pureg (i := 13) (v := .bool (x36_38 != 2)) (unb 70 16383) rfl rfl hT (anyM hM (by kernel_rfl)) hE rfl (wanted_of rfl hE rfl rfl rfl) (fun w => r_bin hE rfl rfl g_int b_neq) (fun a hE => ?_)
              refine d_pureg (i := 14) (v := .bool (x36_38 != 2)) (unb 70 32767) rfl rfl hT (anyM hM (by kernel_rfl)) hE rfl (wanted_none rfl) (fun w => r_pick_f hE rfl rfl) (fun a hE => ?_)
              refine d_pureg (i := 15) (v := .bool (x36_38 != 2)) (unb 70 65535) rfl rfl hT (anyM hM (by kernel_rfl)) hE rfl (wanted_none rfl) (fun w => r_move hE rfl) (fun a hE => ?_)
              have hE := hE.reb 39 (x36_38 != 2) false hb_39 rfl
              replace hE := hE.cut (l' := [(1, .pointer (some x1_2)), (11, (x11_10 : Sl).v), (12, .int .i64 (x11_10.len : Int)), (13, .int .i64 x13_11), (4, .pointer x16_21), (39, .bool false)]) (.cons rfl (.cons rfl (.cons rfl (.cons rfl (.cons rfl (.cons rfl Subs.nil))))))
              refine d_pureg (i := 16) (v := .pointer x16_21) (unb 70 131071) rfl rfl hT (anyM hM (by kernel_rfl)) hE rfl (wanted_of rfl hE rfl rfl rfl) (fun w => r_move hE rfl) (fun a hE => ?_)
              refine d_calll (i := 17) (unb 70 262143) rfl rfl rfl hT (oneM hM (by kernel_rfl)) rfl hE hR (wanted_of rfl hE rfl rfl rfl) cl_disk_Disk_SetFuse rfl (S_disk_Disk_SetFuse x16_21 1) (M.unbind H) (fun x41_40 a w ea hR H => ?_)
              have hE := Env.put_some hE rfl ea; clear ea
              rcases bool_em (x41_40 != 2) with hb_41 | hb_41
              · replace H := M.ite_t hb_41 H
                refine d_pureg (i := 18) (v := .bool (x41_40 != 2)) (unb 70 524287) rfl rfl hT (anyM hM (by kernel_rfl)) hE rfl (wanted_of rfl hE rfl rfl rfl) (fun w => r_bin hE rfl rfl g_int b_neq) (fun a hE => ?_)
                refine d_pureg (i := 19) (v := .bool (x41_40 != 2)) (unb 70 1048575) rfl rfl hT (anyM hM (by kernel_rfl)) hE rfl (wanted_none rfl) (fun w => r_pick_f hE rfl rfl) (fun a hE => ?_)
                refine d_pureg (i := 20) (v := .bool (x41_40 != 2)) (unb 70 2097151) rfl rfl hT (anyM hM (by kernel_rfl)) hE rfl (wanted_none rfl) (fun w => r_move hE rfl) (fun a hE => ?_)
                have hE := hE.reb 44 (x41_40 != 2) true hb_41 rfl
                replace hE := hE.cut (l' := [(1, .pointer (some x1_2)), (11, (x11_10 : Sl).v), (12, .int .i64 (x11_10.len : Int)), (13, .int .i64 x13_11), (4, .pointer x16_21), (44, .bool true)]) (.cons rfl (.cons rfl (.cons rfl (.cons rfl (.cons rfl (.cons rfl Subs.nil))))))
                refine d_offsM' [(21, some 45), (22, some 46), (23, some 47), (24, some 48), (25, some 49)] 44 hT hM hE (by kernel_rfl) (m' := 67108863) (by kernel_rfl) (fun a hE => ?_)
                refine d_pureg (i := 26) (v := .bool true) (unb 70 134217727) rfl rfl hT (anyM hM (by kernel_rfl)) hE rfl (wanted_none rfl) (fun w => r_pick_t hE rfl rfl) (fun a hE => ?_)
                refine d_pureg (i := 27) (v := .bool true) (unb 70 268435455) rfl rfl hT (anyM hM (by kernel_rfl)) hE rfl (wanted_none rfl) (fun w => r_move hE rfl) (fun a hE => ?_)
                refine d_offsM' [(28, some 52), (29, some 53), (30, some 54), (31, some 55), (32, some 56)] 37 hT hM hE (by kernel_rfl) (m' := 8589934591) (by kernel_rfl) (fun a hE => ?_)
                refine d_pureg (i := 33) (v := .bool true) (unb 70 17179869183) rfl rfl hT (anyM hM (by kernel_rfl)) hE rfl (wanted_none rfl) (fun w => r_pick_t hE rfl rfl) (fun a hE => ?_)
                refine d_pureg (i := 34) (v := .bool true) (unb 70 34359738367) rfl rfl hT (anyM hM (by kernel_rfl)) hE rfl (wanted_none rfl) (fun w => r_move hE rfl) (fun a hE => ?_)
                refine d_offsM' [(35, some 59), (36, some 60), (37, some 61), (38, some 62), (39, some 63), (40, some 64), (41, some 65), (42, some 66), (43, some 67)] 26 hT hM hE (by kernel_rfl) (m' := 17592186044415) (by kernel_rfl) (fun a hE => ?_)
                refine d_pureg (i := 44) (v := .bool true) (unb 70 35184372088831) rfl rfl hT (anyM hM (by kernel_rfl)) hE rfl (wanted_none rfl) (fun w => r_pick_t hE rfl rfl) (fun a hE => ?_)
                refine d_pureg (i := 45) (v := .bool true) (unb 70 70368744177663) rfl rfl hT (anyM hM (by kernel_rfl)) hE rfl (wanted_none rfl) (fun w => r_move hE rfl) (fun a hE => ?_)
                refine d_off (i := 46) (unb 70 140737488355327) rfl rfl hT (anyM hM (by kernel_rfl)) (unwanted_of rfl hE rfl rfl rfl) (fun a ea => ?_)
                have hE := Env.put_some hE rfl ea; clear ea
                refine d_off (i := 47) (unb 70 281474976710655) rfl rfl hT (anyM hM (by kernel_rfl)) (unwanted_of rfl hE rfl rfl rfl) (fun a ea => ?_)
                have hE := Env.put_some hE rfl ea; clear ea
                refine d_pureg (i := 48) (v := .bool true) (unb 70 562949953421311) rfl rfl hT (anyM hM (by kernel_rfl)) hE rfl (wanted_none rfl) (fun w => r_pick_t hE rfl rfl) (fun a hE => ?_)
                refine d_pureg (i := 49) (v := .bool true) (unb 70 1125899906842623) rfl rfl hT (anyM hM (by kernel_rfl)) hE rfl (wanted_none rfl) (fun w => r_move hE rfl) (fun a hE => ?_)
                refine d_offsM' [(50, some 74), (51, some 75), (52, some 76)] 17 hT hM hE (by kernel_rfl) (m' := 9007199254740991) (by kernel_rfl) (fun a hE => ?_)
                refine d_pureg (i := 53) (v := .bool true) (unb 70 18014398509481983) rfl rfl hT (anyM hM (by kernel_rfl)) hE rfl (wanted_none rfl) (fun w => r_pick_t hE rfl rfl) (fun a hE => ?_)
                refine d_pureg (i := 54) (v := .bool true) (unb 70 36028797018963967) rfl rfl hT (anyM hM (by kernel_rfl)) hE rfl (wanted_none rfl) (fun w => r_move hE rfl) (fun a hE => ?_)
                refine d_offsM' [(55, some 79), (56, some 80), (57, some 81), (58, some 82)] 11 hT hM hE (by kernel_rfl) (m' := 576460752303423487) (by kernel_rfl) (fun a hE => ?_)
                refine d_pureg (i := 59) (v := .bool true) (unb 70 1152921504606846975) rfl rfl hT (anyM hM (by kernel_rfl)) hE rfl (wanted_none rfl) (fun w => r_pick_t hE rfl rfl) (fun a hE => ?_)
                refine d_pureg (i := 60) (v := .bool true) (unb 70 2305843009213693951) rfl rfl hT (anyM hM (by kernel_rfl)) hE rfl (wanted_none rfl) (fun w => r_move hE rfl) (fun a hE => ?_)
                refine d_offsM' [(61, some 85), (62, some 86), (63, some 87)] 6 hT hM hE (by kernel_rfl) (m' := 18446744073709551615) (by kernel_rfl) (fun a hE => ?_)
                refine d_pureg (i := 64) (v := .bool true) (unb 70 36893488147419103231) rfl rfl hT (anyM hM (by kernel_rfl)) hE rfl (wanted_none rfl) (fun w => r_pick_t hE rfl rfl) (fun a hE => ?_)
                refine d_pureg (i := 65) (v := .bool true) (unb 70 73786976294838206463) rfl rfl hT (anyM hM (by kernel_rfl)) hE rfl (wanted_none rfl) (fun w => r_move hE rfl) (fun a hE => ?_)
                refine d_offsM' [(66, some 90), (67, some 91), (68, some 92)] 1 hT hM hE (by kernel_rfl) (m' := 590295810358705651711) (by kernel_rfl) (fun a hE => ?_)
                refine d_pureg (i := 69) (v := .bool true) (unb 70 1180591620717411303423) rfl rfl hT (anyM hM (by kernel_rfl)) hE rfl (wanted_none rfl) (fun w => r_pick_t hE rfl rfl) (fun a hE => ?_)
                refine d_done hT (doneM hM (by kernel_rfl)) ?_
                exact ⟨true, hE.cut (.cons rfl (.cons rfl (.cons rfl (.cons rfl (.cons rfl Subs.nil))))), hR, H⟩
              · replace H := M.ite_f hb_41 H
                obtain ⟨x47_42, qx47_42, H⟩ := H
                refine d_switch (fun w : World => (fun h : Heap => (hcell h ((x1_2).add 3) = some ((x47_42 : Sl).v))) w.heap) [24, 25, 26, 27, 28, 29, 30, 31, 32, 33, 34, 35, 36, 37, 38, 39, 40, 41, 42, 43, 44, 45, 46, 47, 48, 49, 50, 51, 52, 53, 54, 55, 56, 57, 58, 59, 60, 61, 62, 63, 64, 65, 66, 67, 68, 69] (allInM hT hM (by kernel_rfl)) ?_
                have hs : (fun h : Heap => (hcell h ((x1_2).add 3) = some ((x47_42 : Sl).v))) w.heap := qx47_42
                refine d_pureg (i := 18) (v := .bool (x41_40 != 2)) (unb 70 524287) rfl rfl hT (anyM hM (by kernel_rfl)) hE rfl (wanted_of rfl hE rfl rfl rfl) (fun w => r_bin hE rfl rfl g_int b_neq) (fun a hE => ?_)
                refine d_pureg (i := 19) (v := .bool (x41_40 != 2)) (unb 70 1048575) rfl rfl hT (anyM hM (by kernel_rfl)) hE rfl (wanted_none rfl) (fun w => r_pick_f hE rfl rfl) (fun a hE => ?_)
                refine d_pureg (i := 20) (v := .bool (x41_40 != 2)) (unb 70 2097151) rfl rfl hT (anyM hM (by kernel_rfl)) hE rfl (wanted_none rfl) (fun w => r_move hE rfl) (fun a hE => ?_)
                have hE := hE.reb 44 (x41_40 != 2) false hb_41 rfl
                replace hE := hE.cut (l' := [(1, .pointer (some x1_2)), (11, (x11_10 : Sl).v), (12, .int .i64 (x11_10.len : Int)), (13, .int .i64 x13_11), (4, .pointer x16_21), (44, .bool false)]) (.cons rfl (.cons rfl (.cons rfl (.cons rfl (.cons rfl (.cons rfl Subs.nil))))))
                refine d_pureg (i := 21) (v := .pointer x16_21) (unb 70 4194303) rfl rfl hT (anyM hM (by kernel_rfl)) hE rfl (wanted_of rfl hE rfl rfl rfl) (fun w => r_move hE rfl) (fun a hE => ?_)
                refine d_pureg (i := 22) (v := .pointer (some ((x1_2).add 3))) (unb 70 8388607) rfl rfl hT (anyM hM (by kernel_rfl)) hE rfl (wanted_of rfl hE rfl rfl rfl) (fun w => r_fieldAddr hE rfl fd51_3) (fun a hE => ?_)
                refine d_read (i := 23) (v := (x47_42 : Sl).v) (unb 70 16777215) rfl rfl hT (takeM hM (by kernel_rfl)) hE rfl (wanted_of rfl hE rfl rfl rfl) hs (fun w s => r_load hE rfl sc45 s) (fun a hE => ?_)
                refine d_calll (i := 24) (unb 70 33554431) rfl rfl rfl hT (oneM hM (by kernel_rfl)) rfl hE hR (wanted_of rfl hE rfl rfl rfl) cl_disk_Disk_Crash rfl (S_disk_Disk_Crash x16_21 0 x47_42) (M.unbind H) (fun x48_43 a w ea hR H => ?_)
                have hE := Env.put_some hE rfl ea; clear ea
                rcases bool_em (x48_43 != 2) with hb_44 | hb_44
                · replace H := M.ite_t hb_44 H
                  refine d_pureg (i := 25) (v := .bool (x48_43 != 2)) (unb 70 67108863) rfl rfl hT (anyM hM (by kernel_rfl)) hE rfl (wanted_of rfl hE rfl rfl rfl) (fun w => r_bin hE rfl rfl g_int b_neq) (fun a hE => ?_)
                  refine d_pureg (i := 26) (v := .bool (x48_43 != 2)) (unb 70 134217727) rfl rfl hT (anyM hM (by kernel_rfl)) hE rfl (wanted_none rfl) (fun w => r_pick_f hE rfl rfl) (fun a hE => ?_)
                  refine d_pureg (i := 27) (v := .bool (x48_43 != 2)) (unb 70 268435455) rfl rfl hT (anyM hM (by kernel_rfl)) hE rfl (wanted_none rfl) (fun w => r_move hE rfl) (fun a hE => ?_)
                  have hE := hE.reb 51 (x48_43 != 2) true hb_44 rfl
                  replace hE := hE.cut (l' := [(1, .pointer (some x1_2)), (11, (x11_10 : Sl).v), (12, .int .i64 (x11_10.len : Int)), (13, .int .i64 x13_11), (4, .pointer x16_21), (51, .bool true)]) (.cons rfl (.cons rfl (.cons rfl (.cons rfl (.cons rfl (.cons rfl Subs.nil))))))
                  refine d_offsM' [(28, some 52), (29, some 53), (30, some 54), (31, some 55), (32, some 56)] 37 hT hM hE (by kernel_rfl) (m' := 8589934591) (by kernel_rfl) (fun a hE => ?_)
                  refine d_pureg (i := 33) (v := .bool true) (unb 70 17179869183) rfl rfl hT (anyM hM (by kernel_rfl)) hE rfl (wanted_none rfl) (fun w => r_pick_t hE rfl rfl) (fun a hE => ?_)
                  refine d_pureg (i := 34) (v := .bool true) (unb 70 34359738367) rfl rfl hT (anyM hM (by kernel_rfl)) hE rfl (wanted_none rfl) (fun w => r_move hE rfl) (fun a hE => ?_)
                  refine d_offsM' [(35, some 59), (36, some 60), (37, some 61), (38, some 62), (39, some 63), (40, some 64), (41, some 65), (42, some 66), (43, some 67)] 26 hT hM hE (by kernel_rfl) (m' := 17592186044415) (by kernel_rfl) (fun a hE => ?_)
                  refine d_pureg (i := 44) (v := .bool true) (unb 70 35184372088831) rfl rfl hT (anyM hM (by kernel_rfl)) hE rfl (wanted_none rfl) (fun w => r_pick_t hE rfl rfl) (fun a hE => ?_)
                  refine d_pureg (i := 45) (v := .bool true) (unb 70 70368744177663) rfl rfl hT (anyM hM (by kernel_rfl)) hE rfl (wanted_none rfl) (fun w => r_move hE rfl) (fun a hE => ?_)
                  refine d_off (i := 46) (unb 70 140737488355327) rfl rfl hT (anyM hM (by kernel_rfl)) (unwanted_of rfl hE rfl rfl rfl) (fun a ea => ?_)
                  have hE := Env.put_some hE rfl ea; clear ea
                  refine d_off (i := 47) (unb 70 281474976710655) rfl rfl hT (anyM hM (by kernel_rfl)) (unwanted_of rfl hE rfl rfl rfl) (fun a ea => ?_)
                  have hE := Env.put_some hE rfl ea; clear ea
                  refine d_pureg (i := 48) (v := .bool true) (unb 70 562949953421311) rfl rfl hT (anyM hM (by kernel_rfl)) hE rfl (wanted_none rfl) (fun w => r_pick_t hE rfl rfl) (fun a hE => ?_)
                  refine d_pureg (i := 49) (v := .bool true) (unb 70 1125899906842623) rfl rfl hT (anyM hM (by kernel_rfl)) hE rfl (wanted_none rfl) (fun w => r_move hE rfl) (fun a hE => ?_)
                  refine d_offsM' [(50, some 74), (51, some 75), (52, some 76)] 17 hT hM hE (by kernel_rfl) (m' := 9007199254740991) (by kernel_rfl) (fun a hE => ?_)
                  refine d_pureg (i := 53) (v := .bool true) (unb 70 18014398509481983) rfl rfl hT (anyM hM (by kernel_rfl)) hE rfl (wanted_none rfl) (fun w => r_pick_t hE rfl rfl) (fun a hE => ?_)
                  refine d_pureg (i := 54) (v := .bool true) (unb 70 36028797018963967) rfl rfl hT (anyM hM (by kernel_rfl)) hE rfl (wanted_none rfl) (fun w => r_move hE rfl) (fun a hE => ?_)
                  refine d_offsM' [(55, some 79), (56, some 80), (57, some 81), (58, some 82)] 11 hT hM hE (by kernel_rfl) (m' := 576460752303423487) (by kernel_rfl) (fun a hE => ?_)
                  refine d_pureg (i := 59) (v := .bool true) (unb 70 1152921504606846975) rfl rfl hT (anyM hM (by kernel_rfl)) hE rfl (wanted_none rfl) (fun w => r_pick_t hE rfl rfl) (fun a hE => ?_)
                  refine d_pureg (i := 60) (v := .bool true) (unb 70 2305843009213693951) rfl rfl hT (anyM hM (by kernel_rfl)) hE rfl (wanted_none rfl) (fun w => r_move hE rfl) (fun a hE => ?_)
                  refine d_offsM' [(61, some 85), (62, some 86), (63, some 87)] 6 hT hM hE (by kernel_rfl) (m' := 18446744073709551615) (by kernel_rfl) (fun a hE => ?_)
                  refine d_pureg (i := 64) (v := .bool true) (unb 70 36893488147419103231) rfl rfl hT (anyM hM (by kernel_rfl)) hE rfl (wanted_none rfl) (fun w => r_pick_t hE rfl rfl) (fun a hE => ?_)
                  refine d_pureg (i := 65) (v := .bool true) (unb 70 73786976294838206463) rfl rfl hT (anyM hM (by kernel_rfl)) hE rfl (wanted_none rfl) (fun w => r_move hE rfl) (fun a hE => ?_)
                  refine d_offsM' [(66, some 90), (67, some 91), (68, some 92)] 1 hT hM hE (by kernel_rfl) (m' := 590295810358705651711) (by kernel_rfl) (fun a hE => ?_)
                  refine d_pureg (i := 69) (v := .bool true) (unb 70 1180591620717411303423) rfl rfl hT (anyM hM (by kernel_rfl)) hE rfl (wanted_none rfl) (fun w => r_pick_t hE rfl rfl) (fun a hE => ?_)
                  refine d_done hT (doneM hM (by kernel_rfl)) ?_
                  exact ⟨true, hE.cut (.cons rfl (.cons rfl (.cons rfl (.cons rfl (.cons rfl Subs.nil))))), hR, H⟩
                · replace H := M.ite_f hb_44 H
                  obtain ⟨x54_45, qx54_45, H⟩ := H
                  refine d_switch (fun w : World => (fun h : Heap => (hcell h ((x1_2).add 3) = some ((x54_45 : Sl).v))) w.heap) [31, 32, 33, 34, 35, 36, 37, 38, 39, 40, 41, 42, 43, 44, 45, 46, 47, 48, 49, 50, 51, 52, 53, 54, 55, 56, 57, 58, 59, 60, 61, 62, 63, 64, 65, 66, 67, 68, 69] (allInM hT hM (by kernel_rfl)) ?_
                  have hs : (fun h : Heap => (hcell h ((x1_2).add 3) = some ((x54_45 : Sl).v))) w.heap := qx54_45
                  refine d_pureg (i := 25) (v := .bool (x48_43 != 2)) (unb 70 67108863) rfl rfl hT (anyM hM (by kernel_rfl)) hE rfl (wanted_of rfl hE rfl rfl rfl) (fun w => r_bin hE rfl rfl g_int b_neq) (fun a hE => ?_)
                  refine d_pureg (i := 26) (v := .bool (x48_43 != 2)) (unb 70 134217727) rfl rfl hT (anyM hM (by kernel_rfl)) hE rfl (wanted_none rfl) (fun w => r_pick_f hE rfl rfl) (fun a hE => ?_)
                  refine d_pureg (i := 27) (v := .bool (x48_43 != 2)) (unb 70 268435455) rfl rfl hT (anyM hM (by kernel_rfl)) hE rfl (wanted_none rfl) (fun w => r_move hE rfl) (fun a hE => ?_)
                  have hE := hE.reb 51 (x48_43 != 2) false hb_44 rfl
                  replace hE := hE.cut (l' := [(1, .pointer (some x1_2)), (11, (x11_10 : Sl).v), (12, .int .i64 (x11_10.len : Int)), (13, .int .i64 x13_11), (4, .pointer x16_21), (51, .bool false)]) (.cons rfl (.cons rfl (.cons rfl (.cons rfl (.cons rfl (.cons rfl Subs.nil))))))
                  refine d_pureg (i := 28) (v := .pointer x16_21) (unb 70 536870911) rfl rfl hT (anyM hM (by kernel_rfl)) hE rfl (wanted_of rfl hE rfl rfl rfl) (fun w => r_move hE rfl) (fun a hE => ?_)
                  refine d_pureg (i := 29) (v := .pointer (some ((x1_2).add 3))) (unb 70 1073741823) rfl rfl hT (anyM hM (by kernel_rfl)) hE rfl (wanted_of rfl hE rfl rfl rfl) (fun w => r_fieldAddr hE rfl fd51_3) (fun a hE => ?_)
                  refine d_read (i := 30) (v := (x54_45 : Sl).v) (unb 70 2147483647) rfl rfl hT (takeM hM (by kernel_rfl)) hE rfl (wanted_of rfl hE rfl rfl rfl) hs (fun w s => r_load hE rfl sc45 s) (fun a hE => ?_)
                  refine d_calll (i := 31) (unb 70 4294967295) rfl rfl rfl hT (oneM hM (by kernel_rfl)) rfl hE hR (wanted_of rfl hE rfl rfl rfl) cl_disk_Disk_Start rfl (S_disk_Disk_Start x16_21 0 x54_45) (M.unbind H) (fun x55_46 a w ea hR H => ?_)
                  have hE := Env.put_some hE rfl ea; clear ea
                  rcases bool_em (x55_46 != 2) with hb_47 | hb_47
                  · replace H := M.ite_t hb_47 H
                    refine d_pureg (i := 32) (v := .bool (x55_46 != 2)) (unb 70 8589934591) rfl rfl hT (anyM hM (by kernel_rfl)) hE rfl (wanted_of rfl hE rfl rfl rfl) (fun w => r_bin hE rfl rfl g_int b_neq) (fun a hE => ?_)
                    refine d_pureg (i := 33) (v := .bool (x55_46 != 2)) (unb 70 17179869183) rfl rfl hT (anyM hM (by kernel_rfl)) hE rfl (wanted_none rfl) (fun w => r_pick_f hE rfl rfl) (fun a hE => ?_)
                    refine d_pureg (i := 34) (v := .bool (x55_46 != 2)) (unb 70 34359738367) rfl rfl hT (anyM hM (by kernel_rfl)) hE rfl (wanted_none rfl) (fun w => r_move hE rfl) (fun a hE => ?_)
                    have hE := hE.reb 58 (x55_46 != 2) true hb_47 rfl
                    replace hE := hE.cut (l' := [(1, .pointer (some x1_2)), (11, (x11_10 : Sl).v), (12, .int .i64 (x11_10.len : Int)), (13, .int .i64 x13_11), (4, .pointer x16_21), (58, .bool true)]) (.cons rfl (.cons rfl (.cons rfl (.cons rfl (.cons rfl (.cons rfl Subs.nil))))))
                    refine d_offsM' [(35, some 59), (36, some 60), (37, some 61), (38, some 62), (39, some 63), (40, some 64), (41, some 65), (42, some 66), (43, some 67)] 26 hT hM hE (by kernel_rfl) (m' := 17592186044415) (by kernel_rfl) (fun a hE => ?_)
                    refine d_pureg (i := 44) (v := .bool true) (unb 70 35184372088831) rfl rfl hT (anyM hM (by kernel_rfl)) hE rfl (wanted_none rfl) (fun w => r_pick_t hE rfl rfl) (fun a hE => ?_)
                    refine d_pureg (i := 45) (v := .bool true) (unb 70 70368744177663) rfl rfl hT (anyM hM (by kernel_rfl)) hE rfl (wanted_none rfl) (fun w => r_move hE rfl) (fun a hE => ?_)
                    refine d_off (i := 46) (unb 70 140737488355327) rfl rfl hT (anyM hM (by kernel_rfl)) (unwanted_of rfl hE rfl rfl rfl) (fun a ea => ?_)
                    have hE := Env.put_some hE rfl ea; clear ea
                    refine d_off (i := 47) (unb 70 281474976710655) rfl rfl hT (anyM hM (by kernel_rfl)) (unwanted_of rfl hE rfl rfl rfl) (fun a ea => ?_)
                    have hE := Env.put_some hE rfl ea; clear ea
                    refine d_pureg (i := 48) (v := .bool true) (unb 70 562949953421311) rfl rfl hT (anyM hM (by kernel_rfl)) hE rfl (wanted_none rfl) (fun w => r_pick_t hE rfl rfl) (fun a hE => ?_)
                    refine d_pureg (i := 49) (v := .bool true) (unb 70 1125899906842623) rfl rfl hT (anyM hM (by kernel_rfl)) hE rfl (wanted_none rfl) (fun w => r_move hE rfl) (fun a hE => ?_)
                    refine d_offsM' [(50, some 74), (51, some 75), (52, some 76)] 17 hT hM hE (by kernel_rfl) (m' := 9007199254740991) (by kernel_rfl) (fun a hE => ?_)
                    refine d_pureg (i := 53) (v := .bool true) (unb 70 18014398509481983) rfl rfl hT (anyM hM (by kernel_rfl)) hE rfl (wanted_none rfl) (fun w => r_pick_t hE rfl rfl) (fun a hE => ?_)
                    refine d_pureg (i := 54) (v := .bool true) (unb 70 36028797018963967) rfl rfl hT (anyM hM (by kernel_rfl)) hE rfl (wanted_none rfl) (fun w => r_move hE rfl) (fun a hE => ?_)
                    refine d_offsM' [(55, some 79), (56, some 80), (57, some 81), (58, some 82)] 11 hT hM hE (by kernel_rfl) (m' := 576460752303423487) (by kernel_rfl) (fun a hE => ?_)
                    refine d_pureg (i := 59) (v := .bool true) (unb 70 1152921504606846975) rfl rfl hT (anyM hM (by kernel_rfl)) hE rfl (wanted_none rfl) (fun w => r_pick_t hE rfl rfl) (fun a hE => ?_)
                    refine d_pureg (i := 60) (v := .bool true) (unb 70 2305843009213693951) rfl rfl hT (anyM hM (by kernel_rfl)) hE rfl (wanted_none rfl) (fun w => r_move hE rfl) (fun a hE => ?_)
                    refine d_offsM' [(61, some 85), (62, some 86), (63, some 87)] 6 hT hM hE (by kernel_rfl) (m' := 18446744073709551615) (by kernel_rfl) (fun a hE => ?_)
                    refine d_pureg (i := 64) (v := .bool true) (unb 70 36893488147419103231) rfl rfl hT (anyM hM (by kernel_rfl)) hE rfl (wanted_none rfl) (fun w => r_pick_t hE rfl rfl) (fun a hE => ?_)
                    refine d_pureg (i := 65) (v := .bool true) (unb 70 73786976294838206463) rfl rfl hT (anyM hM (by kernel_rfl)) hE rfl (wanted_none rfl) (fun w => r_move hE rfl) (fun a hE => ?_)
                    refine d_offsM' [(66, some 90), (67, some 91), (68, some 92)] 1 hT hM hE (by kernel_rfl) (m' := 590295810358705651711) (by kernel_rfl) (fun a hE => ?_)
                    refine d_pureg (i := 69) (v := .bool true) (unb 70 1180591620717411303423) rfl rfl hT (anyM hM (by kernel_rfl)) hE rfl (wanted_none rfl) (fun w => r_pick_t hE rfl rfl) (fun a hE => ?_)
                    refine d_done hT (doneM hM (by kernel_rfl)) ?_
                    exact ⟨true, hE.cut (.cons rfl (.cons rfl (.cons rfl (.cons rfl (.cons rfl Subs.nil))))), hR, H⟩
                  · replace H := M.ite_f hb_47 H
                    obtain ⟨x61_48, qx61_48, H⟩ := H
                    obtain ⟨x63_49, qx63_49, H⟩ := H
                    obtain ⟨x65_50, qx65_50, H⟩ := H
                    refine d_switch (fun w : World => (fun h : Heap => (hcell h ((x1_2).add 1) = some (.int .i64 x61_48)) ∧ (hcell h ((x1_2).add 4) = some (.int .i64 x63_49)) ∧ (hcell h ((x1_2).add 5) = some (.int .u32 x65_50))) w.heap) [42, 43, 44, 45, 46, 47, 48, 49, 50, 51, 52, 53, 54, 55, 56, 57, 58, 59, 60, 61, 62, 63, 64, 65, 66, 67, 68, 69] (allInM hT hM (by kernel_rfl)) ?_
                    have hs : (fun h : Heap => (hcell h ((x1_2).add 1) = some (.int .i64 x61_48)) ∧ (hcell h ((x1_2).add 4) = some (.int .i64 x63_49)) ∧ (hcell h ((x1_2).add 5) = some (.int .u32 x65_50))) w.heap := ⟨qx61_48, qx63_49, qx65_50⟩
                    refine d_pureg (i := 32) (v := .bool (x55_46 != 2)) (unb 70 8589934591) rfl rfl hT (anyM hM (by kernel_rfl)) hE rfl (wanted_of rfl hE rfl rfl rfl) (fun w => r_bin hE rfl rfl g_int b_neq) (fun a hE => ?_)
                    refine d_pureg (i := 33) (v := .bool (x55_46 != 2)) (unb 70 17179869183) rfl rfl hT (anyM hM (by kernel_rfl)) hE rfl (wanted_none rfl) (fun w => r_pick_f hE rfl rfl) (fun a hE => ?_)
                    refine d_pureg (i := 34) (v := .bool (x55_46 != 2)) (unb 70 34359738367) rfl rfl hT (anyM hM (by kernel_rfl)) hE rfl (wanted_none rfl) (fun w => r_move hE rfl) (fun a hE => ?_)
                    have hE := hE.reb 58 (x55_46 != 2) false hb_47 rfl
                    replace hE := hE.cut (l' := [(1, .pointer (some x1_2)), (11, (x11_10 : Sl).v), (12, .int .i64 (x11_10.len : Int)), (13, .int .i64 x13_11), (4, .pointer x16_21), (58, .bool false)]) (.cons rfl (.cons rfl (.cons rfl (.cons rfl (.cons rfl (.cons rfl Subs.nil))))))
                    refine d_pureg (i := 35) (v := .pointer x16_21) (unb 70 68719476735) rfl rfl hT (anyM hM (by kernel_rfl)) hE rfl (wanted_of rfl hE rfl rfl rfl) (fun w => r_move hE rfl) (fun a hE => ?_)
                    refine d_pureg (i := 36) (v := .pointer (some ((x1_2).add 1))) (unb 70 137438953471) rfl rfl hT (anyM hM (by kernel_rfl)) hE rfl (wanted_of rfl hE rfl rfl rfl) (fun w => r_fieldAddr hE rfl fd51_1) (fun a hE => ?_)
                    refine d_pureg (i := 38) (v := .pointer (some ((x1_2).add 4))) (unb 70 412316860415) rfl rfl hT (anyM hM (by kernel_rfl)) hE rfl (wanted_of rfl hE rfl rfl rfl) (fun w => r_fieldAddr hE rfl fd51_4) (fun a hE => ?_)
                    refine d_pureg (i := 40) (v := .pointer (some ((x1_2).add 5))) (unb 70 1511828488191) rfl rfl hT (anyM hM (by kernel_rfl)) hE rfl (wanted_of rfl hE rfl rfl rfl) (fun w => r_fieldAddr hE rfl fd51_5) (fun a hE => ?_)
                    refine d_read (i := 37) (v := .int .i64 x61_48) (unb 70 1649267441663) rfl rfl hT (takeM hM (by kernel_rfl)) hE rfl (wanted_of rfl hE rfl rfl rfl) hs (fun w s => r_load hE rfl sc3 s.1) (fun a hE => ?_)
                    refine d_read (i := 39) (v := .int .i64 x63_49) (unb 70 2199023255551) rfl rfl hT (takeM hM (by kernel_rfl)) hE rfl (wanted_of rfl hE rfl rfl rfl) hs (fun w s => r_load hE rfl sc3 s.2.1) (fun a hE => ?_)
                    refine d_read (i := 41) (v := .int .u32 x65_50) (unb 70 4398046511103) rfl rfl hT (takeM hM (by kernel_rfl)) hE rfl (wanted_of rfl hE rfl rfl rfl) hs (fun w s => r_load hE rfl sc49 s.2.2) (fun a hE => ?_)
                    refine d_calll (i := 42) (unb 70 8796093022207) rfl rfl rfl hT (oneM hM (by kernel_rfl)) rfl hE hR (wanted_of rfl hE rfl rfl rfl) cl_disk_Disk_Burst rfl (S_disk_Disk_Burst x16_21 x61_48 x63_49 x65_50) (M.unbind H) (fun x66_51 a w ea hR H => ?_)
                    have hE := Env.put_some hE rfl ea; clear ea
                    rcases bool_em (x66_51 != 2) with hb_52 | hb_52
                    · replace H := M.ite_t hb_52 H
                      refine d_pureg (i := 43) (v := .bool (x66_51 != 2)) (unb 70 17592186044415) rfl rfl hT (anyM hM (by kernel_rfl)) hE rfl (wanted_of rfl hE rfl rfl rfl) (fun w => r_bin hE rfl rfl g_int b_neq) (fun a hE => ?_)
                      refine d_pureg (i := 44) (v := .bool (x66_51 != 2)) (unb 70 35184372088831) rfl rfl hT (anyM hM (by kernel_rfl)) hE rfl (wanted_none rfl) (fun w => r_pick_f hE rfl rfl) (fun a hE => ?_)
                      refine d_pureg (i := 45) (v := .bool (x66_51 != 2)) (unb 70 70368744177663) rfl rfl hT (anyM hM (by kernel_rfl)) hE rfl (wanted_none rfl) (fun w => r_move hE rfl) (fun a hE => ?_)
                      have hE := hE.reb 69 (x66_51 != 2) true hb_52 rfl
                      replace hE := hE.cut (l' := [(1, .pointer (some x1_2)), (11, (x11_10 : Sl).v), (12, .int .i64 (x11_10.len : Int)), (13, .int .i64 x13_11), (4, .pointer x16_21), (69, .bool true)]) (.cons rfl (.cons rfl (.cons rfl (.cons rfl (.cons rfl (.cons rfl Subs.nil))))))
                      refine d_off (i := 46) (unb 70 140737488355327) rfl rfl hT (anyM hM (by kernel_rfl)) (unwanted_of rfl hE rfl rfl rfl) (fun a ea => ?_)
                      have hE := Env.put_some hE rfl ea; clear ea
                      refine d_off (i := 47) (unb 70 281474976710655) rfl rfl hT (anyM hM (by kernel_rfl)) (unwanted_of rfl hE rfl rfl rfl) (fun a ea => ?_)
                      have hE := Env.put_some hE rfl ea; clear ea
                      refine d_pureg (i := 48) (v := .bool true) (unb 70 562949953421311) rfl rfl hT (anyM hM (by kernel_rfl)) hE rfl (wanted_none rfl) (fun w => r_pick_t hE rfl rfl) (fun a hE => ?_)
                      refine d_pureg (i := 49) (v := .bool true) (unb 70 1125899906842623) rfl rfl hT (anyM hM (by kernel_rfl)) hE rfl (wanted_none rfl) (fun w => r_move hE rfl) (fun a hE => ?_)
                      refine d_offsM' [(50, some 74), (51, some 75), (52, some 76)] 17 hT hM hE (by kernel_rfl) (m' := 9007199254740991) (by kernel_rfl) (fun a hE => ?_)
                      refine d_pureg (i := 53) (v := .bool true) (unb 70 18014398509481983) rfl rfl hT (anyM hM (by kernel_rfl)) hE rfl (wanted_none rfl) (fun w => r_pick_t hE rfl rfl) (fun a hE => ?_)
                      refine d_pureg (i := 54) (v := .bool true) (unb 70 36028797018963967) rfl rfl hT (anyM hM (by kernel_rfl)) hE rfl (wanted_none rfl) (fun w => r_move hE rfl) (fun a hE => ?_)
                      refine d_offsM' [(55, some 79), (56, some 80), (57, some 81), (58, some 82)] 11 hT hM hE (by kernel_rfl) (m' := 576460752303423487) (by kernel_rfl) (fun a hE => ?_)
                      refine d_pureg (i := 59) (v := .bool true) (unb 70 1152921504606846975) rfl rfl hT (anyM hM (by kernel_rfl)) hE rfl (wanted_none rfl) (fun w => r_pick_t hE rfl rfl) (fun a hE => ?_)
                      refine d_pureg (i := 60) (v := .bool true) (unb 70 2305843009213693951) rfl rfl hT (anyM hM (by kernel_rfl)) hE rfl (wanted_none rfl) (fun w => r_move hE rfl) (fun a hE => ?_)
                      refine d_offsM' [(61, some 85), (62, some 86), (63, some 87)] 6 hT hM hE (by kernel_rfl) (m' := 18446744073709551615) (by kernel_rfl) (fun a hE => ?_)
                      refine d_pureg (i := 64) (v := .bool true) (unb 70 36893488147419103231) rfl rfl hT (anyM hM (by kernel_rfl)) hE rfl (wanted_none rfl) (fun w => r_pick_t hE rfl rfl) (fun a hE => ?_)
                      refine d_pureg (i := 65) (v := .bool true) (unb 70 73786976294838206463) rfl rfl hT (anyM hM (by kernel_rfl)) hE rfl (wanted_none rfl) (fun w => r_move hE rfl) (fun a hE => ?_)
                      refine d_offsM' [(66, some 90), (67, some 91), (68, some 92)] 1 hT hM hE (by kernel_rfl) (m' := 590295810358705651711) (by kernel_rfl) (fun a hE => ?_)
                      refine d_pureg (i := 69) (v := .bool true) (unb 70 1180591620717411303423) rfl rfl hT (anyM hM (by kernel_rfl)) hE rfl (wanted_none rfl) (fun w => r_pick_t hE rfl rfl) (fun a hE => ?_)
                      refine d_done hT (doneM hM (by kernel_rfl)) ?_
                      exact ⟨true, hE.cut (.cons rfl (.cons rfl (.cons rfl (.cons rfl (.cons rfl Subs.nil))))), hR, H⟩
                    · replace H := M.ite_f hb_52 H
                      refine d_pureg (i := 43) (v := .bool (x66_51 != 2)) (unb 70 17592186044415) rfl rfl hT (anyM hM (by kernel_rfl)) hE rfl (wanted_of rfl hE rfl rfl rfl) (fun w => r_bin hE rfl rfl g_int b_neq) (fun a hE => ?_)
                      refine d_pureg (i := 44) (v := .bool (x66_51 != 2)) (unb 70 35184372088831) rfl rfl hT (anyM hM (by kernel_rfl)) hE rfl (wanted_none rfl) (fun w => r_pick_f hE rfl rfl) (fun a hE => ?_)
                      refine d_pureg (i := 45) (v := .bool (x66_51 != 2)) (unb 70 70368744177663) rfl rfl hT (anyM hM (by kernel_rfl)) hE rfl (wanted_none rfl) (fun w => r_move hE rfl) (fun a hE => ?_)
                      have hE := hE.reb 69 (x66_51 != 2) false hb_52 rfl
                      replace hE := hE.cut (l' := [(1, .pointer (some x1_2)), (11, (x11_10 : Sl).v), (12, .int .i64 (x11_10.len : Int)), (13, .int .i64 x13_11), (4, .pointer x16_21), (69, .bool false)]) (.cons rfl (.cons rfl (.cons rfl (.cons rfl (.cons rfl (.cons rfl Subs.nil))))))
                      refine d_pureg (i := 46) (v := .pointer x16_21) (unb 70 140737488355327) rfl rfl hT (anyM hM (by kernel_rfl)) hE rfl (wanted_of rfl hE rfl rfl rfl) (fun w => r_move hE rfl) (fun a hE => ?_)
                      refine d_calll (i := 47) (unb 70 281474976710655) rfl rfl rfl hT (oneM hM (by kernel_rfl)) rfl hE hR (wanted_of rfl hE rfl rfl rfl) cl_disk_Disk_Down rfl (S_disk_Disk_Down x16_21) (M.unbind H) (fun x71_53 a w ea hR H => ?_)
                      have hE := Env.put_some hE rfl ea; clear ea
                      rcases bool_em x71_53 with hb_54 | hb_54
                      · replace H := M.ite_t hb_54 H
                        refine d_pureg (i := 48) (v := .bool x71_53) (unb 70 562949953421311) rfl rfl hT (anyM hM (by kernel_rfl)) hE rfl (wanted_none rfl) (fun w => r_pick_f hE rfl rfl) (fun a hE => ?_)
                        refine d_pureg (i := 49) (v := .bool x71_53) (unb 70 1125899906842623) rfl rfl hT (anyM hM (by kernel_rfl)) hE rfl (wanted_none rfl) (fun w => r_move hE rfl) (fun a hE => ?_)
                        have hE := hE.reb 73 x71_53 true hb_54 rfl
                        replace hE := hE.cut (l' := [(1, .pointer (some x1_2)), (11, (x11_10 : Sl).v), (12, .int .i64 (x11_10.len : Int)), (13, .int .i64 x13_11), (4, .pointer x16_21), (73, .bool true)]) (.cons rfl (.cons rfl (.cons rfl (.cons rfl (.cons rfl (.cons rfl Subs.nil))))))
                        refine d_offsM' [(50, some 74), (51, some 75), (52, some 76)] 17 hT hM hE (by kernel_rfl) (m' := 9007199254740991) (by kernel_rfl) (fun a hE => ?_)
                        refine d_pureg (i := 53) (v := .bool true) (unb 70 18014398509481983) rfl rfl hT (anyM hM (by kernel_rfl)) hE rfl (wanted_none rfl) (fun w => r_pick_t hE rfl rfl) (fun a hE => ?_)
                        refine d_pureg (i := 54) (v := .bool true) (unb 70 36028797018963967) rfl rfl hT (anyM hM (by kernel_rfl)) hE rfl (wanted_none rfl) (fun w => r_move hE rfl) (fun a hE => ?_)
                        refine d_offsM' [(55, some 79), (56, some 80), (57, some 81), (58, some 82)] 11 hT hM hE (by kernel_rfl) (m' := 576460752303423487) (by kernel_rfl) (fun a hE => ?_)
                        refine d_pureg (i := 59) (v := .bool true) (unb 70 1152921504606846975) rfl rfl hT (anyM hM (by kernel_rfl)) hE rfl (wanted_none rfl) (fun w => r_pick_t hE rfl rfl) (fun a hE => ?_)
                        refine d_pureg (i := 60) (v := .bool true) (unb 70 2305843009213693951) rfl rfl hT (anyM hM (by kernel_rfl)) hE rfl (wanted_none rfl) (fun w => r_move hE rfl) (fun a hE => ?_)
                        refine d_offsM' [(61, some 85), (62, some 86), (63, some 87)] 6 hT hM hE (by kernel_rfl) (m' := 18446744073709551615) (by kernel_rfl) (fun a hE => ?_)
                        refine d_pureg (i := 64) (v := .bool true) (unb 70 36893488147419103231) rfl rfl hT (anyM hM (by kernel_rfl)) hE rfl (wanted_none rfl) (fun w => r_pick_t hE rfl rfl) (fun a hE => ?_)
                        refine d_pureg (i := 65) (v := .bool true) (unb 70 73786976294838206463) rfl rfl hT (anyM hM (by kernel_rfl)) hE rfl (wanted_none rfl) (fun w => r_move hE rfl) (fun a hE => ?_)
                        refine d_offsM' [(66, some 90), (67, some 91), (68, some 92)] 1 hT hM hE (by kernel_rfl) (m' := 590295810358705651711) (by kernel_rfl) (fun a hE => ?_)
                        refine d_pureg (i := 69) (v := .bool true) (unb 70 1180591620717411303423) rfl rfl hT (anyM hM (by kernel_rfl)) hE rfl (wanted_none rfl) (fun w => r_pick_t hE rfl rfl) (fun a hE => ?_)
                        refine d_done hT (doneM hM (by kernel_rfl)) ?_
                        exact ⟨true, hE.cut (.cons rfl (.cons rfl (.cons rfl (.cons rfl (.cons rfl Subs.nil))))), hR, H⟩
                      · replace H := M.ite_f hb_54 H
                        refine d_pureg (i := 48) (v := .bool x71_53) (unb 70 562949953421311) rfl rfl hT (anyM hM (by kernel_rfl)) hE rfl (wanted_none rfl) (fun w => r_pick_f hE rfl rfl) (fun a hE => ?_)
                        refine d_pureg (i := 49) (v := .bool x71_53) (unb 70 1125899906842623) rfl rfl hT (anyM hM (by kernel_rfl)) hE rfl (wanted_none rfl) (fun w => r_move hE rfl) (fun a hE => ?_)
                        have hE := hE.reb 73 x71_53 false hb_54 rfl
                        replace hE := hE.cut (l' := [(1, .pointer (some x1_2)), (11, (x11_10 : Sl).v), (12, .int .i64 (x11_10.len : Int)), (13, .int .i64 x13_11), (4, .pointer x16_21), (73, .bool false)]) (.cons rfl (.cons rfl (.cons rfl (.cons rfl (.cons rfl (.cons rfl Subs.nil))))))
                        refine d_pureg (i := 50) (v := .pointer x16_21) (unb 70 2251799813685247) rfl rfl hT (anyM hM (by kernel_rfl)) hE rfl (wanted_of rfl hE rfl rfl rfl) (fun w => r_move hE rfl) (fun a hE => ?_)
                        refine d_calll (i := 51) (unb 70 4503599627370495) rfl rfl rfl hT (oneM hM (by kernel_rfl)) rfl hE hR (wanted_of rfl hE rfl rfl rfl) cl_disk_Disk_Sectors rfl (S_disk_Disk_Sectors x16_21) (M.unbind H) (fun x75_55 a w ea hR H => ?_)
                        have hE := Env.put_some hE rfl ea; clear ea
                        rcases bool_em (x75_55 != 0) with hb_56 | hb_56
                        · replace H := M.ite_t hb_56 H
                          refine d_pureg (i := 52) (v := .bool (x75_55 != 0)) (unb 70 9007199254740991) rfl rfl hT (anyM hM (by kernel_rfl)) hE rfl (wanted_of rfl hE rfl rfl rfl) (fun w => r_bin hE rfl rfl g_int b_neq) (fun a hE => ?_)
                          refine d_pureg (i := 53) (v := .bool (x75_55 != 0)) (unb 70 18014398509481983) rfl rfl hT (anyM hM (by kernel_rfl)) hE rfl (wanted_none rfl) (fun w => r_pick_f hE rfl rfl) (fun a hE => ?_)
                          refine d_pureg (i := 54) (v := .bool (x75_55 != 0)) (unb 70 36028797018963967) rfl rfl hT (anyM hM (by kernel_rfl)) hE rfl (wanted_none rfl) (fun w => r_move hE rfl) (fun a hE => ?_)
                          have hE := hE.reb 78 (x75_55 != 0) true hb_56 rfl
                          replace hE := hE.cut (l' := [(1, .pointer (some x1_2)), (11, (x11_10 : Sl).v), (12, .int .i64 (x11_10.len : Int)), (13, .int .i64 x13_11), (4, .pointer x16_21), (78, .bool true)]) (.cons rfl (.cons rfl (.cons rfl (.cons rfl (.cons rfl (.cons rfl Subs.nil))))))
                          refine d_offsM' [(55, some 79), (56, some 80), (57, some 81), (58, some 82)] 11 hT hM hE (by kernel_rfl) (m' := 576460752303423487) (by kernel_rfl) (fun a hE => ?_)
                          refine d_pureg (i := 59) (v := .bool true) (unb 70 1152921504606846975) rfl rfl hT (anyM hM (by kernel_rfl)) hE rfl (wanted_none rfl) (fun w => r_pick_t hE rfl rfl) (fun a hE => ?_)
                          refine d_pureg (i := 60) (v := .bool true) (unb 70 2305843009213693951) rfl rfl hT (anyM hM (by kernel_rfl)) hE rfl (wanted_none rfl) (fun w => r_move hE rfl) (fun a hE => ?_)
                          refine d_offsM' [(61, some 85), (62, some 86), (63, some 87)] 6 hT hM hE (by kernel_rfl) (m' := 18446744073709551615) (by kernel_rfl) (fun a hE => ?_)
                          refine d_pureg (i := 64) (v := .bool true) (unb 70 36893488147419103231) rfl rfl hT (anyM hM (by kernel_rfl)) hE rfl (wanted_none rfl) (fun w => r_pick_t hE rfl rfl) (fun a hE => ?_)
                          refine d_pureg (i := 65) (v := .bool true) (unb 70 73786976294838206463) rfl rfl hT (anyM hM (by kernel_rfl)) hE rfl (wanted_none rfl) (fun w => r_move hE rfl) (fun a hE => ?_)
                          refine d_offsM' [(66, some 90), (67, some 91), (68, some 92)] 1 hT hM hE (by kernel_rfl) (m' := 590295810358705651711) (by kernel_rfl) (fun a hE => ?_)
                          refine d_pureg (i := 69) (v := .bool true) (unb 70 1180591620717411303423) rfl rfl hT (anyM hM (by kernel_rfl)) hE rfl (wanted_none rfl) (fun w => r_pick_t hE rfl rfl) (fun a hE => ?_)
                          refine d_done hT (doneM hM (by kernel_rfl)) ?_
                          exact ⟨true, hE.cut (.cons rfl (.cons rfl (.cons rfl (.cons rfl (.cons rfl Subs.nil))))), hR, H⟩
                        · replace H := M.ite_f hb_56 H
                          refine d_pureg (i := 52) (v := .bool (x75_55 != 0)) (unb 70 9007199254740991) rfl rfl hT (anyM hM (by kernel_rfl)) hE rfl (wanted_of rfl hE rfl rfl rfl) (fun w => r_bin hE rfl rfl g_int b_neq) (fun a hE => ?_)
                          refine d_pureg (i := 53) (v := .bool (x75_55 != 0)) (unb 70 18014398509481983) rfl rfl hT (anyM hM (by kernel_rfl)) hE rfl (wanted_none rfl) (fun w => r_pick_f hE rfl rfl) (fun a hE => ?_)
                          refine d_pureg (i := 54) (v := .bool (x75_55 != 0)) (unb 70 36028797018963967) rfl rfl hT (anyM hM (by kernel_rfl)) hE rfl (wanted_none rfl) (fun w => r_move hE rfl) (fun a hE => ?_)
                          have hE := hE.reb 78 (x75_55 != 0) false hb_56 rfl
                          replace hE := hE.cut (l' := [(1, .pointer (some x1_2)), (11, (x11_10 : Sl).v), (12, .int .i64 (x11_10.len : Int)), (13, .int .i64 x13_11), (4, .pointer x16_21), (78, .bool false)]) (.cons rfl (.cons rfl (.cons rfl (.cons rfl (.cons rfl (.cons rfl Subs.nil))))))
                          refine d_pureg (i := 55) (v := .pointer x16_21) (unb 70 72057594037927935) rfl rfl hT (anyM hM (by kernel_rfl)) hE rfl (wanted_of rfl hE rfl rfl rfl) (fun w => r_move hE rfl) (fun a hE => ?_)
                          refine d_calll (i := 56) (unb 70 144115188075855871) rfl rfl rfl hT (oneM hM (by kernel_rfl)) rfl hE hR (wanted_of rfl hE rfl rfl rfl) cl_disk_Disk_Dirty rfl (S_disk_Disk_Dirty x16_21) (M.unbind H) (fun x80_57 a w ea hR H => ?_)
                          have hE := Env.put_some hE rfl ea; clear ea
                          rcases bool_em ((x80_57.len : Int) != 0) with hb_58 | hb_58
                          · replace H := M.ite_t hb_58 H
                            refine d_pureg (i := 57) (v := .int .i64 (x80_57.len : Int)) (unb 70 288230376151711743) rfl rfl hT (anyM hM (by kernel_rfl)) hE rfl (wanted_of rfl hE rfl rfl rfl) (fun w => r_len hE rfl 3 un54) (fun a hE => ?_)
                            refine d_pureg (i := 58) (v := .bool ((x80_57.len : Int) != 0)) (unb 70 576460752303423487) rfl rfl hT (anyM hM (by kernel_rfl)) hE rfl (wanted_of rfl hE rfl rfl rfl) (fun w => r_bin hE rfl rfl g_int b_neq) (fun a hE => ?_)
                            refine d_pureg (i := 59) (v := .bool ((x80_57.len : Int) != 0)) (unb 70 1152921504606846975) rfl rfl hT (anyM hM (by kernel_rfl)) hE rfl (wanted_none rfl) (fun w => r_pick_f hE rfl rfl) (fun a hE => ?_)
                            refine d_pureg (i := 60) (v := .bool ((x80_57.len : Int) != 0)) (unb 70 2305843009213693951) rfl rfl hT (anyM hM (by kernel_rfl)) hE rfl (wanted_none rfl) (fun w => r_move hE rfl) (fun a hE => ?_)
                            have hE := hE.reb 84 ((x80_57.len : Int) != 0) true hb_58 rfl
                            replace hE := hE.cut (l' := [(1, .pointer (some x1_2)), (11, (x11_10 : Sl).v), (12, .int .i64 (x11_10.len : Int)), (13, .int .i64 x13_11), (4, .pointer x16_21), (84, .bool true)]) (.cons rfl (.cons rfl (.cons rfl (.cons rfl (.cons rfl (.cons rfl Subs.nil))))))
                            refine d_offsM' [(61, some 85), (62, some 86), (63, some 87)] 6 hT hM hE (by kernel_rfl) (m' := 18446744073709551615) (by kernel_rfl) (fun a hE => ?_)
                            refine d_pureg (i := 64) (v := .bool true) (unb 70 36893488147419103231) rfl rfl hT (anyM hM (by kernel_rfl)) hE rfl (wanted_none rfl) (fun w => r_pick_t hE rfl rfl) (fun a hE => ?_)
                            refine d_pureg (i := 65) (v := .bool true) (unb 70 73786976294838206463) rfl rfl hT (anyM hM (by kernel_rfl)) hE rfl (wanted_none rfl) (fun w => r_move hE rfl) (fun a hE => ?_)
                            refine d_offsM' [(66, some 90), (67, some 91), (68, some 92)] 1 hT hM hE (by kernel_rfl) (m' := 590295810358705651711) (by kernel_rfl) (fun a hE => ?_)
                            refine d_pureg (i := 69) (v := .bool true) (unb 70 1180591620717411303423) rfl rfl hT (anyM hM (by kernel_rfl)) hE rfl (wanted_none rfl) (fun w => r_pick_t hE rfl rfl) (fun a hE => ?_)
                            refine d_done hT (doneM hM (by kernel_rfl)) ?_
                            exact ⟨true, hE.cut (.cons rfl (.cons rfl (.cons rfl (.cons rfl (.cons rfl Subs.nil))))), hR, H⟩
                          · replace H := M.ite_f hb_58 H
                            refine d_pureg (i := 57) (v := .int .i64 (x80_57.len : Int)) (unb 70 288230376151711743) rfl rfl hT (anyM hM (by kernel_rfl)) hE rfl (wanted_of rfl hE rfl rfl rfl) (fun w => r_len hE rfl 3 un54) (fun a hE => ?_)
                            refine d_pureg (i := 58) (v := .bool ((x80_57.len : Int) != 0)) (unb 70 576460752303423487) rfl rfl hT (anyM hM (by kernel_rfl)) hE rfl (wanted_of rfl hE rfl rfl rfl) (fun w => r_bin hE rfl rfl g_int b_neq) (fun a hE => ?_)
                            refine d_pureg (i := 59) (v := .bool ((x80_57.len : Int) != 0)) (unb 70 1152921504606846975) rfl rfl hT (anyM hM (by kernel_rfl)) hE rfl (wanted_none rfl) (fun w => r_pick_f hE rfl rfl) (fun a hE => ?_)
                            refine d_pureg (i := 60) (v := .bool ((x80_57.len : Int) != 0)) (unb 70 2305843009213693951) rfl rfl hT (anyM hM (by kernel_rfl)) hE rfl (wanted_none rfl) (fun w => r_move hE rfl) (fun a hE => ?_)
                            have hE := hE.reb 84 ((x80_57.len : Int) != 0) false hb_58 rfl
                            replace hE := hE.cut (l' := [(1, .pointer (some x1_2)), (11, (x11_10 : Sl).v), (12, .int .i64 (x11_10.len : Int)), (13, .int .i64 x13_11), (4, .pointer x16_21), (84, .bool false)]) (.cons rfl (.cons rfl (.cons rfl (.cons rfl (.cons rfl (.cons rfl Subs.nil))))))
                            refine d_pureg (i := 61) (v := .pointer x16_21) (unb 70 4611686018427387903) rfl rfl hT (anyM hM (by kernel_rfl)) hE rfl (wanted_of rfl hE rfl rfl rfl) (fun w => r_move hE rfl) (fun a hE => ?_)
                            refine d_calll (i := 62) (unb 70 9223372036854775807) rfl rfl rfl hT (oneM hM (by kernel_rfl)) rfl hE hR (wanted_of rfl hE rfl rfl rfl) cl_disk_Disk_Calls rfl (S_disk_Disk_Calls x16_21) (M.unbind H) (fun x86_59 a w ea hR H => ?_)
                            have hE := Env.put_some hE rfl ea; clear ea
                            rcases bool_em (x86_59 != 0) with hb_60 | hb_60
                            · replace H := M.ite_t hb_60 H
                              refine d_pureg (i := 63) (v := .bool (x86_59 != 0)) (unb 70 18446744073709551615) rfl rfl hT (anyM hM (by kernel_rfl)) hE rfl (wanted_of rfl hE rfl rfl rfl) (fun w => r_bin hE rfl rfl g_int b_neq) (fun a hE => ?_)
                              refine d_pureg (i := 64) (v := .bool (x86_59 != 0)) (unb 70 36893488147419103231) rfl rfl hT (anyM hM (by kernel_rfl)) hE rfl (wanted_none rfl) (fun w => r_pick_f hE rfl rfl) (fun a hE => ?_)
                              refine d_pureg (i := 65) (v := .bool (x86_59 != 0)) (unb 70 73786976294838206463) rfl rfl hT (anyM hM (by kernel_rfl)) hE rfl (wanted_none rfl) (fun w => r_move hE rfl) (fun a hE => ?_)
                              have hE := hE.reb 89 (x86_59 != 0) true hb_60 rfl
                              replace hE := hE.cut (l' := [(1, .pointer (some x1_2)), (11, (x11_10 : Sl).v), (12, .int .i64 (x11_10.len : Int)), (13, .int .i64 x13_11), (4, .pointer x16_21), (89, .bool true)]) (.cons rfl (.cons rfl (.cons rfl (.cons rfl (.cons rfl (.cons rfl Subs.nil))))))
                              refine d_offsM' [(66, some 90), (67, some 91), (68, some 92)] 1 hT hM hE (by kernel_rfl) (m' := 590295810358705651711) (by kernel_rfl) (fun a hE => ?_)
                              refine d_pureg (i := 69) (v := .bool true) (unb 70 1180591620717411303423) rfl rfl hT (anyM hM (by kernel_rfl)) hE rfl (wanted_none rfl) (fun w => r_pick_t hE rfl rfl) (fun a hE => ?_)
                              refine d_done hT (doneM hM (by kernel_rfl)) ?_
                              exact ⟨true, hE.cut (.cons rfl (.cons rfl (.cons rfl (.cons rfl (.cons rfl Subs.nil))))), hR, H⟩
                            · replace H := M.ite_f hb_60 H
                              refine d_pureg (i := 63) (v := .bool (x86_59 != 0)) (unb 70 18446744073709551615) rfl rfl hT (anyM hM (by kernel_rfl)) hE rfl (wanted_of rfl hE rfl rfl rfl) (fun w => r_bin hE rfl rfl g_int b_neq) (fun a hE => ?_)
                              refine d_pureg (i := 64) (v := .bool (x86_59 != 0)) (unb 70 36893488147419103231) rfl rfl hT (anyM hM (by kernel_rfl)) hE rfl (wanted_none rfl) (fun w => r_pick_f hE rfl rfl) (fun a hE => ?_)
                              refine d_pureg (i := 65) (v := .bool (x86_59 != 0)) (unb 70 73786976294838206463) rfl rfl hT (anyM hM (by kernel_rfl)) hE rfl (wanted_none rfl) (fun w => r_move hE rfl) (fun a hE => ?_)
                              have hE := hE.reb 89 (x86_59 != 0) false hb_60 rfl
                              replace hE := hE.cut (l' := [(1, .pointer (some x1_2)), (11, (x11_10 : Sl).v), (12, .int .i64 (x11_10.len : Int)), (13, .int .i64 x13_11), (4, .pointer x16_21), (89, .bool false)]) (.cons rfl (.cons rfl (.cons rfl (.cons rfl (.cons rfl (.cons rfl Subs.nil))))))
                              refine d_pureg (i := 66) (v := .pointer x16_21) (unb 70 147573952589676412927) rfl rfl hT (anyM hM (by kernel_rfl)) hE rfl (wanted_of rfl hE rfl rfl rfl) (fun w => r_move hE rfl) (fun a hE => ?_)
                              refine d_calll (i := 67) (unb 70 295147905179352825855) rfl rfl rfl hT (oneM hM (by kernel_rfl)) rfl hE hR (wanted_of rfl hE rfl rfl rfl) cl_disk_Disk_Clone rfl (S_disk_Disk_Clone x16_21) (M.unbind H) (fun x91_61 a w ea hR H => ?_)
                              have hE := Env.put_some hE rfl ea; clear ea
                              refine d_pureg (i := 68) (v := .bool (!(x91_61).isNone)) (unb 70 590295810358705651711) rfl rfl hT (anyM hM (by kernel_rfl)) hE rfl (wanted_of rfl hE rfl rfl rfl) (fun w => r_bin hE rfl rfl g_ptr (b_neqP un23)) (fun a hE => ?_)
                              refine d_pureg (i := 69) (v := .bool (!(x91_61).isNone)) (unb 70 1180591620717411303423) rfl rfl hT (anyM hM (by kernel_rfl)) hE rfl (wanted_none rfl) (fun w => r_pick_f hE rfl rfl) (fun a hE => ?_)
                              refine d_done hT (doneM hM (by kernel_rfl)) ?_
                              exact ⟨!(x91_61).isNone, hE.cut (.cons rfl (.cons rfl (.cons rfl (.cons rfl (.cons rfl Subs.nil))))), hR, H⟩
    · replace H := M.ite_f hb H
      refine w_exit ?_
      refine Xu.same ?_
      refine hK_7 _ _ ?_
      refine w_seq (fun K hK_62 => ?_)
      refine t_region ?_
      refine t_val (v := .bool true) rfl rfl hE rfl (r_assign hE rfl) (fun a hE => ?_)
      refine t_nil ?_
      refine hK_62 _ _ ?_
      refine w_ret ?_
      exact hret _ _ _ true _ hE hR (res_run hE rfl (RV.tmp rfl RV.nil)) rfl H

end Gx
