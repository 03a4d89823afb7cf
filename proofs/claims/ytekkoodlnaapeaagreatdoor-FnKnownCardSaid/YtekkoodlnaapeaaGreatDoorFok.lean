import Derived.Test.YtekkoodlnaapeaaGreatDoorCodeB
import Derived.KernelRfl
import Derived.Test.YtekkoodlnaapeaaGreatDoorProg
/- The functions are reckoned as the program has them. -/
set_option linter.unusedVariables false
set_option linter.unusedSimpArgs false
set_option linter.constructorNameAsVariable false
namespace Go.Proofs.YtekkoodlnaapeaaGreatDoor.SX
open Go.Proofs.Tryz
set_option maxRecDepth 100000
theorem k3 : cFunc prog 4 [0, 2, 3, 4, 5, 6, 7, 8, 9, 11] 1 f3 = some c3 := by kernel_rfl
theorem k4 : cFunc prog 4 [0, 2, 3, 4, 5, 6, 7, 9, 10, 12, 13, 15, 16, 18] 1 f4 = some c4 := by kernel_rfl
theorem k5 : cFunc prog 4 [0, 2, 3, 4, 5, 6, 7, 9, 16, 34] 1 f5 = some c5 := by kernel_rfl
theorem k6 : cFunc prog 4 [0, 2, 3, 4, 5, 6, 7, 8, 9, 10, 12] 1 f6 = some c6 := by kernel_rfl
theorem k7 : cFunc prog 4 [0, 2, 3, 4, 5, 6, 7, 8, 11] 1 f7 = some c7 := by kernel_rfl
theorem k8 : cFunc prog 4 [0, 2, 3, 4, 5, 6, 7, 8, 11, 18] 1 f8 = some c8 := by kernel_rfl
theorem k11 : cFunc prog 3 [0, 1, 4, 5, 6, 7, 14, 21] 2 f11 = some c11 := by kernel_rfl
theorem k13 : cFunc prog 4 [0, 1, 4, 5, 6, 7, 8, 16, 34, 39, 40, 41, 42] 2 f13 = some c13 := by kernel_rfl
theorem k14 : cFunc prog 3 [0, 1, 2, 4, 5, 17] 2 f14 = some c14 := by kernel_rfl
theorem k15 : cFunc prog 2 [0, 1, 4] 2 f15 = some c15 := by kernel_rfl
theorem k16 : cFunc prog 3 [0, 1, 2, 6, 7, 8, 17, 22] 3 f16 = some c16 := by kernel_rfl
theorem k17 : cFunc prog 4 [0, 1, 4, 5, 6, 7, 8, 17, 18, 26, 27] 2 f17 = some c17 := by kernel_rfl
theorem k18 : cFunc prog 6 [0, 1, 4, 5, 6, 7, 8, 16, 25, 26, 27, 28, 29, 30, 31, 32, 33, 34, 35, 36, 37, 38, 43, 44, 45, 46, 47, 48, 49, 50, 51, 52, 53, 54, 55, 56, 57, 58, 59, 60, 61, 62] 2 f18 = some c18 := by kernel_rfl
theorem k19 : cFunc prog 5 [0, 1, 2, 3, 4, 5, 6, 7, 8, 9, 10, 11, 12, 13, 14, 15, 16] 1 f19 = some c19 := by kernel_rfl
theorem k20 : cFunc prog 5 [0, 2, 4, 5, 7, 8, 11, 12, 13, 14, 19, 28, 31, 34, 42, 43, 44, 45, 46, 47, 48, 49, 50, 51, 52, 53, 54, 55, 56] 2 f20 = some c20 := by kernel_rfl
theorem k21 : cFunc prog 4 [0, 1, 2, 3, 4, 5, 6, 7, 8, 9, 10, 11, 12] 1 f21 = some c21 := by kernel_rfl
theorem k22 : cFunc prog 4 [0, 1, 2, 4, 5, 6, 7, 8, 11, 22, 23, 24] 2 f22 = some c22 := by kernel_rfl
theorem k23 : cFunc prog 4 [0, 1, 4, 5, 6, 7, 8, 9, 16, 30] 2 f23 = some c23 := by kernel_rfl
theorem k24 : cFunc prog 4 [0, 1, 2, 3, 5, 7, 8, 9, 10, 20, 30, 39, 48, 59, 67] 1 f24 = some c24 := by kernel_rfl
theorem k25 : cFunc prog 5 [0, 2, 4, 5, 7, 9, 11, 13, 16, 18, 19, 20, 21, 31, 32, 33, 34, 43, 44, 45, 46, 51, 58, 59, 60, 61] 2 f25 = some c25 := by kernel_rfl
theorem k26 : cFunc prog 2 [0, 1, 2, 6] 3 f26 = some c26 := by kernel_rfl
theorem k27 : cFunc prog 4 [0, 1, 2, 4, 5, 6, 7, 8, 9, 10, 11, 19, 25, 55, 63] 2 f27 = some c27 := by kernel_rfl
theorem k28 : cFunc prog 4 [0, 1, 4, 5, 6, 18, 19, 20, 21, 22, 23] 2 f28 = some c28 := by kernel_rfl
theorem k29 : cFunc prog 4 [0, 1, 2, 4, 5, 8, 11, 12, 13, 14, 22] 1 f29 = some c29 := by kernel_rfl
theorem k30 : cFunc prog 3 [0, 1, 2, 4, 5, 8] 2 f30 = some c30 := by kernel_rfl
theorem k31 : cFunc prog 6 [0, 1, 2, 3, 4, 5, 6, 8, 9, 11, 13, 16, 23, 24, 25, 26, 27, 28, 29, 30, 35, 36, 37, 38, 49, 50, 51, 52, 55, 56, 57, 58, 59, 60, 61, 62, 63, 64, 71, 72, 73, 74, 77, 78, 79, 80, 81, 82, 83, 84, 85, 86, 98, 99, 100, 101, 102, 103, 104] 1 f31 = some c31 := by kernel_rfl
theorem k32 : cFunc prog 4 [0, 1, 4, 5, 6, 7, 8, 9, 10, 17, 39] 2 f32 = some c32 := by kernel_rfl
theorem k33 : cFunc prog 1 [0, 2] 1 f33 = some c33 := by kernel_rfl
theorem k34 : cFunc prog 4 [0, 2, 3, 4, 18, 37, 56, 65, 87, 92] 1 f34 = some c34 := by kernel_rfl
theorem k36 : cFunc prog 4 [0, 1, 2, 3, 5, 7, 10, 11, 12, 13, 23, 24, 25, 26, 41] 1 f36 = some c36 := by kernel_rfl
theorem k37 : cFunc prog 4 [0, 2, 3, 4, 5, 6, 7, 8, 16] 1 f37 = some c37 := by kernel_rfl
theorem k38 : cFunc prog 2 [0, 1, 3, 4] 2 f38 = some c38 := by kernel_rfl
theorem k39 : cFunc prog 4 [0, 1, 2, 3, 5, 8, 9, 10, 11, 16] 1 f39 = some c39 := by kernel_rfl
theorem k40 : cFunc prog 2 [0, 2, 4] 1 f40 = some c40 := by kernel_rfl
theorem k41 : cFunc prog 2 [0, 1, 3, 4] 2 f41 = some c41 := by kernel_rfl
theorem k42 : cFunc prog 4 [0, 1, 2, 3, 5, 8, 9, 10, 11, 16] 1 f42 = some c42 := by kernel_rfl
theorem k43 : cFunc prog 4 [0, 1, 2, 3, 5, 7, 10, 11, 12, 13, 23, 31, 32, 33, 34, 39] 1 f43 = some c43 := by kernel_rfl
theorem k44 : cFunc prog 4 [0, 1, 2, 3, 5, 8, 9, 10, 11, 21] 1 f44 = some c44 := by kernel_rfl
theorem k46 : cFunc prog 4 [0, 1, 2, 4, 5, 10, 12, 14, 16] 1 f46 = some c46 := by kernel_rfl
theorem k47 : cFunc prog 2 [0, 1, 2] 1 f47 = some c47 := by kernel_rfl
theorem k48 : cFunc prog 6 [0, 1, 2, 3, 6, 7, 8, 9, 11, 20, 21, 22, 23, 28, 29, 30, 31, 35, 36, 38, 39, 40, 41, 42, 43, 44, 45, 46, 47, 48, 49, 50, 51, 53, 54, 55, 56, 57, 58, 59, 60, 61, 62, 63, 64, 65, 66, 67, 68, 69, 70, 71, 72, 73] 3 f48 = some c48 := by kernel_rfl
theorem k49 : cFunc prog 5 [0, 1, 4, 5, 6, 7, 8, 9, 10, 14, 15, 16, 17, 18, 19, 20, 21, 22, 23, 24, 25, 26, 27, 28, 29, 30, 36] 2 f49 = some c49 := by kernel_rfl
theorem k50 : cFunc prog 4 [0, 2, 3, 4, 5, 6, 7, 8, 9, 10, 11, 12, 13, 14, 15, 16] 1 f50 = some c50 := by kernel_rfl
theorem k51 : cFunc prog 3 [0, 1, 4, 5, 9, 26, 44, 55] 2 f51 = some c51 := by kernel_rfl
theorem k52 : cFunc prog 4 [0, 1, 2, 6, 7, 8, 9, 10, 11, 12, 16, 31, 45, 52, 63] 3 f52 = some c52 := by kernel_rfl
theorem k53 : cFunc prog 3 [0, 1, 2, 3, 6] 3 f53 = some c53 := by kernel_rfl
theorem k54 : cFunc prog 6 [0, 1, 2, 3, 4, 6, 7, 8, 9, 10, 11, 12, 13, 14, 15, 16, 17, 21, 41, 44, 45, 46, 47, 48, 49, 50, 51, 52, 53, 54, 55, 56, 57, 59, 81] 1 f54 = some c54 := by kernel_rfl
theorem k55 : cFunc prog 6 [0, 1, 2, 3, 4, 5, 6, 7, 8, 9, 10, 11, 12, 13, 14, 15, 16, 19, 34, 40, 43, 44, 45, 46, 47, 48, 49, 50, 51, 52, 53, 54, 55, 68, 71, 72, 73, 74, 75, 76, 77, 78, 79, 80, 81, 82, 83, 84, 86, 101, 112, 125] 1 f55 = some c55 := by kernel_rfl
theorem k56 : cFunc prog 3 [0, 1, 2, 3, 4, 5] 1 f56 = some c56 := by kernel_rfl
theorem k57 : cFunc prog 3 [0, 1, 2, 3, 4, 5] 1 f57 = some c57 := by kernel_rfl
theorem k58 : cFunc prog 3 [0, 1, 2, 4, 8] 2 f58 = some c58 := by kernel_rfl
theorem k59 : cFunc prog 3 [0, 1, 2, 3, 4, 12, 14] 1 f59 = some c59 := by kernel_rfl
theorem k60 : cFunc prog 3 [0, 1, 2, 4, 8] 2 f60 = some c60 := by kernel_rfl
theorem k61 : cFunc prog 3 [0, 1, 2, 3, 6, 9, 15] 3 f61 = some c61 := by kernel_rfl
theorem k62 : cFunc prog 3 [0, 1, 2, 4, 5, 6, 10] 2 f62 = some c62 := by kernel_rfl
theorem k63 : cFunc prog 5 [0, 1, 2, 3, 4, 5, 7, 13, 14, 15, 16, 23, 37, 54, 55, 56, 57, 66] 1 f63 = some c63 := by kernel_rfl
theorem k64 : cFunc prog 3 [0, 1, 2, 3, 9, 10, 17] 1 f64 = some c64 := by kernel_rfl
theorem k65 : cFunc prog 5 [0, 1, 2, 4, 5, 11, 13, 14, 15, 16, 17, 18, 19, 20, 21, 22, 23] 1 f65 = some c65 := by kernel_rfl
theorem k66 : cFunc prog 5 [0, 1, 2, 3, 4, 5, 10, 22, 33, 37, 38, 39, 40, 41, 42, 43, 44, 45, 55, 62] 2 f66 = some c66 := by kernel_rfl
theorem k67 : cFunc prog 1 [0, 2] 1 f67 = some c67 := by kernel_rfl
theorem k68 : cFunc prog 3 [0, 1, 2, 6, 7, 8, 13] 3 f68 = some c68 := by kernel_rfl
theorem k69 : cFunc prog 6 [0, 1, 4, 5, 6, 7, 8, 17, 36, 37, 38, 39, 40, 41, 42, 43, 44, 45, 46, 47, 49, 50, 51, 52, 60, 74, 83, 84, 85, 86, 87, 88, 89, 90, 91, 92, 93, 94, 95, 96, 97, 98, 99, 100, 101, 102, 103, 104] 2 f69 = some c69 := by kernel_rfl
theorem k70 : cFunc prog 6 [0, 1, 2, 3, 4, 5, 23, 25, 26, 27, 28, 32, 33, 34, 35, 36, 37, 38, 39, 40, 41, 42, 43, 44, 45, 46, 47, 48, 49, 50, 51, 52, 53, 54, 55, 56, 57, 58, 59, 60, 61] 1 f70 = some c70 := by kernel_rfl
theorem k71 : cFunc prog 4 [0, 1, 2, 3, 4, 5, 6, 7, 8] 1 f71 = some c71 := by kernel_rfl
theorem k72 : cFunc prog 6 [0, 1, 2, 4, 5, 6, 7, 9, 10, 11, 18, 19, 20, 21, 51, 61, 62, 63, 64, 68, 69, 70, 71, 72, 73, 74, 75, 76, 77, 78, 79, 80, 81, 82, 83] 2 f72 = some c72 := by kernel_rfl
theorem k73 : cFunc prog 2 [0, 1, 2] 1 f73 = some c73 := by kernel_rfl
theorem k74 : cFunc prog 4 [0, 1, 2, 3, 5, 6, 9, 10, 11, 12, 21, 22, 23] 1 f74 = some c74 := by kernel_rfl
theorem k75 : cFunc prog 5 [0, 1, 2, 3, 6, 8, 10, 11, 14, 15, 16, 17, 18, 19, 20, 21, 22, 29, 36] 4 f75 = some c75 := by kernel_rfl
theorem k76 : cFunc prog 5 [0, 1, 2, 3, 6, 8, 9, 10, 17, 18, 27, 29, 30, 31, 32, 33, 34, 35, 36, 37, 38, 39, 40, 41, 42, 43] 4 f76 = some c76 := by kernel_rfl
theorem k77 : cFunc prog 3 [0, 2, 3, 4, 14, 24] 1 f77 = some c77 := by kernel_rfl
theorem k78 : cFunc prog 4 [0, 1, 3, 4, 5, 6, 7, 8, 11, 23, 32, 40] 2 f78 = some c78 := by kernel_rfl
theorem k79 : cFunc prog 2 [0, 1, 4, 5] 2 f79 = some c79 := by kernel_rfl
theorem k80 : cFunc prog 4 [0, 2, 3, 4, 6, 7, 8, 19, 26, 35, 36, 37, 38, 51] 1 f80 = some c80 := by kernel_rfl
theorem k81 : cFunc prog 3 [0, 2, 3, 4, 7, 12, 31, 53] 1 f81 = some c81 := by kernel_rfl
theorem k82 : cFunc prog 3 [0, 2, 3, 4, 5, 6, 8] 1 f82 = some c82 := by kernel_rfl
theorem k83 : cFunc prog 1 [0, 10] 1 f83 = some c83 := by kernel_rfl
theorem k84 : cFunc prog 3 [0, 2, 3, 4, 5, 8, 16, 18] 1 f84 = some c84 := by kernel_rfl
theorem k85 : cFunc prog 0 [0] 1 f85 = some c85 := by kernel_rfl
theorem k86 : cFunc prog 2 [0, 1, 7] 2 f86 = some c86 := by kernel_rfl
theorem k87 : cFunc prog 5 [0, 1, 3, 14, 18, 19, 20, 21, 22, 23, 24, 25, 26, 27, 28, 29, 30] 2 f87 = some c87 := by kernel_rfl
theorem k88 : cFunc prog 2 [0, 1, 4] 2 f88 = some c88 := by kernel_rfl
theorem k89 : cFunc prog 4 [0, 1, 4, 16, 26, 27, 28, 29, 30, 31, 32, 33, 34, 35, 36, 37] 2 f89 = some c89 := by kernel_rfl
theorem k91 : cFunc prog 2 [0, 1, 4] 2 f91 = some c91 := by kernel_rfl
theorem k92 : cFunc prog 2 [0, 1, 4] 2 f92 = some c92 := by kernel_rfl
theorem k93 : cFunc prog 2 [0, 1, 3] 2 f93 = some c93 := by kernel_rfl
theorem k94 : cFunc prog 2 [0, 1, 3] 2 f94 = some c94 := by kernel_rfl
theorem k98 : cFunc prog 3 [0, 1, 2, 4, 5, 6] 2 f98 = some c98 := by kernel_rfl
theorem k99 : cFunc prog 6 [0, 1, 2, 5, 6, 7, 15, 25, 27, 30, 32, 33, 34, 35, 36, 37, 38, 39, 40, 41, 42, 43, 44, 45, 46, 47, 48, 49, 57, 59, 60, 61, 62, 63, 64, 65, 66, 67, 68, 69, 70] 3 f99 = some c99 := by kernel_rfl
theorem k100 : cFunc prog 2 [0, 1, 4] 2 f100 = some c100 := by kernel_rfl
theorem k101 : cFunc prog 3 [0, 1, 2, 6, 23] 3 f101 = some c101 := by kernel_rfl
theorem k102 : cFunc prog 1 [0, 2] 1 f102 = some c102 := by kernel_rfl
theorem k103 : cFunc prog 4 [0, 1, 2, 6, 7, 8, 9, 20, 29, 39, 52] 3 f103 = some c103 := by kernel_rfl
theorem k104 : cFunc prog 3 [0, 1, 4, 5, 18, 24, 42] 2 f104 = some c104 := by kernel_rfl
theorem k105 : cFunc prog 3 [0, 2, 3, 4, 8, 15] 1 f105 = some c105 := by kernel_rfl
theorem k106 : cFunc prog 5 [0, 1, 2, 4, 5, 6, 7, 8, 9, 10, 11, 12, 13, 19, 28, 46, 62] 2 f106 = some c106 := by kernel_rfl
theorem k107 : cFunc prog 4 [0, 1, 2, 3, 4, 5, 26, 45, 55, 62] 1 f107 = some c107 := by kernel_rfl
theorem k108 : cFunc prog 3 [0, 1, 2, 3, 4, 7, 13] 2 f108 = some c108 := by kernel_rfl
theorem k109 : cFunc prog 3 [0, 1, 2, 4, 5, 26] 2 f109 = some c109 := by kernel_rfl
theorem k110 : cFunc prog 3 [0, 1, 2, 3, 4, 7, 17, 22] 2 f110 = some c110 := by kernel_rfl
theorem k111 : cFunc prog 2 [0, 1, 2, 5] 1 f111 = some c111 := by kernel_rfl
theorem k112 : cFunc prog 3 [0, 1, 2, 3, 7] 1 f112 = some c112 := by kernel_rfl
theorem k113 : cFunc prog 3 [0, 1, 2, 3, 4, 7, 13] 2 f113 = some c113 := by kernel_rfl
theorem k114 : cFunc prog 2 [0, 1, 2, 5] 1 f114 = some c114 := by kernel_rfl
theorem k115 : cFunc prog 2 [0, 1, 4] 2 f115 = some c115 := by kernel_rfl
theorem k116 : cFunc prog 1 [0, 2] 1 f116 = some c116 := by kernel_rfl
theorem k117 : cFunc prog 2 [0, 1, 4, 7] 2 f117 = some c117 := by kernel_rfl
theorem k118 : cFunc prog 7 [0, 1, 2, 4, 5, 12, 13, 18, 22, 27, 35, 44, 46, 47, 48, 49, 50, 51, 52, 53, 54, 55, 56, 57, 58, 59, 60, 61, 62, 63, 65, 66, 67, 68, 69, 70, 71, 72, 73, 74, 75, 76, 77, 78, 79, 80, 81, 82, 84, 85, 86, 87, 88, 89, 90, 91, 92, 93, 94, 95, 96, 97, 98, 99, 100, 101, 102, 103, 104, 105, 106, 107, 108] 2 f118 = some c118 := by kernel_rfl
theorem k119 : cFunc prog 2 [0, 1, 4] 2 f119 = some c119 := by kernel_rfl
theorem k120 : cFunc prog 4 [0, 1, 4, 5, 6, 7, 8, 9, 20, 33, 44] 2 f120 = some c120 := by kernel_rfl
theorem k121 : cFunc prog 3 [0, 1, 4, 5, 9, 14] 2 f121 = some c121 := by kernel_rfl
theorem k122 : cFunc prog 3 [0, 1, 4, 5, 7, 8, 9, 16] 2 f122 = some c122 := by kernel_rfl
theorem k123 : cFunc prog 4 [0, 2, 3, 5, 8, 11, 12, 13, 14, 17, 22, 25] 1 f123 = some c123 := by kernel_rfl
theorem k124 : cFunc prog 4 [0, 1, 2, 3, 4, 5, 7, 9, 10, 11, 12, 22, 23, 24, 25, 32] 1 f124 = some c124 := by kernel_rfl
theorem k125 : cFunc prog 2 [0, 1, 4] 2 f125 = some c125 := by kernel_rfl
theorem k126 : cFunc prog 4 [0, 1, 2, 4, 5, 6, 7, 9, 18, 27, 32, 33, 34, 35, 41] 2 f126 = some c126 := by kernel_rfl
theorem k127 : cFunc prog 5 [0, 1, 2, 3, 4, 8, 10, 14, 24, 25, 26, 27, 30, 31, 32, 33, 34, 35, 36, 37] 4 f127 = some c127 := by kernel_rfl
theorem k128 : cFunc prog 3 [0, 1, 2, 3, 4, 5, 6, 12] 2 f128 = some c128 := by kernel_rfl
theorem k129 : cFunc prog 3 [0, 1, 2, 3, 6] 3 f129 = some c129 := by kernel_rfl
theorem k130 : cFunc prog 4 [0, 1, 2, 3, 6, 8, 10, 11, 12, 13, 25] 3 f130 = some c130 := by kernel_rfl
theorem k131 : cFunc prog 5 [0, 1, 2, 6, 7, 8, 9, 10, 25, 26, 27, 28, 29, 30, 31, 32, 33, 34, 35, 36, 37, 38, 39, 40, 54] 3 f131 = some c131 := by kernel_rfl
theorem k132 : cFunc prog 6 [0, 1, 2, 5, 6, 7, 9, 10, 11, 12, 13, 14, 15, 16, 17, 18, 19, 20, 21, 22, 23, 24, 25, 26, 27, 28, 29, 30, 31, 32, 33, 34, 35, 36, 37, 38, 41] 3 f132 = some c132 := by kernel_rfl
theorem k133 : cFunc prog 3 [0, 1, 2, 6, 8] 3 f133 = some c133 := by kernel_rfl
theorem k134 : cFunc prog 3 [0, 1, 4, 5, 16] 2 f134 = some c134 := by kernel_rfl
theorem k135 : cFunc prog 1 [0, 2] 1 f135 = some c135 := by kernel_rfl
theorem k136 : cFunc prog 2 [0, 1, 4] 2 f136 = some c136 := by kernel_rfl
theorem k137 : cFunc prog 1 [0, 2] 1 f137 = some c137 := by kernel_rfl
theorem k138 : cFunc prog 2 [0, 1, 4] 2 f138 = some c138 := by kernel_rfl
theorem k139 : cFunc prog 2 [0, 1, 3] 2 f139 = some c139 := by kernel_rfl
theorem k140 : cFunc prog 1 [0, 2] 1 f140 = some c140 := by kernel_rfl
theorem k142 : cFunc prog 3 [0, 2, 3, 4, 5, 24] 1 f142 = some c142 := by kernel_rfl
theorem k143 : cFunc prog 2 [0, 1, 4] 2 f143 = some c143 := by kernel_rfl
theorem k144 : cFunc prog 5 [0, 2, 3, 4, 5, 6, 7, 8, 9, 10, 11, 12, 18, 19, 20, 21, 22, 23, 24, 25, 26, 27] 1 f144 = some c144 := by kernel_rfl
theorem k145 : cFunc prog 5 [0, 2, 3, 13, 23, 24, 25, 26, 27, 28, 29, 30, 39, 42, 43, 44, 45, 46, 47, 48, 49, 50, 51, 52, 53, 54] 1 f145 = some c145 := by kernel_rfl
theorem k146 : cFunc prog 2 [0, 1, 4, 5] 2 f146 = some c146 := by kernel_rfl
theorem k147 : cFunc prog 3 [0, 1, 4, 5, 12] 2 f147 = some c147 := by kernel_rfl
theorem k148 : cFunc prog 2 [0, 2, 3, 12] 1 f148 = some c148 := by kernel_rfl
theorem k149 : cFunc prog 1 [0, 2] 1 f149 = some c149 := by kernel_rfl
theorem k150 : cFunc prog 2 [0, 1, 7] 2 f150 = some c150 := by kernel_rfl
theorem k151 : cFunc prog 2 [0, 1, 17, 21] 2 f151 = some c151 := by kernel_rfl
theorem k152 : cFunc prog 4 [0, 2, 3, 4, 5, 7, 9, 21, 24, 25, 26, 27, 40, 41, 42, 43] 1 f152 = some c152 := by kernel_rfl
theorem k153 : cFunc prog 5 [0, 1, 2, 6, 7, 8, 9, 10, 11, 12, 13, 14, 15, 16, 17, 18, 19, 20, 21, 22, 23, 24, 25, 39, 43] 3 f153 = some c153 := by kernel_rfl
theorem k154 : cFunc prog 1 [0, 3] 1 f154 = some c154 := by kernel_rfl
theorem k155 : cFunc prog 3 [0, 2, 3, 4, 8] 1 f155 = some c155 := by kernel_rfl
theorem k156 : cFunc prog 5 [0, 1, 3, 4, 7, 14, 17, 18, 19, 20, 21, 22, 23, 24, 25, 26, 27, 28] 2 f156 = some c156 := by kernel_rfl
theorem k157 : cFunc prog 5 [0, 3, 4, 5, 6, 7, 8, 9, 10, 11, 12, 13, 14, 15, 16, 17, 18] 1 f157 = some c157 := by kernel_rfl
theorem k158 : cFunc prog 5 [0, 2, 3, 6, 7, 8, 9, 10, 11, 12, 13, 14, 15, 16, 17, 18, 19, 20, 21, 22] 1 f158 = some c158 := by kernel_rfl
theorem k160 : cFunc prog 3 [0, 1, 4, 5, 7, 8, 9, 16] 2 f160 = some c160 := by kernel_rfl
theorem k163 : cFunc prog 3 [0, 1, 2, 3, 4] 2 f163 = some c163 := by kernel_rfl
theorem k164 : cFunc prog 2 [0, 2, 7, 12] 1 f164 = some c164 := by kernel_rfl
theorem k165 : cFunc prog 5 [0, 1, 2, 6, 7, 8, 9, 10, 13, 28, 29, 34, 41, 50, 56, 74, 81, 101] 3 f165 = some c165 := by kernel_rfl
theorem k166 : cFunc prog 3 [0, 1, 2, 4, 5, 6] 3 f166 = some c166 := by kernel_rfl
theorem k167 : cFunc prog 5 [0, 1, 2, 3, 7, 9, 10, 28, 29, 30, 31, 32, 33, 34, 35, 36, 40] 4 f167 = some c167 := by kernel_rfl
theorem k168 : cFunc prog 3 [0, 1, 2, 4, 5, 10] 1 f168 = some c168 := by kernel_rfl
theorem k169 : cFunc prog 2 [0, 1, 4, 9] 2 f169 = some c169 := by kernel_rfl
theorem k170 : cFunc prog 3 [0, 1, 4, 5, 6, 15] 2 f170 = some c170 := by kernel_rfl
theorem k171 : cFunc prog 2 [0, 1, 2, 8] 1 f171 = some c171 := by kernel_rfl
theorem k172 : cFunc prog 4 [0, 1, 2, 3, 4, 5, 6, 7, 28, 45, 48, 72, 86, 90, 104] 1 f172 = some c172 := by kernel_rfl
theorem k173 : cFunc prog 3 [0, 1, 4, 5, 7, 8, 9, 16] 2 f173 = some c173 := by kernel_rfl
theorem k174 : cFunc prog 3 [0, 1, 2, 3, 6, 7, 11] 3 f174 = some c174 := by kernel_rfl
theorem k175 : cFunc prog 2 [0, 1, 2] 1 f175 = some c175 := by kernel_rfl
theorem k176 : cFunc prog 3 [0, 1, 4, 5, 6, 16] 2 f176 = some c176 := by kernel_rfl
theorem k177 : cFunc prog 3 [0, 2, 3, 4, 6, 7, 8, 42] 1 f177 = some c177 := by kernel_rfl
theorem k178 : cFunc prog 1 [0, 2] 1 f178 = some c178 := by kernel_rfl
theorem k181 : cFunc prog 2 [0, 1, 4] 2 f181 = some c181 := by kernel_rfl
theorem k182 : cFunc prog 2 [0, 1, 2, 3] 2 f182 = some c182 := by kernel_rfl
theorem k183 : cFunc prog 3 [0, 1, 4, 5, 7, 8, 9, 16] 2 f183 = some c183 := by kernel_rfl
theorem k184 : cFunc prog 3 [0, 1, 4, 5, 7, 8, 9, 16] 2 f184 = some c184 := by kernel_rfl
theorem k185 : cFunc prog 2 [0, 1, 2, 3] 2 f185 = some c185 := by kernel_rfl
theorem k186 : cFunc prog 6 [0, 1, 2, 6, 7, 8, 9, 10, 12, 13, 17, 18, 19, 20, 21, 22, 24, 25, 26, 27, 28, 29, 30, 31, 32, 33, 45, 56, 57, 58, 59, 64, 65, 66, 67, 68, 69, 70, 71, 72, 73, 74, 75, 76, 96] 3 f186 = some c186 := by kernel_rfl
theorem k187 : cFunc prog 3 [0, 1, 4, 5, 7, 8, 9, 16] 2 f187 = some c187 := by kernel_rfl
theorem k188 : cFunc prog 2 [0, 1, 4] 2 f188 = some c188 := by kernel_rfl
theorem k190 : cFunc prog 1 [0, 2] 1 f190 = some c190 := by kernel_rfl
theorem k191 : cFunc prog 3 [0, 1, 4, 5, 7, 8, 9, 16] 2 f191 = some c191 := by kernel_rfl
theorem k192 : cFunc prog 2 [0, 2, 3, 8] 1 f192 = some c192 := by kernel_rfl
theorem k193 : cFunc prog 2 [0, 1, 4] 2 f193 = some c193 := by kernel_rfl
theorem k194 : cFunc prog 2 [0, 1, 2] 1 f194 = some c194 := by kernel_rfl
theorem k195 : cFunc prog 3 [0, 2, 3, 4, 7, 11, 27] 1 f195 = some c195 := by kernel_rfl
theorem k196 : cFunc prog 3 [0, 1, 4, 5, 7] 2 f196 = some c196 := by kernel_rfl
theorem k200 : cFunc prog 5 [0, 1, 4, 5, 10, 12, 13, 14, 16, 17, 18, 19, 20, 21, 22, 23, 24] 2 f200 = some c200 := by kernel_rfl
theorem k201 : cFunc prog 5 [0, 1, 4, 5, 10, 12, 13, 14, 16, 17, 18, 19, 20, 21, 22, 23, 24] 2 f201 = some c201 := by kernel_rfl
theorem k202 : cFunc prog 5 [0, 1, 4, 5, 10, 12, 13, 14, 16, 17, 18, 19, 20, 21, 22, 23, 24] 2 f202 = some c202 := by kernel_rfl
theorem k203 : cFunc prog 5 [0, 1, 4, 5, 10, 12, 13, 14, 16, 17, 18, 19, 20, 21, 22, 23, 24] 2 f203 = some c203 := by kernel_rfl
theorem k204 : cFunc prog 5 [0, 1, 4, 5, 10, 12, 13, 14, 16, 17, 18, 19, 20, 21, 22, 23, 24] 2 f204 = some c204 := by kernel_rfl
theorem k205 : cFunc prog 3 [0, 1, 2, 6, 14] 3 f205 = some c205 := by kernel_rfl
theorem k206 : cFunc prog 5 [0, 1, 3, 4, 5, 6, 7, 14, 20, 28, 29, 30, 31, 32, 33, 34, 35] 2 f206 = some c206 := by kernel_rfl
theorem k207 : cFunc prog 6 [0, 1, 2, 5, 6, 7, 9, 10, 11, 12, 13, 14, 15, 16, 17, 18, 19, 20, 21, 22, 23, 24, 25, 26, 27, 28, 29, 30, 31, 32, 33, 34, 35, 36, 37, 38, 41] 3 f207 = some c207 := by kernel_rfl
theorem k208 : cFunc prog 3 [0, 1, 4, 5, 7, 8, 9, 16] 2 f208 = some c208 := by kernel_rfl
theorem k209 : cFunc prog 3 [0, 1, 2, 3, 4] 3 f209 = some c209 := by kernel_rfl
theorem k210 : cFunc prog 3 [0, 1, 2, 4, 6] 2 f210 = some c210 := by kernel_rfl
theorem k211 : cFunc prog 2 [0, 1, 3, 4] 2 f211 = some c211 := by kernel_rfl
theorem k212 : cFunc prog 6 [0, 2, 3, 4, 5, 6, 7, 8, 12, 13, 14, 15, 16, 17, 18, 19, 20, 21, 22, 23, 24, 25, 26, 27, 28, 29, 30, 31, 32, 33, 34, 35, 36, 37, 38, 39, 40, 41, 42, 43, 44, 45, 46, 47, 48] 1 f212 = some c212 := by kernel_rfl
theorem k215 : cFunc prog 3 [0, 1, 4, 5, 7, 8, 9, 16] 2 f215 = some c215 := by kernel_rfl
theorem k216 : cFunc prog 2 [0, 1, 3, 4] 2 f216 = some c216 := by kernel_rfl
theorem k217 : cFunc prog 6 [0, 1, 2, 6, 7, 8, 10, 11, 12, 14, 24, 25, 26, 27, 38, 46, 47, 48, 49, 50, 51, 52, 53, 54, 55, 56, 57, 58, 65, 66, 67, 68, 79, 80, 81, 82, 83, 84, 85, 86, 87, 88, 89, 90, 91] 3 f217 = some c217 := by kernel_rfl
theorem k220 : cFunc prog 3 [0, 1, 4, 5, 7, 8, 9, 16] 2 f220 = some c220 := by kernel_rfl
theorem k221 : cFunc prog 3 [0, 1, 4, 5, 7, 24, 39] 2 f221 = some c221 := by kernel_rfl
theorem k226 : cFunc prog 2 [0, 1, 4, 17] 2 f226 = some c226 := by kernel_rfl
theorem k227 : cFunc prog 5 [0, 1, 2, 6, 7, 8, 9, 23, 24, 25, 26, 27, 28, 29, 30, 31, 32, 33, 34, 35, 36, 37, 38] 3 f227 = some c227 := by kernel_rfl
theorem k228 : cFunc prog 3 [0, 1, 4, 5, 7, 8, 9, 16] 2 f228 = some c228 := by kernel_rfl
theorem k229 : cFunc prog 2 [0, 1, 2, 3] 2 f229 = some c229 := by kernel_rfl
theorem k233 : cFunc prog 4 [0, 1, 3, 4, 5, 7, 8, 9, 11, 12, 13, 14, 15, 16] 2 f233 = some c233 := by kernel_rfl
theorem k239 : cFunc prog 2 [0, 2, 5] 1 f239 = some c239 := by kernel_rfl
theorem pgOk : PgOk prog pgT.get := PT.ok_get ⟨⟨⟨⟨⟨⟨⟨⟨f3, _, _, _, func3, k3⟩, ⟨⟨f4, _, _, _, func4, k4⟩, ⟨f5, _, _, _, func5, k5⟩⟩⟩, ⟨⟨f6, _, _, _, func6, k6⟩, ⟨⟨f7, _, _, _, func7, k7⟩, ⟨f8, _, _, _, func8, k8⟩⟩⟩⟩, ⟨⟨⟨f11, _, _, _, func11, k11⟩, ⟨⟨f13, _, _, _, func13, k13⟩, ⟨f14, _, _, _, func14, k14⟩⟩⟩, ⟨⟨f15, _, _, _, func15, k15⟩, ⟨⟨f16, _, _, _, func16, k16⟩, ⟨f17, _, _, _, func17, k17⟩⟩⟩⟩⟩, ⟨⟨⟨⟨f18, _, _, _, func18, k18⟩, ⟨⟨f19, _, _, _, func19, k19⟩, ⟨f20, _, _, _, func20, k20⟩⟩⟩, ⟨⟨f21, _, _, _, func21, k21⟩, ⟨⟨f22, _, _, _, func22, k22⟩, ⟨f23, _, _, _, func23, k23⟩⟩⟩⟩, ⟨⟨⟨f24, _, _, _, func24, k24⟩, ⟨⟨f25, _, _, _, func25, k25⟩, ⟨f26, _, _, _, func26, k26⟩⟩⟩, ⟨⟨⟨f27, _, _, _, func27, k27⟩, ⟨f28, _, _, _, func28, k28⟩⟩, ⟨⟨f29, _, _, _, func29, k29⟩, ⟨f30, _, _, _, func30, k30⟩⟩⟩⟩⟩⟩, ⟨⟨⟨⟨⟨f31, _, _, _, func31, k31⟩, ⟨⟨f32, _, _, _, func32, k32⟩, ⟨f33, _, _, _, func33, k33⟩⟩⟩, ⟨⟨f34, _, _, _, func34, k34⟩, ⟨⟨f36, _, _, _, func36, k36⟩, ⟨f37, _, _, _, func37, k37⟩⟩⟩⟩, ⟨⟨⟨f38, _, _, _, func38, k38⟩, ⟨⟨f39, _, _, _, func39, k39⟩, ⟨f40, _, _, _, func40, k40⟩⟩⟩, ⟨⟨f41, _, _, _, func41, k41⟩, ⟨⟨f42, _, _, _, func42, k42⟩, ⟨f43, _, _, _, func43, k43⟩⟩⟩⟩⟩, ⟨⟨⟨⟨f44, _, _, _, func44, k44⟩, ⟨⟨f46, _, _, _, func46, k46⟩, ⟨f47, _, _, _, func47, k47⟩⟩⟩, ⟨⟨f48, _, _, _, func48, k48⟩, ⟨⟨f49, _, _, _, func49, k49⟩, ⟨f50, _, _, _, func50, k50⟩⟩⟩⟩, ⟨⟨⟨f51, _, _, _, func51, k51⟩, ⟨⟨f52, _, _, _, func52, k52⟩, ⟨f53, _, _, _, func53, k53⟩⟩⟩, ⟨⟨⟨f54, _, _, _, func54, k54⟩, ⟨f55, _, _, _, func55, k55⟩⟩, ⟨⟨f56, _, _, _, func56, k56⟩, ⟨f57, _, _, _, func57, k57⟩⟩⟩⟩⟩⟩⟩, ⟨⟨⟨⟨⟨⟨f58, _, _, _, func58, k58⟩, ⟨⟨f59, _, _, _, func59, k59⟩, ⟨f60, _, _, _, func60, k60⟩⟩⟩, ⟨⟨f61, _, _, _, func61, k61⟩, ⟨⟨f62, _, _, _, func62, k62⟩, ⟨f63, _, _, _, func63, k63⟩⟩⟩⟩, ⟨⟨⟨f64, _, _, _, func64, k64⟩, ⟨⟨f65, _, _, _, func65, k65⟩, ⟨f66, _, _, _, func66, k66⟩⟩⟩, ⟨⟨f67, _, _, _, func67, k67⟩, ⟨⟨f68, _, _, _, func68, k68⟩, ⟨f69, _, _, _, func69, k69⟩⟩⟩⟩⟩, ⟨⟨⟨⟨f70, _, _, _, func70, k70⟩, ⟨⟨f71, _, _, _, func71, k71⟩, ⟨f72, _, _, _, func72, k72⟩⟩⟩, ⟨⟨f73, _, _, _, func73, k73⟩, ⟨⟨f74, _, _, _, func74, k74⟩, ⟨f75, _, _, _, func75, k75⟩⟩⟩⟩, ⟨⟨⟨f76, _, _, _, func76, k76⟩, ⟨⟨f77, _, _, _, func77, k77⟩, ⟨f78, _, _, _, func78, k78⟩⟩⟩, ⟨⟨⟨f79, _, _, _, func79, k79⟩, ⟨f80, _, _, _, func80, k80⟩⟩, ⟨⟨f81, _, _, _, func81, k81⟩, ⟨f82, _, _, _, func82, k82⟩⟩⟩⟩⟩⟩, ⟨⟨⟨⟨⟨f83, _, _, _, func83, k83⟩, ⟨⟨f84, _, _, _, func84, k84⟩, ⟨f85, _, _, _, func85, k85⟩⟩⟩, ⟨⟨f86, _, _, _, func86, k86⟩, ⟨⟨f87, _, _, _, func87, k87⟩, ⟨f88, _, _, _, func88, k88⟩⟩⟩⟩, ⟨⟨⟨f89, _, _, _, func89, k89⟩, ⟨⟨f91, _, _, _, func91, k91⟩, ⟨f92, _, _, _, func92, k92⟩⟩⟩, ⟨⟨⟨f93, _, _, _, func93, k93⟩, ⟨f94, _, _, _, func94, k94⟩⟩, ⟨⟨f98, _, _, _, func98, k98⟩, ⟨f99, _, _, _, func99, k99⟩⟩⟩⟩⟩, ⟨⟨⟨⟨f100, _, _, _, func100, k100⟩, ⟨⟨f101, _, _, _, func101, k101⟩, ⟨f102, _, _, _, func102, k102⟩⟩⟩, ⟨⟨f103, _, _, _, func103, k103⟩, ⟨⟨f104, _, _, _, func104, k104⟩, ⟨f105, _, _, _, func105, k105⟩⟩⟩⟩, ⟨⟨⟨f106, _, _, _, func106, k106⟩, ⟨⟨f107, _, _, _, func107, k107⟩, ⟨f108, _, _, _, func108, k108⟩⟩⟩, ⟨⟨⟨f109, _, _, _, func109, k109⟩, ⟨f110, _, _, _, func110, k110⟩⟩, ⟨⟨f111, _, _, _, func111, k111⟩, ⟨f112, _, _, _, func112, k112⟩⟩⟩⟩⟩⟩⟩⟩, ⟨⟨⟨⟨⟨⟨⟨f113, _, _, _, func113, k113⟩, ⟨⟨f114, _, _, _, func114, k114⟩, ⟨f115, _, _, _, func115, k115⟩⟩⟩, ⟨⟨f116, _, _, _, func116, k116⟩, ⟨⟨f117, _, _, _, func117, k117⟩, ⟨f118, _, _, _, func118, k118⟩⟩⟩⟩, ⟨⟨⟨f119, _, _, _, func119, k119⟩, ⟨⟨f120, _, _, _, func120, k120⟩, ⟨f121, _, _, _, func121, k121⟩⟩⟩, ⟨⟨f122, _, _, _, func122, k122⟩, ⟨⟨f123, _, _, _, func123, k123⟩, ⟨f124, _, _, _, func124, k124⟩⟩⟩⟩⟩, ⟨⟨⟨⟨f125, _, _, _, func125, k125⟩, ⟨⟨f126, _, _, _, func126, k126⟩, ⟨f127, _, _, _, func127, k127⟩⟩⟩, ⟨⟨f128, _, _, _, func128, k128⟩, ⟨⟨f129, _, _, _, func129, k129⟩, ⟨f130, _, _, _, func130, k130⟩⟩⟩⟩, ⟨⟨⟨f131, _, _, _, func131, k131⟩, ⟨⟨f132, _, _, _, func132, k132⟩, ⟨f133, _, _, _, func133, k133⟩⟩⟩, ⟨⟨⟨f134, _, _, _, func134, k134⟩, ⟨f135, _, _, _, func135, k135⟩⟩, ⟨⟨f136, _, _, _, func136, k136⟩, ⟨f137, _, _, _, func137, k137⟩⟩⟩⟩⟩⟩, ⟨⟨⟨⟨⟨f138, _, _, _, func138, k138⟩, ⟨⟨f139, _, _, _, func139, k139⟩, ⟨f140, _, _, _, func140, k140⟩⟩⟩, ⟨⟨f142, _, _, _, func142, k142⟩, ⟨⟨f143, _, _, _, func143, k143⟩, ⟨f144, _, _, _, func144, k144⟩⟩⟩⟩, ⟨⟨⟨f145, _, _, _, func145, k145⟩, ⟨⟨f146, _, _, _, func146, k146⟩, ⟨f147, _, _, _, func147, k147⟩⟩⟩, ⟨⟨f148, _, _, _, func148, k148⟩, ⟨⟨f149, _, _, _, func149, k149⟩, ⟨f150, _, _, _, func150, k150⟩⟩⟩⟩⟩, ⟨⟨⟨⟨f151, _, _, _, func151, k151⟩, ⟨⟨f152, _, _, _, func152, k152⟩, ⟨f153, _, _, _, func153, k153⟩⟩⟩, ⟨⟨f154, _, _, _, func154, k154⟩, ⟨⟨f155, _, _, _, func155, k155⟩, ⟨f156, _, _, _, func156, k156⟩⟩⟩⟩, ⟨⟨⟨f157, _, _, _, func157, k157⟩, ⟨⟨f158, _, _, _, func158, k158⟩, ⟨f160, _, _, _, func160, k160⟩⟩⟩, ⟨⟨⟨f163, _, _, _, func163, k163⟩, ⟨f164, _, _, _, func164, k164⟩⟩, ⟨⟨f165, _, _, _, func165, k165⟩, ⟨f166, _, _, _, func166, k166⟩⟩⟩⟩⟩⟩⟩, ⟨⟨⟨⟨⟨⟨f167, _, _, _, func167, k167⟩, ⟨⟨f168, _, _, _, func168, k168⟩, ⟨f169, _, _, _, func169, k169⟩⟩⟩, ⟨⟨f170, _, _, _, func170, k170⟩, ⟨⟨f171, _, _, _, func171, k171⟩, ⟨f172, _, _, _, func172, k172⟩⟩⟩⟩, ⟨⟨⟨f173, _, _, _, func173, k173⟩, ⟨⟨f174, _, _, _, func174, k174⟩, ⟨f175, _, _, _, func175, k175⟩⟩⟩, ⟨⟨f176, _, _, _, func176, k176⟩, ⟨⟨f177, _, _, _, func177, k177⟩, ⟨f178, _, _, _, func178, k178⟩⟩⟩⟩⟩, ⟨⟨⟨⟨f181, _, _, _, func181, k181⟩, ⟨⟨f182, _, _, _, func182, k182⟩, ⟨f183, _, _, _, func183, k183⟩⟩⟩, ⟨⟨f184, _, _, _, func184, k184⟩, ⟨⟨f185, _, _, _, func185, k185⟩, ⟨f186, _, _, _, func186, k186⟩⟩⟩⟩, ⟨⟨⟨f187, _, _, _, func187, k187⟩, ⟨⟨f188, _, _, _, func188, k188⟩, ⟨f190, _, _, _, func190, k190⟩⟩⟩, ⟨⟨⟨f191, _, _, _, func191, k191⟩, ⟨f192, _, _, _, func192, k192⟩⟩, ⟨⟨f193, _, _, _, func193, k193⟩, ⟨f194, _, _, _, func194, k194⟩⟩⟩⟩⟩⟩, ⟨⟨⟨⟨⟨f195, _, _, _, func195, k195⟩, ⟨⟨f196, _, _, _, func196, k196⟩, ⟨f200, _, _, _, func200, k200⟩⟩⟩, ⟨⟨f201, _, _, _, func201, k201⟩, ⟨⟨f202, _, _, _, func202, k202⟩, ⟨f203, _, _, _, func203, k203⟩⟩⟩⟩, ⟨⟨⟨f204, _, _, _, func204, k204⟩, ⟨⟨f205, _, _, _, func205, k205⟩, ⟨f206, _, _, _, func206, k206⟩⟩⟩, ⟨⟨⟨f207, _, _, _, func207, k207⟩, ⟨f208, _, _, _, func208, k208⟩⟩, ⟨⟨f209, _, _, _, func209, k209⟩, ⟨f210, _, _, _, func210, k210⟩⟩⟩⟩⟩, ⟨⟨⟨⟨f211, _, _, _, func211, k211⟩, ⟨⟨f212, _, _, _, func212, k212⟩, ⟨f215, _, _, _, func215, k215⟩⟩⟩, ⟨⟨f216, _, _, _, func216, k216⟩, ⟨⟨f217, _, _, _, func217, k217⟩, ⟨f220, _, _, _, func220, k220⟩⟩⟩⟩, ⟨⟨⟨f221, _, _, _, func221, k221⟩, ⟨⟨f226, _, _, _, func226, k226⟩, ⟨f227, _, _, _, func227, k227⟩⟩⟩, ⟨⟨⟨f228, _, _, _, func228, k228⟩, ⟨f229, _, _, _, func229, k229⟩⟩, ⟨⟨f233, _, _, _, func233, k233⟩, ⟨f239, _, _, _, func239, k239⟩⟩⟩⟩⟩⟩⟩⟩⟩
end Go.Proofs.YtekkoodlnaapeaaGreatDoor.SX
