/- The closed facts of the row VmNames, each by itself. -/
import Derived.Test.YtbioklhoolkhkadGreatDoorRows
import Derived.KernelRfl
import Derived.JoinedOf
namespace Go.Proofs.YtbioklhoolkhkadGreatDoor
set_option linter.unusedVariables false
set_option linter.unusedSimpArgs false
set_option maxRecDepth 100000
open Go

theorem vn_clos : Tryz.prog.closure 3 = [3, 4, 5, 6, 15, 46, 114, 178, 226, 286, 121, 189, 227, 179, 228, 229, 231, 287, 288, 230, 232, 289, 290, 233, 291, 292, 180, 234, 293, 331, 206, 270, 294, 297, 235, 295, 166, 213, 236, 237, 296, 209, 271, 238, 239, 299, 300, 334, 335, 336, 354, 247, 304, 134, 196, 337, 298, 333, 332, 353, 181, 240, 241, 243, 242, 244, 301, 302, 245, 246, 303, 338, 182, 248, 305, 249, 47, 48, 49, 50, 51, 52, 53, 115, 125, 190, 191, 116, 183, 54, 117, 184, 185, 118, 186, 187, 188, 119, 120, 122, 16, 55, 123, 124, 57, 56, 7, 17, 58, 126, 59, 127, 128, 192, 193, 197, 250, 251, 252, 253, 257, 254, 306, 279, 339, 355, 131, 195, 340, 274, 149, 203, 202, 267, 275, 204, 269, 268, 313, 325, 152, 205, 341, 356, 342, 358, 368, 359, 369, 374, 357, 360, 361, 362, 363, 370, 375, 344, 366, 373, 378, 379, 324, 387, 388, 380, 381, 389, 390, 394, 395, 364, 371, 376, 382, 391, 396, 397, 377, 383, 392, 384, 385, 393, 386, 365, 372, 307, 194, 266, 255, 138, 264, 256, 258, 259, 260, 261, 308, 343, 309, 262, 263, 265, 310, 311, 312, 8, 9, 18, 60, 62, 20, 61, 63, 64, 65, 129, 130, 19, 22, 66, 67, 68, 69, 70, 21, 24, 26, 71, 73, 72, 25, 23, 27, 74, 132, 133, 76, 135, 75, 77, 136, 137, 29, 78, 139, 80, 140, 141, 142, 79, 82, 143, 81, 84, 86, 144, 145, 147, 146, 85, 83, 87, 28, 10, 30, 88, 148, 198, 199, 200, 201, 11, 12, 31, 89, 150, 90, 151, 153, 154, 207, 155, 93, 167, 32, 96, 156, 208, 157, 210, 91, 158, 159, 35, 211, 273, 323, 272, 314, 320, 350, 315, 345, 316, 346, 347, 317, 348, 349, 367, 318, 319, 321, 322, 212, 160, 161, 162, 163, 164, 165, 92, 94, 168, 169, 214, 172, 219, 276, 326, 277, 327, 351, 278, 280, 328, 215, 216, 218, 217, 281, 97, 173, 95, 170, 171, 33, 34, 36, 37, 98, 100, 175, 99, 174, 220, 221, 222, 282, 283, 329, 284, 330, 352, 285, 13, 38, 14, 39, 101, 102, 176, 223, 40, 41, 43, 103, 104, 42, 44, 105, 106, 45, 107, 108, 177, 224, 225, 111, 109, 110, 112, 113] := by kernel_rfl
theorem vn_inPlace : Tryz.prog.inPlace 3 = ["internal/bytealg.abigen_runtime_cmpstring"] := by
  unfold Program.inPlace
  rw [vn_clos]
  kernel_rfl
theorem vn_unfollowed : Tryz.prog.unfollowed 3 = true := by
  unfold Program.unfollowed
  rw [vn_clos]
  kernel_rfl
theorem vn_recurses : Tryz.prog.recurses 3 = true := by
  unfold Program.recurses
  rw [vn_unfollowed]
  rfl
theorem vn_named : Tryz.prog.varsNamed 3 = ["internal/strconv.uint64pow10", "math/bits.deBruijn32tab", "math/bits.deBruijn64tab", "strconv.ErrSyntax", "strconv.ErrRange"] := by
  unfold Program.varsNamed
  rw [vn_clos]
  kernel_rfl
theorem vn_facts : joinedFacts Tryz.prog 3 Tryz.f3 Rows.vmNamesSpec Rows.vmNamesRow = true := by
  unfold joinedFacts
  rw [vn_inPlace, vn_unfollowed, vn_recurses, vn_named]
  kernel_rfl
end Go.Proofs.YtbioklhoolkhkadGreatDoor
