/- What the row of TopCollatz asks of the functions that the law comes to, each a theorem of its own. No condition. -/
import Derived.Test.YtdgigppkpkpaeaaGreatDoorTopFacts
namespace Go.Proofs.YtdgigppkpkpaeaaGreatDoor.topCollatz
set_option maxRecDepth 100000
theorem clos : Tryz.pinned.checked.prog.closure 3 = [3, 7, 23, 33, 63, 102, 65, 106, 153, 296, 297, 298, 299, 300, 301, 302, 390, 391, 392, 449, 461, 505, 303, 393, 398, 450, 396, 451, 394, 395, 397, 399, 452, 499, 400, 453, 454, 455, 154, 155, 304, 401, 456, 500, 402, 459, 501, 460, 457, 502, 503, 504, 458, 107, 462, 506, 66, 108, 156, 64, 103, 104, 105, 14, 24, 34, 72, 73, 75, 74, 115, 76, 116, 176, 175, 325, 117, 42, 89, 118, 177, 79, 126, 119, 120, 179, 178, 326, 121, 180, 147, 264, 265, 181, 182, 183, 122, 184, 328, 327, 430, 185, 186, 329, 77, 125, 187, 188, 330, 432, 431, 484, 331, 189, 190, 333, 332, 433, 191, 47, 192, 334, 193, 194, 335, 81, 127, 195, 196, 197, 337, 336, 434, 198, 123, 124, 199, 338, 205, 340, 200, 201, 202, 203, 339, 204, 206, 207, 209, 208, 341, 210, 211, 212, 342, 213, 214, 343, 435, 215, 344, 216, 217, 345, 218, 219, 220, 346, 221, 347, 348, 349, 222, 350, 223, 78, 80, 82, 83, 128, 129, 130, 224, 225, 226, 132, 228, 229, 227, 230, 231, 233, 232, 131, 234, 235, 236, 35, 85, 84, 133, 237, 134, 135, 136, 238, 351, 352, 137, 240, 353, 243, 239, 242, 354, 256, 361, 241, 244, 356, 357, 355, 246, 358, 436, 485, 486, 538, 487, 488, 489, 507, 245, 248, 247, 250, 251, 249, 253, 359, 86, 139, 257, 258, 360, 252, 255, 254, 138, 36, 37, 38, 39, 40, 87, 88, 140, 259, 362, 260, 141, 261, 262, 363, 437, 41, 15, 25, 26, 43, 44, 45, 46, 27, 48, 32, 49, 50, 150, 275, 277, 276, 365, 366, 157, 438, 439, 367, 440, 412, 472, 376, 283, 278, 368, 152, 289, 21, 291, 143, 90, 19, 18, 382, 324, 383, 384, 446, 385, 386, 389, 17, 31, 61, 62, 387, 447, 492, 508, 545, 540, 493, 541, 494, 495, 542, 496, 497, 543, 288, 381, 445, 290, 388, 448, 498, 544, 292, 293, 294, 295, 151, 279, 280, 281, 369, 282, 370, 284, 313, 418, 312, 416, 474, 417, 476, 521, 364, 475, 512, 518, 552, 513, 547, 514, 548, 549, 515, 550, 551, 563, 516, 517, 519, 520, 372, 371, 441, 374, 373, 442, 413, 378, 444, 491, 539, 287, 380, 379, 375, 443, 490, 285, 377, 286, 67, 68, 69, 70, 109, 110, 111, 158, 159, 309, 410, 411, 310, 311, 414, 473, 415, 305, 403, 162, 463, 404, 464, 465, 466, 406, 405, 22, 467, 468, 509, 510, 546, 51, 469, 99, 98, 470, 146, 511, 20, 16, 29, 52, 28, 30, 53, 54, 55, 56, 57, 91, 92, 93, 94, 58, 95, 96, 97, 100, 142, 144, 145, 263, 148, 266, 267, 268, 269, 270, 271, 149, 272, 273, 274, 59, 101, 60, 307, 306, 407, 308, 408, 471, 409, 112, 160, 161, 113, 163, 172, 314, 323, 315, 164, 165, 316, 317, 419, 420, 429, 71, 114, 166, 318, 319, 422, 421, 477, 478, 522, 553, 523, 524, 525, 554, 527, 526, 528, 529, 428, 555, 530, 531, 556, 557, 558, 559, 564, 568, 569, 570, 565, 571, 572, 167, 320, 423, 424, 479, 532, 533, 560, 566, 567, 573, 574, 575, 577, 579, 580, 581, 582, 583, 584, 585, 586, 587, 588, 589, 590, 591, 592, 593, 594, 595, 596, 597, 598, 599, 600, 576, 578, 483, 535, 536, 537, 425, 480, 426, 481, 534, 561, 562, 427, 482, 169, 322, 168, 321, 170, 171, 173, 174, 8, 10, 11, 9, 13, 12] := by kernel_rfl
theorem inPlaces : (Rows.topCollatzRow.inPlace == Tryz.pinned.checked.prog.inPlace 3) = true := by
  unfold Program.inPlace
  rw [clos]
  kernel_rfl
theorem unfolds : (Rows.topCollatzRow.unfollowed == Tryz.pinned.checked.prog.unfollowed 3) = true := by
  unfold Program.unfollowed
  rw [clos]
  kernel_rfl
theorem recurs : (Rows.topCollatzRow.recurses == Tryz.pinned.checked.prog.recurses 3) = true := by
  unfold Program.recurses
  rw [show Tryz.pinned.checked.prog.unfollowed 3 = true from (beq_iff_eq.1 unfolds).symm]
  rfl
theorem varsNamed : (Rows.topCollatzRow.named == Tryz.pinned.checked.prog.varsNamed 3) = true := by
  unfold Program.varsNamed
  rw [clos]
  kernel_rfl
theorem named : Tryz.pinned.checked.prog.funcNamed "diapause/diapausetop.TopCollatz" = some 3 := by kernel_rfl
theorem nowhere : false = Rows.topCollatzRow.goesBy Tryz.pinned.checked.prog := by
  unfold OpenClaim.goesBy Program.goesAt Program.goesFrom
  rw [show Rows.topCollatzRow.func = "diapause/diapausetop.TopCollatz" from rfl, named, show Rows.topCollatzRow.start = .entering from rfl]
  rw [Option.any_some, goes_none noneGoes 3]
  rfl
end Go.Proofs.YtdgigppkpkpaeaaGreatDoor.topCollatz
