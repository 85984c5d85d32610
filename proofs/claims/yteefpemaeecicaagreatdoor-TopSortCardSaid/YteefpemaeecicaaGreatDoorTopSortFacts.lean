/- What the row of TopSort asks of the functions that the law comes to, each a theorem of its own. No condition. -/
import Derived.Test.YteefpemaeecicaaGreatDoorTopFacts
namespace Go.Proofs.YteefpemaeecicaaGreatDoor.topSort
set_option maxRecDepth 100000
theorem clos : Tryz.pinned.checked.prog.closure 5 = [5, 8, 29, 50, 100, 149, 102, 153, 207, 347, 348, 349, 350, 351, 352, 353, 429, 430, 431, 482, 494, 523, 354, 432, 437, 483, 435, 484, 433, 434, 436, 438, 485, 517, 439, 486, 487, 488, 208, 209, 355, 440, 489, 518, 441, 492, 519, 493, 490, 520, 521, 522, 491, 154, 495, 524, 103, 155, 19, 101, 150, 151, 152, 12, 30, 51, 109, 110, 112, 111, 162, 113, 163, 228, 227, 374, 164, 59, 125, 165, 229, 116, 173, 166, 167, 231, 230, 375, 168, 232, 190, 315, 316, 233, 234, 235, 169, 236, 377, 376, 466, 237, 238, 378, 114, 172, 239, 240, 379, 468, 467, 508, 380, 241, 242, 382, 381, 469, 243, 64, 244, 383, 245, 246, 384, 118, 174, 247, 248, 249, 386, 385, 470, 250, 170, 171, 251, 387, 257, 90, 252, 253, 254, 255, 388, 256, 258, 259, 261, 260, 389, 262, 263, 264, 390, 265, 266, 391, 146, 267, 392, 268, 269, 393, 270, 271, 272, 394, 273, 395, 396, 397, 274, 398, 275, 115, 117, 119, 120, 175, 176, 177, 276, 277, 278, 179, 280, 281, 279, 282, 283, 285, 284, 178, 286, 287, 288, 52, 122, 121, 180, 289, 181, 182, 183, 138, 193, 194, 184, 291, 399, 294, 290, 293, 400, 307, 407, 292, 295, 402, 403, 401, 297, 404, 471, 509, 510, 548, 511, 512, 513, 195, 296, 299, 298, 301, 302, 300, 304, 405, 123, 185, 308, 309, 406, 303, 306, 305, 88, 53, 54, 55, 56, 57, 48, 124, 186, 310, 408, 311, 187, 312, 313, 409, 472, 58, 13, 31, 32, 60, 61, 62, 63, 33, 65, 66, 67, 68, 204, 330, 332, 331, 411, 412, 210, 473, 474, 413, 475, 449, 498, 422, 137, 333, 414, 206, 40, 37, 24, 25, 46, 21, 20, 89, 43, 44, 91, 145, 47, 92, 147, 28, 49, 98, 99, 93, 148, 198, 140, 196, 326, 199, 327, 200, 201, 328, 202, 203, 329, 342, 427, 480, 343, 428, 481, 516, 550, 344, 345, 346, 79, 205, 334, 335, 336, 415, 337, 416, 338, 364, 455, 363, 453, 500, 454, 502, 534, 410, 501, 525, 531, 556, 526, 551, 527, 552, 553, 528, 554, 555, 567, 529, 530, 532, 533, 418, 417, 476, 420, 419, 477, 450, 424, 479, 515, 549, 341, 426, 425, 421, 478, 514, 339, 423, 340, 104, 105, 106, 107, 156, 157, 158, 211, 212, 360, 447, 448, 361, 362, 451, 499, 452, 356, 442, 215, 496, 443, 80, 82, 139, 444, 39, 81, 83, 84, 141, 142, 197, 69, 85, 134, 133, 86, 143, 144, 87, 14, 35, 70, 34, 36, 71, 72, 73, 74, 75, 126, 127, 128, 129, 76, 130, 131, 132, 135, 188, 26, 189, 314, 191, 317, 318, 319, 320, 321, 322, 192, 323, 324, 325, 77, 136, 78, 358, 357, 94, 359, 445, 497, 446, 159, 213, 214, 160, 216, 224, 365, 373, 366, 217, 218, 367, 368, 456, 457, 465, 108, 161, 219, 369, 370, 459, 458, 503, 504, 535, 557, 536, 537, 538, 558, 540, 539, 541, 542, 464, 559, 543, 544, 560, 561, 562, 563, 568, 572, 573, 574, 569, 575, 576, 220, 371, 460, 461, 505, 545, 546, 564, 570, 571, 577, 578, 579, 581, 583, 584, 585, 586, 587, 588, 589, 590, 591, 592, 593, 594, 595, 596, 597, 598, 599, 600, 601, 602, 603, 604, 580, 582, 42, 95, 96, 97, 462, 506, 463, 507, 547, 565, 566, 16, 38, 17, 45, 221, 372, 222, 223, 225, 226, 18, 23, 22, 10] := by kernel_rfl
theorem inPlaces : (Rows.topSortRow.inPlace == Tryz.pinned.checked.prog.inPlace 5) = true := by
  unfold Program.inPlace
  rw [clos]
  kernel_rfl
theorem unfolds : (Rows.topSortRow.unfollowed == Tryz.pinned.checked.prog.unfollowed 5) = true := by
  unfold Program.unfollowed
  rw [clos]
  kernel_rfl
theorem recurs : (Rows.topSortRow.recurses == Tryz.pinned.checked.prog.recurses 5) = true := by
  unfold Program.recurses
  rw [show Tryz.pinned.checked.prog.unfollowed 5 = true from (beq_iff_eq.1 unfolds).symm]
  rfl
theorem varsNamed : (Rows.topSortRow.named == Tryz.pinned.checked.prog.varsNamed 5) = true := by
  unfold Program.varsNamed
  rw [clos]
  kernel_rfl
theorem named : Tryz.pinned.checked.prog.funcNamed "diapause/diapausetop.TopSort" = some 5 := by kernel_rfl
theorem nowhere : false = Rows.topSortRow.goesBy Tryz.pinned.checked.prog := by
  unfold OpenClaim.goesBy Program.goesAt Program.goesFrom
  rw [show Rows.topSortRow.func = "diapause/diapausetop.TopSort" from rfl, named, show Rows.topSortRow.start = .entering from rfl]
  rw [Option.any_some, goes_none noneGoes 5]
  rfl
end Go.Proofs.YteefpemaeecicaaGreatDoor.topSort
