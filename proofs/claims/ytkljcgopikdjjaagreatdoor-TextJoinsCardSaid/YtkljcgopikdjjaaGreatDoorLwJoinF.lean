/- TextJoins: the closed facts of its row and of its card, one by one. -/
import Derived.Test.YtkljcgopikdjjaaGreatDoorTxFacts
import Derived.Test.YtkljcgopikdjjaaGreatDoorTxFacts4
import Derived.Test.YtkljcgopikdjjaaGreatDoorTxClo3
import Derived.Test.YtkljcgopikdjjaaGreatDoorCards
import Derived.JoinedCond
import Derived.SevenTiedAt
import Derived.KernelRfl
namespace Go.Proofs.YtkljcgopikdjjaaGreatDoor.textJoins
open Go _root_.Go.Proofs.YtkljcgopikdjjaaGreatDoor.Tx
set_option linter.unusedVariables false
set_option maxRecDepth 100000
set_option maxHeartbeats 8000000
theorem and2 {a b : Bool} (h : a = true) (k : b = true) : (a && b) = true := by rw [h, k]; rfl
def comesTo : List Nat := [3, 8, 25, 9, 21, 51, 53, 52, 97, 98, 10, 12, 32, 64, 103, 143, 180, 239, 66, 110, 111, 153, 203, 204, 205, 206, 207, 208, 209, 210, 211, 212, 213, 214, 215, 216, 217, 218, 219, 220, 221, 222, 223, 224, 225, 112, 113, 40, 84, 154, 226, 42, 86, 129, 165, 231, 166, 167, 168, 232, 155, 227, 228, 271, 310, 104, 144, 181, 186, 240, 273, 242, 241, 243, 274, 311, 356, 172, 233, 272, 234, 357, 358, 437, 558, 439, 559, 365, 448, 563, 564, 626, 565, 452, 449, 566, 568, 567, 627, 450, 569, 570, 571, 451, 447, 438, 312, 361, 440, 560, 441, 362, 442, 443, 561, 625, 359, 252, 277, 320, 360, 244, 245, 275, 313, 363, 444, 364, 445, 446, 562, 314, 366, 367, 315, 368, 453, 369, 455, 456, 454, 316, 370, 457, 317, 371, 372, 458, 373, 459, 374, 460, 461, 572, 462, 573, 628, 629, 662, 679, 680, 583, 547, 616, 687, 588, 640, 639, 663, 681, 551, 618, 548, 617, 688, 432, 552, 553, 171, 550, 664, 630, 619, 661, 554, 620, 555, 621, 682, 665, 431, 549, 666, 586, 633, 638, 635, 585, 634, 667, 587, 636, 637, 668, 683, 689, 343, 417, 176, 693, 695, 696, 703, 697, 529, 530, 698, 704, 705, 706, 699, 700, 701, 702, 690, 691, 694, 669, 574, 575, 576, 463, 577, 464, 578, 579, 466, 465, 332, 391, 481, 482, 483, 584, 484, 485, 486, 487, 392, 393, 394, 379, 472, 467, 580, 631, 468, 318, 375, 469, 581, 319, 246, 247, 182, 248, 183, 249, 276, 184, 250, 270, 136, 173, 278, 194, 306, 354, 355, 307, 263, 308, 309, 251, 185, 147, 188, 253, 254, 279, 321, 280, 322, 281, 189, 255, 282, 323, 324, 377, 471, 378, 376, 470, 325, 327, 326, 380, 190, 256, 283, 328, 381, 473, 474, 475, 329, 382, 284, 191, 257, 49, 94, 285, 286, 330, 383, 287, 288, 148, 289, 331, 299, 344, 345, 384, 476, 582, 632, 670, 684, 685, 692, 385, 477, 386, 478, 388, 479, 389, 195, 260, 262, 298, 261, 296, 341, 297, 342, 408, 414, 533, 409, 528, 410, 411, 531, 532, 606, 412, 413, 415, 416, 196, 390, 480, 526, 525, 605, 654, 676, 677, 655, 62, 101, 678, 686, 28, 30, 31, 387, 258, 290, 291, 292, 333, 395, 489, 490, 537, 434, 608, 535, 435, 334, 657, 671, 589, 641, 672, 642, 491, 492, 557, 622, 426, 623, 624, 590, 643, 493, 494, 349, 425, 352, 436, 556, 427, 542, 611, 658, 612, 544, 659, 543, 591, 644, 428, 429, 545, 546, 613, 614, 615, 660, 645, 646, 592, 512, 597, 648, 673, 649, 674, 598, 541, 599, 516, 600, 650, 651, 675, 607, 656, 601, 652, 653, 488, 396, 495, 496, 497, 498, 499, 500, 501, 397, 502, 503, 593, 647, 504, 505, 594, 595, 350, 596, 522, 602, 603, 604, 398, 506, 507, 508, 509, 510, 399, 511, 400, 513, 514, 515, 517, 401, 518, 519, 520, 521, 293, 294, 335, 402, 523, 336, 337, 403, 404, 524, 527, 405, 192, 193, 259, 295, 339, 340, 407, 338, 406, 105, 145, 106, 146, 187, 107, 108, 109, 149, 150, 197, 264, 265, 300, 301, 346, 266, 267, 302, 269, 304, 305, 133, 348, 351, 430, 433, 353, 268, 303, 347, 418, 534, 536, 419, 538, 609, 420, 421, 539, 422, 423, 540, 610, 424, 198, 199, 134, 200, 96, 95, 135, 137, 201, 151, 152, 202, 65, 33, 34, 67, 114, 29, 63, 102, 139, 140, 175, 177, 141, 142, 178, 179, 237, 238, 115, 41, 85, 127, 138, 174, 235, 236, 128, 161, 229, 162, 163, 230, 164, 39, 68, 69, 70, 116, 117, 156, 118, 71, 72, 119, 120, 121, 73, 122, 123, 157, 160, 158, 159, 124, 125, 74, 75, 76, 77, 78, 79, 80, 13, 36, 37, 82, 126, 83, 35, 81, 26, 60, 61, 11, 20, 50, 27, 14, 38, 43]
theorem clo : Tryz.prog.closure 3 = comesTo := by rw [closure_quick]; kernel_rfl
theorem ip : (Rows.textJoinsRow.inPlace == Tryz.prog.inPlace 3) = true := by unfold Program.inPlace; rw [clo]; kernel_rfl
theorem un : Tryz.prog.unfollowed 3 = true := by unfold Program.unfollowed; rw [clo]; kernel_rfl
theorem unb : (Rows.textJoinsRow.unfollowed == Tryz.prog.unfollowed 3) = true := by rw [un]; kernel_rfl
theorem re : (Rows.textJoinsRow.recurses == Tryz.prog.recurses 3) = true := by unfold Program.recurses; rw [un]; kernel_rfl
theorem na : (Rows.textJoinsRow.named == Tryz.prog.varsNamed 3) = true := by unfold Program.varsNamed; rw [clo]; kernel_rfl
theorem facts : joinedFacts Tryz.prog 3 Tryz.f3 (OpenSpec.ofChange Rows.textJoinsSpec).bare Rows.textJoinsRow = true := by
  unfold joinedFacts
  refine and2 (and2 (and2 (and2 (and2 (and2 (and2 (and2 (and2 (and2 (and2 (and2 (and2 (and2 (and2 (and2 (and2 (and2 (and2 (and2 (and2 (and2 (and2 (and2 (and2 (and2 (and2 (and2 (and2 (and2 (and2 ?_ laidOut) mapsOk) ?_) ?_) ?_) stopsNo) ?_) knobsNo) ip) unb) re) na) ?_) ?_) ?_) ?_) ?_) ?_) ?_) ?_) ?_) ?keys) ?_) heardOk) enterOk) liftsOk) makeOk) ?_) ?_) ?_) ?_
  case keys => rw [keysNo]; as_aux_lemma => kernel_rfl
  all_goals as_aux_lemma => kernel_rfl
theorem wf : Rows.textJoinsRow.wfByText (OpenSpec.ofChange Rows.textJoinsSpec) = true := by kernel_rfl
theorem fn_is : Tryz.prog.funcNamed Rows.textJoinsRow.func = some 3 := by kernel_rfl
theorem goes : false = Rows.textJoinsRow.goesBy Tryz.pinned.checked.prog := by
  have h : Rows.textJoinsRow.goesBy Tryz.prog = false := by
    unfold OpenClaim.goesBy Program.goesAt Program.goesFrom
    rw [fn_is, Option.any_some, goes_no]
    kernel_rfl
  exact h.symm
set_option maxRecDepth 100000 in
theorem plain (f : FuncId) (fn : Func) (hf : Tryz.pinned.checked.prog.funcNamed "lunette/lunettelaw37.TextJoins" = some f) (hfn : Tryz.pinned.checked.prog.funcs[f]? = some fn) :
    true = Tryz.pinned.checked.prog.looks [] ∧ ∀ (j : Nat) t, fn.params[j]? = some t → Tryz.pinned.checked.prog.wantsStandIn t = false := by
  obtain rfl : f = 3 := Option.some.inj ((show Tryz.prog.funcNamed "lunette/lunettelaw37.TextJoins" = some 3 by kernel_rfl).symm.trans hf) |>.symm
  obtain rfl : fn = Tryz.f3 := (Option.some.inj (Tryz.func3.symm.trans hfn)).symm
  refine ⟨looksYes, fun j t ht => ?_⟩
  rw [Tryz.params3] at ht
  have hm : t ∈ [27, 28, 9] := by have := Array.mem_of_getElem? ht; simpa using this
  simp only [List.mem_cons, List.not_mem_nil, or_false] at hm
  rcases hm with rfl | rfl | rfl
  · exact (show Tryz.prog.wantsStandIn 27 = false by kernel_rfl)
  · exact (show Tryz.prog.wantsStandIn 28 = false by kernel_rfl)
  · exact (show Tryz.prog.wantsStandIn 9 = false by kernel_rfl)
end Go.Proofs.YtkljcgopikdjjaaGreatDoor.textJoins
