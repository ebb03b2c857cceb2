/- Layer 37: which functions each function leads to, part by part; by this table the laws' closures, each fact on them within a process's memory. -/
import Derived.Test.YtkljcgopikdjjaaGreatDoorRows
import Derived.JoinedOf
import Derived.KernelRfl
import GoSem.ClaimGoes
namespace Go.Proofs.YtkljcgopikdjjaaGreatDoor.Tx
set_option linter.unusedVariables false
set_option linter.unusedSimpArgs false
set_option maxRecDepth 100000
set_option maxHeartbeats 4000000
open Go
def ld (P : Program) (f : Nat) : List Nat := (P.funcs[f]?).elim [] P.leadsTo
def leads0 : List (List Nat) := [[], [], [1], [8, 8, 9, 10, 11, 10, 12, 10, 11, 10, 10, 13, 10, 14, 10], [8, 10, 12, 15, 16, 10, 13, 17, 18, 10], [8, 9, 10, 11, 19, 20, 21, 10, 14, 22, 10], [10, 13, 23, 10, 12, 10], [10, 14, 24, 22, 10, 11, 10], [25], [21], [12, 13, 13, 26, 11, 14, 26, 14], [20, 27, 29, 28, 28, 12, 28, 30, 31], [32, 33, 34], [36, 35], [27, 38, 42, 43, 35, 20], [16, 44], [45, 46, 47], [], [], [21, 48, 16, 44], [49, 50], [51, 53, 52], [], [55, 54, 55, 56, 55, 56, 55, 57, 55, 57, 55, 57, 55, 56, 55, 57, 55, 57, 55, 57, 55, 56, 15], [58, 59, 48, 23, 21], [], [60, 61], [], [62], [63], [], [], [64, 65, 66], [], [67, 68, 67, 69, 70, 71, 72, 73, 74, 73, 75, 67, 76, 67, 77, 70, 78, 73, 79, 73, 80], [81], [37], [82, 33, 83, 34, 39, 42, 39, 32, 39], [40, 39, 41, 39, 37], [], [84], [85, 29, 39], [86], [], [87, 88, 88, 88, 89, 90, 90, 88, 88, 88, 90, 90], [], [], [91, 92, 92], [93, 93, 93, 93, 93, 93], [94], [95, 96], [], [97, 98], [], [89], [], [99, 99], [100], [], [57], [], [], [101], [102], [103, 104, 105, 106, 107, 108, 109], [], [110, 111, 112], [114, 115], [], [], [116, 118], [], [119, 121], [122, 124], [], [], [], [], [], [], [], [], [126], [], [], [127, 128], [129], [], [93], [], [130], [], [131], [132], []]
theorem lead_0 : (List.range' 0 95).map (ld Tryz.prog) = leads0 := by kernel_rfl
def leads1 : List (List Nat) := [[133, 134], [95, 135, 136, 137], [], [], [], [138, 128], [], [139, 140, 141, 142], [143], [144], [145], [146], [147], [148], [149, 150, 151, 152], [], [110, 153], [113], [40, 154, 155], [29], [41, 39], [117], [156], [41, 39], [120], [], [120, 39], [123], [157, 158, 159, 31], [125], [157, 39, 39, 160, 160, 157, 39, 39], [42], [138], [161, 162, 163, 164], [165, 166, 165, 167, 166, 168], [169, 170, 170], [], [102], [171], [], [], [172, 173], [], [174], [], [176, 175, 177], [], [178, 179], [180], [181, 182, 183, 184, 185, 183, 147], [186, 144], [187, 186, 144], [188, 189, 190, 191, 192, 193, 194], [], [195, 196], [197, 198, 199, 200, 96, 201], [], [202], [203, 204, 206, 208, 209, 210, 211, 212, 213, 215, 216, 217, 218, 219, 221, 223, 224, 225], [226], [227, 228], [139, 140, 141, 142], [160], [62], [62], [165], [229], [229], [229, 29, 230], [229, 29, 230], [231], [], [], [232], [], [], [], [233, 234], [], [235, 235, 235, 235, 235, 235, 236], [], [], [], [], [237, 238], [239, 66], [186, 240, 242, 241, 243, 244, 245, 246, 240, 247], [248], [249], [250, 251, 252], [], [239, 240], [186], [250, 253, 254], [255]]
theorem lead_1 : (List.range' 95 95).map (ld Tryz.prog) = leads1 := by kernel_rfl
def leads2 : List (List Nat) := [[256], [257], [191, 258], [259], [], [260], [263], [264, 265, 266, 267, 268], [269], [134, 172], [], [270], [], [], [205], [], [207], [], [], [205], [207], [], [], [214], [], [], [], [214], [], [220], [], [222], [], [], [205], [207], [42], [], [271], [], [], [], [], [272], [272], [], [235, 235, 235, 235, 235, 235], [], [], [], [273], [], [], [273, 66, 274], [], [273, 275], [244], [244], [], [276], [270], [136], [277], [278], [279, 280, 281], [282], [283, 284], [49, 285, 286, 287, 288, 148, 289, 258], [49, 290, 291, 292, 293, 294], [295], [262, 261], [296, 297], [298], [], [], [299, 300, 301, 300, 286, 285, 300], [287, 300, 289, 300], [302, 300, 258, 300], [303, 300, 300], [304, 305], [136, 278, 306, 307, 263, 308, 309], [310], [], [], [113, 311, 312], [313, 314, 315, 316, 317, 318, 319], [], [320], [194], [321], [322, 321], [322, 321], [323, 324, 325, 327, 326], [328], [329]]
theorem lead_2 : (List.range' 190 95).map (ld Tryz.prog) = leads2 := by kernel_rfl
def leads3 : List (List Nat) := [[], [49, 330], [49, 330], [263, 263], [285, 331], [], [49], [332, 333], [334], [334, 335, 336, 337], [194, 339, 338], [341], [343, 342], [], [344, 345], [], [222, 346], [269], [304, 347], [290, 291], [133, 348, 352, 353], [354, 355], [], [], [], [], [356, 357, 359, 252, 312, 312, 360, 312], [361, 362], [363, 364, 356, 365], [363, 366, 367, 274], [368, 369], [368, 370], [371, 311, 373, 367, 374], [375, 367], [375], [], [], [], [279], [377, 378, 376], [], [380], [322], [381, 329], [382], [383, 383, 383], [299, 384, 385, 386, 388, 389, 390, 389, 387], [391, 392, 393, 394], [395, 396, 397, 398, 399, 400, 401], [], [402, 261], [], [403, 404, 389, 405, 389, 388, 389, 390, 389, 387], [406], [340], [407], [], [408, 409, 410, 411, 412, 413, 414, 415, 416, 342, 342], [417, 176], [], [285], [49, 220], [49, 418, 419, 420, 421, 422, 423, 424], [349, 350, 351], [425, 426, 427], [428, 429], [352, 430, 430, 431, 432, 433], [434, 435, 436], [], [272], [], [172], [358, 312, 312], [437, 365, 438], [], [113, 439], [440, 441, 441], [442, 443], [444], [445, 446], [448, 449, 450, 451, 447], [445, 446], [274], [453], [455, 454], [457, 454], [372], [458], [459], [460, 461, 311, 462, 446, 463, 464, 465, 379, 466, 363, 467, 363, 468, 456], [368, 469], [470], [332, 471, 391], [379], [472]]
theorem lead_3 : (List.range' 285 95).map (ld Tryz.prog) = leads3 := by kernel_rfl
def leads4 : List (List Nat) := [[377, 377], [473, 474, 475, 475], [], [], [476, 222, 222], [477], [478, 299, 222, 299], [], [479], [344, 195, 196], [480, 479], [481, 482, 483, 484, 485, 486, 487], [], [155], [], [489, 491, 493, 488], [352, 495, 496, 498, 499, 500, 501, 488], [502, 504, 488], [506, 507, 510, 488], [511, 512], [511, 513, 514, 515, 517, 488], [352, 518, 519, 520, 521, 488], [523], [285, 385], [524, 526, 527], [480, 479], [], [], [414], [528, 528], [529, 530], [531, 531, 531, 532], [], [414, 414, 414], [533, 533], [414, 414], [414, 414, 414, 414], [], [534], [352, 537, 538, 349, 428, 350], [], [539], [539], [540], [541], [352], [], [425, 542, 543, 544, 435], [429], [545], [], [448, 449, 450, 547, 548, 549, 447, 550], [448, 551, 552, 449, 450, 548, 553, 447, 171, 550], [427, 554, 555], [287], [334, 285, 299], [556, 557], [558, 439], [449, 447], [559], [560, 560], [], [], [561], [], [], [562], [], [563], [566], [569], [452], [], [], [], [456], [562], [446], [], [], [], [572], [356, 358, 358, 360, 252, 573, 356, 574, 575, 438, 576, 574], [577], [578, 446, 579, 466], [572, 332], [562], [580], [580], [581, 454], [], [], [], [], []]
theorem lead_4 : (List.range' 380 95).map (ld Tryz.prog) = leads4 := by kernel_rfl
def leads5 : List (List Nat) := [[], [582], [], [], [344, 345], [526, 526, 582, 525], [432, 583], [431], [584, 585, 586], [584, 438, 365, 587], [555], [554, 555], [438, 588], [], [490], [537, 589], [492], [434, 557, 590], [494], [349, 591, 592], [], [497], [], [497], [497], [492], [494], [503], [593, 497], [505], [352, 497, 492, 349, 594, 595, 596, 488], [503], [508, 509, 488], [503], [505], [494], [352, 497], [425, 426, 597, 598, 599, 492], [], [512], [516], [425, 600, 492, 543, 601], [512], [], [497], [497], [522], [602, 603, 488], [], [525, 479], [605], [220], [], [414, 414], [343], [], [532], [606, 606, 606], [], [535, 536], [287, 435], [607], [434, 608], [352, 609], [], [610], [544, 608], [611, 612], [], [287], [546], [613, 222, 614, 615], [616], [617], [452], [571], [618], [452], [452], [449, 547, 619, 620, 447], [449, 547, 621, 447], [222], [622, 623, 624], [113], [365], [], [625, 625, 625], [], [564, 565, 452], [626], [155], [568, 567, 452], [627], [], [570, 567, 452]]
theorem lead_5 : (List.range' 475 95).map (ld Tryz.prog) = leads5 := by kernel_rfl
def leads6 : List (List Nat) := [[571], [], [], [628, 628, 66, 628, 629], [438], [574], [630], [], [], [], [631], [456], [632, 220], [449, 547, 447], [365], [633, 634], [633, 635], [448, 449, 450, 447, 365, 571, 636, 637, 638, 639, 638, 550], [449, 640, 447, 639], [535, 641, 642], [334, 435, 643, 642], [644, 428, 614, 645, 429, 615, 646, 615, 613], [512, 516], [349, 647, 592], [], [350, 497], [522], [611, 612, 648, 648, 649], [541, 589], [542, 544, 543, 590], [650, 651, 652, 542, 651, 653], [544, 642], [512], [604], [537, 589, 492], [654, 40, 40, 40, 40, 40, 655, 28, 30, 30, 30, 31, 28, 31], [414], [656], [535, 657], [597], [539], [658, 49], [544, 435, 659], [605], [155], [220, 660], [571, 452], [452], [452], [661], [452], [452], [426], [220], [], [], [], [], [], [662, 663, 664, 664, 664, 664, 664, 665, 666, 666, 666, 667, 668, 669], [449, 547, 619, 447], [456], [670], [365, 638, 639], [571, 452], [571, 452], [], [571, 571, 571, 571, 452], [571], [571, 571], [452], [671, 672], [334, 285, 385], [], [], [428, 429], [], [428, 645, 613, 646], [673], [544, 674, 642], [], [535, 675, 589, 543, 601], [611, 649], [611, 650, 612, 649], [676, 677], [62, 678], [], [671], [], [556], [], [452], [679, 628, 360, 628, 680], [679, 628, 437, 628, 681, 628, 680], [277, 628, 630, 554, 555, 682, 588]]
theorem lead_6 : (List.range' 570 95).map (ld Tryz.prog) = leads6 := by kernel_rfl
def leads7 : List (List Nat) := [[360, 628, 437, 628, 431, 628], [437, 628, 586, 585, 681], [437, 628, 437, 628, 587, 628], [360, 628, 683], [360, 628, 438], [684, 685], [], [], [], [623, 624], [607], [], [], [686], [277], [583, 628, 687, 588, 628], [448, 551, 449, 450, 548, 688, 447, 432], [277], [449, 450, 447, 689, 690], [], [692], [], [320], [452], [343, 693], [691], [694, 694], [], [695, 696, 697, 698, 699, 700, 701, 702, 693, 693], [], [], [703, 703], [529, 530], [704, 704, 704, 705], [], [], [], [], [], [705], [706, 706, 706], [], [], [], [], [], [], [], [], [], [], [], [], [], [], [], [], [], [], [], [], [], [], [], [], [], [], [], [], [737, 738, 736], [], [], [739, 739], [533, 533], [], [], [], [414], [], [], [], [], [], [], [], [], [], [], [], [], [230, 230]]
theorem lead_7 : (List.range' 665 91).map (ld Tryz.prog) = leads7 := by kernel_rfl
def leadsAll : List (List Nat) := leads0 ++ (leads1 ++ (leads2 ++ (leads3 ++ (leads4 ++ (leads5 ++ (leads6 ++ (leads7)))))))
theorem leads_are : (List.range' 0 756).map (ld Tryz.prog) = leadsAll := by
  have e : List.range' 0 756 = List.range' 0 95 ++ (List.range' 95 95 ++ (List.range' 190 95 ++ (List.range' 285 95 ++ (List.range' 380 95 ++ (List.range' 475 95 ++ (List.range' 570 95 ++ (List.range' 665 91))))))) := by kernel_rfl
  rw [e]
  simp only [List.map_append, lead_0, lead_1, lead_2, lead_3, lead_4, lead_5, lead_6, lead_7]
  rfl
theorem funcs_are : Tryz.prog.funcs.size = 756 := by kernel_rfl
/-- What a function leads to, out of the table. -/
def leadT (f : Nat) : List Nat := (leadsAll[f]?).getD []
theorem ld_eq (f : Nat) : ld Tryz.prog f = leadT f := by
  unfold leadT
  rw [← leads_are]
  by_cases h : f < 756
  · simp [List.getElem?_range', h]
  · have e : Tryz.prog.funcs[f]? = none := Array.getElem?_eq_none (by rw [funcs_are]; omega)
    simp [List.getElem?_range', h, ld, e]
theorem fuel_sum : 1 + (leadsAll.map fun x => x.length + 1).sum = 2129 := by kernel_rfl
theorem fuel_is : 1 + (Tryz.prog.funcs.toList.map fun g => (Tryz.prog.leadsTo g).length + 1).sum = 2129 := by
  have e : Tryz.prog.funcs.toList.map Tryz.prog.leadsTo = leadsAll := by
    rw [← leads_are]
    apply List.ext_getElem?
    intro i
    by_cases h : i < 756
    · have hs : i < Tryz.prog.funcs.size := by rw [funcs_are]; exact h
      simp [List.getElem?_range', h, ld, hs]
    · have e : Tryz.prog.funcs[i]? = none := Array.getElem?_eq_none (by rw [funcs_are]; omega)
      simp [List.getElem?_range', h, e]
  have e2 : (Tryz.prog.funcs.toList.map fun g => (Tryz.prog.leadsTo g).length + 1) = (Tryz.prog.funcs.toList.map Tryz.prog.leadsTo).map fun x => x.length + 1 := by simp
  rw [e2, e]
  exact fuel_sum
/-- All that is come to, by a table. -/
def comeTo (g : Nat → List Nat) : Nat → List Nat → List Nat → List Nat
  | 0, _, done => done.reverse
  | n + 1, todo, done => match todo with
    | [] => done.reverse
    | f :: r => if done.contains f then comeTo g n r done else comeTo g n (g f ++ r) (f :: done)
theorem via_comeTo (P : Program) (g : Nat → List Nat) (h : ∀ f, ld P f = g f) : ∀ (n : Nat) (todo done : List Nat), P.closureVia n todo done = comeTo g n todo done := by
  intro n
  induction n with
  | zero => intro todo done; simp [Program.closureVia, comeTo]
  | succ n ih =>
    intro todo done
    cases todo with
    | nil => simp [Program.closureVia, comeTo]
    | cons f r =>
      have hf := h f
      unfold ld at hf
      simp only [Program.closureVia, comeTo, hf, ih]
theorem closure_is (f : Nat) : Tryz.prog.closure f = comeTo leadT 2129 [f] [] := by
  unfold Program.closure
  rw [fuel_is]
  exact via_comeTo Tryz.prog leadT ld_eq _ _ _
def quick (g : Nat → List Nat) : Nat → List Nat → Nat → List Nat → List Nat
  | 0, _, _, done => done.reverse
  | n + 1, todo, m, done => match todo with
    | [] => done.reverse
    | f :: r => bif Nat.testBit m f then quick g n r m done else quick g n (g f ++ r) (m ||| 2 ^ f) (f :: done)
theorem quick_eq (g : Nat → List Nat) : ∀ (n : Nat) (todo : List Nat) (m : Nat) (done : List Nat), (∀ k, Nat.testBit m k = done.contains k) → quick g n todo m done = comeTo g n todo done := by
  intro n
  induction n with
  | zero => intro todo m done h; simp [quick, comeTo]
  | succ n ih =>
    intro todo m done h
    cases todo with
    | nil => simp [quick, comeTo]
    | cons f r =>
      have hf := h f
      simp only [quick, comeTo]
      cases hc : done.contains f with
      | true =>
        rw [hf, hc]
        simp only [cond_true, if_true]
        exact ih r m done h
      | false =>
        rw [hf, hc]
        simp only [cond_false, Bool.false_eq_true, if_false]
        refine ih (g f ++ r) (m ||| 2 ^ f) (f :: done) fun k => ?_
        rw [Nat.testBit_or, Nat.testBit_two_pow, h k]
        simp only [List.contains_cons]
        by_cases e : f = k
        · subst e; simp
        · have e2 : (k == f) = false := by simp; exact fun x => e x.symm
          rw [e2, decide_eq_false e]
          simp
/-- The table, looked up part by part. -/
def leadQ (f : Nat) : List Nat := ((match f / 95 with | 0 => leads0 | 1 => leads1 | 2 => leads2 | 3 => leads3 | 4 => leads4 | 5 => leads5 | 6 => leads6 | 7 => leads7 | _ => [])[f % 95]?).getD []
theorem leadQ_all : (List.range' 0 760).map leadQ = (List.range' 0 760).map leadT := by kernel_rfl
theorem leadQ_eq (f : Nat) : leadQ f = leadT f := by
  by_cases h : f < 760
  · have e := congrArg (fun l => l[f]?) leadQ_all
    simpa [List.getElem?_range', h] using e
  · have h1 : leadT f = [] := by
      unfold leadT
      rw [List.getElem?_eq_none]
      · rfl
      · rw [show leadsAll.length = 756 by kernel_rfl]; omega
    have h2 : leadQ f = [] := by
      unfold leadQ
      have h8 : 8 ≤ f / 95 := by omega
      obtain ⟨q, hq⟩ : ∃ q, f / 95 = q + 8 := ⟨f / 95 - 8, by omega⟩
      rw [hq]
      rfl
    rw [h1, h2]
theorem closure_quick (f : Nat) : Tryz.prog.closure f = quick leadQ 2129 [f] 0 [] := by
  rw [closure_is, show leadQ = leadT from funext leadQ_eq, quick_eq]
  intro k
  simp
/-- Whether a function starts a goroutine, by its number. -/
noncomputable def goN (i : Nat) : Bool := (Tryz.prog.funcs[i]?).any Func.goes
theorem goN_0 : (List.range' 0 95).any goN = false := by kernel_rfl
theorem goN_1 : (List.range' 95 95).any goN = false := by kernel_rfl
theorem goN_2 : (List.range' 190 95).any goN = false := by kernel_rfl
theorem goN_3 : (List.range' 285 95).any goN = false := by kernel_rfl
theorem goN_4 : (List.range' 380 95).any goN = false := by kernel_rfl
theorem goN_5 : (List.range' 475 95).any goN = false := by kernel_rfl
theorem goN_6 : (List.range' 570 95).any goN = false := by kernel_rfl
theorem goN_7 : (List.range' 665 91).any goN = false := by kernel_rfl
theorem goN_all : (List.range' 0 756).any goN = false := by
  have e : List.range' 0 756 = List.range' 0 95 ++ (List.range' 95 95 ++ (List.range' 190 95 ++ (List.range' 285 95 ++ (List.range' 380 95 ++ (List.range' 475 95 ++ (List.range' 570 95 ++ (List.range' 665 91))))))) := by kernel_rfl
  rw [e]
  simp only [List.any_append, goN_0, goN_1, goN_2, goN_3, goN_4, goN_5, goN_6, goN_7, Bool.or_false]
theorem goN_no (i : Nat) : (Tryz.prog.funcs[i]?).any Func.goes = false := by
  by_cases h : i < 756
  · have h2 := List.any_eq_false.1 goN_all i (by simp [List.mem_range'_1, h])
    exact Bool.eq_false_iff.2 h2
  · rw [Array.getElem?_eq_none (by rw [funcs_are]; omega)]
    rfl
theorem goes_no (f : Nat) : Tryz.prog.goes f = false := by
  unfold Program.goes
  have h1 : ((Tryz.prog.closure f).any fun g => (Tryz.prog.funcs[g]?).any Func.goes) = false := List.any_eq_false.2 fun g _ => by rw [goN_no g]; decide
  have h2 : Tryz.prog.funcs.any Func.goes = false := by
    rw [Array.any_eq_false]
    intro i hi
    have h := goN_no i
    rw [Array.getElem?_eq_getElem hi, Option.any_some] at h
    rw [h]; decide
  rw [h1, h2, Bool.and_false, Bool.or_false]
end Go.Proofs.YtkljcgopikdjjaaGreatDoor.Tx
