/- What a statement reaches, by a table of which function names which: the closure of a great program's calls, reckoned over numbers alone. No program is imported. Which function of this program names which, as a table; what a law reaches. -/
import GoSem.ClaimFn
import Derived.KernelRfl
import Derived.Test.YtlnonecibpjcoaaGreatDoorProg
set_option linter.unusedSimpArgs false
set_option linter.unusedVariables false
set_option linter.unusedSectionVars false
namespace Go.Proofs.FC
open Go

def closG (lead : Nat → List Nat) : Nat → List Nat → List Nat → List Nat
  | 0, _, seen => seen.reverse
  | _ + 1, [], seen => seen.reverse
  | n + 1, f :: todo, seen => if seen.contains f then closG lead n todo seen else closG lead n (lead f ++ todo) (f :: seen)
theorem closureVia_eq (P : Program) (lead : Nat → List Nat) (h : ∀ i : Nat, (P.funcs[i]?).elim [] P.leadsTo = lead i) : ∀ (n : Nat) (todo seen : List Nat), P.closureVia n todo seen = closG lead n todo seen
  | 0, todo, seen => by cases todo <;> rfl
  | n + 1, [], seen => by simp only [Program.closureVia, closG]
  | n + 1, f :: todo, seen => by
    simp only [Program.closureVia, closG]
    rw [closureVia_eq P lead h n, closureVia_eq P lead h n, h f]
def closF (lead : Nat → List Nat) : Nat → List Nat → Nat → List Nat → List Nat
  | 0, _, _, seen => seen.reverse
  | _ + 1, [], _, seen => seen.reverse
  | n + 1, f :: todo, m, seen => bif Nat.beq (Nat.land (Nat.shiftRight m f) 1) 1 then closF lead n todo m seen else closF lead n (lead f ++ todo) (Nat.lor m (Nat.shiftLeft 1 f)) (f :: seen)
theorem closF_eq (lead : Nat → List Nat) : ∀ (n : Nat) (todo : List Nat) (m : Nat) (seen : List Nat), (∀ i, m.testBit i = seen.contains i) → closF lead n todo m seen = closG lead n todo seen
  | 0, todo, m, seen, h => by cases todo <;> rfl
  | n + 1, [], m, seen, h => rfl
  | n + 1, f :: todo, m, seen, h => by
    have e : Nat.beq (Nat.land (Nat.shiftRight m f) 1) 1 = seen.contains f := by
      rw [← h f]
      have h1 : Nat.land (Nat.shiftRight m f) 1 = (m >>> f) % 2 := by
        show (m >>> f) &&& 1 = _
        rw [Nat.and_one_is_mod]
      rw [h1, Nat.testBit_eq_decide_div_mod_eq, Nat.shiftRight_eq_div_pow]
      by_cases hq : m / 2 ^ f % 2 = 1
      · rw [hq]; rfl
      · rw [decide_eq_false hq]
        have : m / 2 ^ f % 2 = 0 := by omega
        rw [this]; rfl
    simp only [closF, closG, e]
    cases hc : seen.contains f with
    | true => simp only [cond_true, if_true]; exact closF_eq lead n todo m seen h
    | false =>
      simp only [cond_false, Bool.false_eq_true, if_false]
      refine closF_eq lead n _ _ _ fun i => ?_
      show (m ||| (1 <<< f)).testBit i = _
      rw [Nat.testBit_or, h i, Nat.shiftLeft_eq, Nat.one_mul, Nat.testBit_two_pow]
      simp only [List.contains_cons]
      rw [Bool.or_comm]
      congr 1
      by_cases hf : f = i
      · subst hf; simp
      · rw [decide_eq_false hf]
        symm
        simp only [beq_eq_false_iff_ne, ne_eq]
        exact fun e => hf e.symm

def eqL : List Nat → List Nat → Bool
  | [], [] => true
  | a :: l, b :: m => Nat.beq a b && eqL l m
  | _, _ => false
theorem eqL_eq : ∀ {l m : List Nat}, eqL l m = true → l = m
  | [], [], _ => rfl
  | [], _ :: _, h => by simp [eqL] at h
  | _ :: _, [], h => by simp [eqL] at h
  | a :: l, b :: m, h => by
    simp only [eqL, Bool.and_eq_true] at h
    rw [Nat.eq_of_beq_eq_true h.1, eqL_eq h.2]
def leadsL (T : List (List Nat)) (i : Nat) : List Nat := (T[i]?).getD []
/-- functions from a place on name what a table says -/
def batch (P : Program) (T : List (List Nat)) (a n : Nat) : Bool := (List.range' a n).all fun i => eqL ((P.funcs[i]?).elim [] P.leadsTo) (leadsL T i)
theorem batch_at {P : Program} {T : List (List Nat)} {a n : Nat} (h : batch P T a n = true) {i : Nat} (h1 : a ≤ i) (h2 : i < a + n) : (P.funcs[i]?).elim [] P.leadsTo = leadsL T i :=
  eqL_eq (List.all_eq_true.1 h i (List.mem_range'_1.2 ⟨h1, h2⟩))
theorem lead_out {P : Program} {T : List (List Nat)} (hs : P.funcs.size = T.length) {i : Nat} (h : P.funcs.size ≤ i) : (P.funcs[i]?).elim [] P.leadsTo = leadsL T i := by
  have h2 : T[i]? = none := List.getElem?_eq_none (by omega)
  rw [Array.getElem?_eq_none h, leadsL, h2]
  rfl
theorem fuel_eq (P : Program) (T : List (List Nat)) (hs : P.funcs.size = T.length) (h : ∀ i : Nat, (P.funcs[i]?).elim [] P.leadsTo = leadsL T i) : (P.funcs.toList.map fun g => (P.leadsTo g).length + 1).sum = (T.map fun l => l.length + 1).sum := by
  congr 1
  apply List.ext_getElem?
  intro i
  simp only [List.getElem?_map, Array.getElem?_toList]
  have hi := h i
  unfold leadsL at hi
  rcases Nat.lt_or_ge i P.funcs.size with hl | hl
  · have e1 : P.funcs[i]? = some P.funcs[i] := Array.getElem?_eq_getElem hl
    have e2 : T[i]? = some (T[i]'(by omega)) := List.getElem?_eq_getElem (by omega)
    rw [e1] at hi ⊢
    rw [e2] at hi ⊢
    simp only [Option.elim_some, Option.getD_some] at hi
    simp only [Option.map_some, hi]
  · rw [Array.getElem?_eq_none hl, List.getElem?_eq_none (by omega)]
    rfl
theorem closure_is (P : Program) (T : List (List Nat)) (hs : P.funcs.size = T.length) (h : ∀ i : Nat, (P.funcs[i]?).elim [] P.leadsTo = leadsL T i) (f : Nat) : P.closure f = closF (leadsL T) (1 + (T.map fun l => l.length + 1).sum) [f] 0 [] := by
  unfold Program.closure
  rw [fuel_eq P T hs h, closureVia_eq P (leadsL T) h, closF_eq]
  intro i
  simp
end Go.Proofs.FC

namespace Go.Proofs.Tryz
open Go.Proofs.FC
def leadT : List (List Nat) := [[], [], [1], [7, 8, 9], [7, 10, 11, 12, 13], [7, 14, 14, 15, 15, 14, 12, 16, 17, 12, 13], [7, 14, 15, 16, 10, 12, 18, 18, 19, 20, 10, 16], [21, 21], [23, 22, 23, 24, 22, 23, 22, 24, 22], [25, 26, 25, 27, 27], [29, 28], [36, 37, 38, 39, 37, 40, 37, 40], [41, 42], [], [], [], [43, 22, 10, 12], [26, 26, 26, 26, 26, 40, 26, 26, 40, 26, 26, 44, 11, 13], [45], [46], [47], [48, 49, 10, 50, 51, 52, 22], [53], [54], [23, 23, 23], [], [25], [25, 25, 25, 25, 25, 25, 25, 25], [55], [31, 30, 32, 33, 30, 34, 35, 30, 30], [], [], [56], [57], [58, 59, 60, 61, 62, 63, 64, 65, 66, 67, 69, 70], [30], [], [38], [], [72], [], [], [], [23, 23, 73, 74, 23, 75], [], [76], [], [], [77], [80, 79], [83, 82], [92, 91], [103, 104, 106, 105, 51, 8], [107, 108, 108, 108, 109], [110], [], [111, 112, 45], [], [114, 81, 81, 113], [114, 113], [114, 116, 115, 30, 113], [114, 81, 113], [114, 81, 117, 68], [114, 81, 68], [114, 119, 118, 35, 57, 30, 81, 81, 81, 68], [81], [121, 120, 30], [68], [], [], [71], [114, 81, 81, 68], [], [23, 23, 23], [69, 23, 69, 23, 23], [122, 123], [124, 125, 124, 126, 125, 127], [78], [128], [129], [32, 35, 30, 81, 30], [35, 130, 54, 30], [131], [85, 84, 87, 86, 88, 84, 89, 84, 90, 84], [], [], [], [133, 134, 135], [136, 138, 137, 89], [139, 140], [144, 143, 89, 148, 147, 89], [149], [94, 93, 93, 93, 95, 93, 96, 97, 98, 93, 101, 100, 99, 102], [], [150], [], [152, 151, 156, 155, 154, 153, 157, 158, 159, 93], [160], [161, 163, 162, 164], [159, 166, 167], [93], [169, 168], [93], [174, 173], [176], [94, 177, 142], [97], [178, 179], [178], [], [180, 181, 182, 183], [184, 185], [184, 186, 45], [68], [35, 30], [], [81, 81], [35, 30, 187, 30], [], [69], [], [81], [188], [189, 19, 19, 19, 19, 19, 107, 108, 190, 190, 190, 109, 108, 109], [191], [], [], [192], [76], [], [193, 194], [132], [], [195, 196], [197], [134, 198, 134, 134, 134, 134, 134, 198], [200, 199, 147], [94, 201], [], [94, 177, 177], [141, 142], [], [], [94], [145, 146], [], [203, 202], [204, 139], [205, 199], [132], [], [93], [207, 206], [93], [210, 211, 209, 133, 212], [93], [214, 213], [217, 156, 155, 219, 218, 221, 220, 93], [222, 223, 225, 224], [226], [], [94], [], [227, 228], [165], [], [229, 230, 231, 217], [159, 232, 166, 233], [234], [170, 171, 172, 171], [235, 236], [], [237, 238, 171, 239], [240], [175], [241, 242, 243, 244, 245, 246], [247, 139], [160], [248], [249], [], [251, 250, 252], [], [253, 254], [], [255], [], [124], [180, 181, 182, 183], [256, 257], [], [], [], [258], [259, 260, 261, 262], [263, 264, 264, 264, 264, 265, 266], [267], [268, 269], [270, 271], [272, 273, 275, 274], [], [276, 277], [278], [], [141, 150], [279, 279], [94], [208], [280], [], [170, 212, 212], [282, 210, 283, 264, 212, 210, 210, 284, 285], [], [94, 201], [215, 216], [94, 150, 286], [287, 288, 289, 199, 290], [], [93], [291], [292, 293], [294, 295, 295], [296], [298, 297], [], [], [299, 300, 301, 302, 302, 303, 304], [305], [306, 199], [], [], [], [], [307, 308, 309, 310], [], [], [], [171], [311, 312, 313, 313, 314, 315, 316, 317], [237, 171, 237, 318, 171], [132], [319], [320, 306, 321, 93, 323, 322], [325, 324, 321], [326, 324, 321], [93, 328, 327, 330, 329, 332, 331, 334, 333, 335, 336], [328, 327, 339, 338, 337, 319], [], [], [], [], [], [], [], [340, 341], [], [], [], [342, 342, 342, 342, 342, 342, 343], [344], [344], [344, 346, 345], [344, 346, 345], [318], [], [347], [264, 264], [], [348], [], [348], [], [], [], [], [349], [], [], [], [], [281], [215, 216, 350, 146, 148], [351, 212, 353, 352], [354, 212], [210, 356, 355], [210, 360, 359], [361], [273, 363, 362], [], [349], [], [365, 364], [], [42], [366, 367], [369], [], [370, 371, 372, 373, 374, 375, 376, 377, 378, 297, 297], [379, 251], [263, 302, 380, 302, 302], [381, 382], [368, 295], [], [383], [303], [215, 216], [], [385, 386, 387], [386, 388], [390, 389], [392, 389], [197, 198], [394, 395, 171], [], [197, 197, 198, 198, 198], [394, 171, 394, 395, 396, 171, 395, 397, 171], [197], [394], [], [167, 324, 321, 398, 399], [197, 400], [401, 222, 402, 403, 404, 405, 221, 87, 86, 276, 93, 405, 406, 93, 88, 322, 89, 322, 90, 322], [93], [161, 306, 306, 89, 228, 147, 89], [], [407, 408], [407, 409], [], [159, 166, 386], [], [410], [], [412, 411], [], [416, 415], [420, 419], [], [], [421, 422, 422, 424, 425, 423], [], [], [], [], [342, 342, 342, 342, 342, 342], [], [], [426], [427], [428], [429], [430, 145], [212], [], [351, 263, 212], [431, 432], [], [210, 210, 210, 210, 358, 357], [], [210], [], [210, 283, 264, 212], [], [], [], [433], [434, 435, 436, 437, 368, 438, 381, 439], [440], [368], [369, 441], [442, 443, 443, 444, 443, 444, 443], [376], [445, 445], [446, 447], [448, 448, 448, 449], [], [376, 376, 376], [450, 450], [376, 376], [376, 376, 376, 376], [], [], [440], [], [384], [369, 452, 451], [263, 302, 380], [454, 453], [455, 456], [], [386], [391], [458, 457], [393], [461, 457], [170, 171, 171], [354, 171], [], [], [], [217], [466, 238], [467, 223], [468, 469], [470], [471], [276, 93], [], [159, 166], [457, 473], [457, 475], [478, 477], [226], [413, 414], [], [481, 482], [226], [417, 418], [], [485, 487, 488, 487, 489, 487, 490, 491], [226], [417, 418], [], [493, 494, 496, 497, 499], [], [498], [500], [110], [501], [], [502], [], [], [], [], [439, 439], [170, 439, 439], [435, 439, 439, 503, 439, 504, 439], [435, 505, 435, 505], [505, 439], [], [504, 506], [], [], [], [], [376, 376], [298], [], [449], [507, 507, 507], [], [508], [509], [], [], [], [510], [226, 230, 231], [459, 460], [302, 302, 304], [474], [302, 463, 462, 465, 464], [511], [301], [512], [], [514, 513, 263, 396, 396, 397], [515], [], [277, 516], [517, 518], [403, 472], [381, 519, 520, 521, 522], [474], [523], [476], [300, 524, 525, 527], [226], [479, 480], [528, 528, 529, 530, 531, 532, 533, 533, 533], [534], [440], [484, 483], [537], [538], [486], [410], [540], [410], [410], [410, 541, 541], [492], [410, 542, 541], [], [495], [], [], [498], [], [], [], [], [543, 543], [], [369], [354, 439], [544, 546, 547, 548, 548, 548, 549, 550], [376], [], [], [551, 551, 551], [], [], [41], [], [], [], [], [], [197], [519, 503], [519, 522, 519, 522], [198], [552, 553], [555, 554], [526], [230, 231], [556, 557, 557, 558, 559, 559], [560], [561, 562], [561, 563], [257], [565, 564], [566, 564], [535, 536], [568, 567], [], [], [539, 384], [570, 295, 571], [], [536, 572], [573, 574, 575, 536, 565], [], [545], [570, 576], [545], [545], [570, 295, 295, 576, 577, 578, 533], [368, 579, 580], [582, 583, 536, 533], [], [584], [585, 586], [511], [], [369, 369, 444, 441, 441, 588, 587, 589], [414], [590, 591, 592], [593], [595, 594], [596, 597, 598, 599, 600], [], [], [], [601, 601], [602, 602], [440], [569, 506], [369, 603, 441, 603], [295, 368, 295], [604, 605, 606], [], [601, 601], [607], [565], [604, 605, 605, 606, 609, 608], [610, 611], [612, 531, 536, 533, 531, 614, 613], [616], [581], [], [], [], [], [617, 618, 619, 620], [593], [621], [622], [452], [414], [623, 624, 625, 626], [630, 631], [472], [596, 632, 633, 599, 600], [], [600], [], [], [], [], [], [], [444], [634, 635, 636, 637], [], [638, 541, 635], [639], [], [], [369, 441], [], [604], [640, 640, 641], [536, 615], [642, 533], [], [643, 644, 645, 646, 624, 647, 625], [649, 648], [650, 651, 652, 650, 653, 629, 618, 628, 654], [655], [444], [], [656], [657, 658, 659], [660, 661], [627, 628, 629], [665], [667, 666], [666], [], [559, 559], [668, 669], [602], [], [], [], [670], [531, 536, 533, 542, 536, 533], [251], [671, 671], [615, 542, 672, 542, 673, 536], [573, 536, 573, 257, 257, 602, 575, 564], [], [675, 674], [656], [677, 678], [680, 679], [], [], [], [], [682, 683], [], [685, 684], [], [686, 687], [688, 688], [689], [662, 690], [692, 691], [662, 664, 663], [693, 637, 637], [636, 637, 542, 541, 635], [531, 531, 532, 671], [], [694, 695], [612], [], [], [], [], [], [672], [657], [676], [696], [657, 698], [], [657, 681], [681], [699], [621], [], [440], [368, 484, 581], [701, 700], [600, 702], [], [703], [636, 635, 637], [657, 681], [], [636, 636, 531, 531, 671], [440], [230, 231], [697], [705], [689], [706, 707, 707, 707], [657], [697], [600], [704], [708, 709, 709, 693, 693, 693], [710], [711], [693], [], [712], [561, 713], [], [636, 637], [], [], [], [], [], [], [], [], [], [], [], [], [], [], [], [], [], [], [], [], [], [], [], [], [], [], [], [], [], [], [], [345, 345]]
theorem lead_0 : batch prog leadT 0 150 = true := by kernel_rfl
theorem lead_1 : batch prog leadT 150 150 = true := by kernel_rfl
theorem lead_2 : batch prog leadT 300 150 = true := by kernel_rfl
theorem lead_3 : batch prog leadT 450 150 = true := by kernel_rfl
theorem lead_4 : batch prog leadT 600 145 = true := by kernel_rfl
theorem lead_size : prog.funcs.size = leadT.length := by kernel_rfl
theorem lead_at (i : Nat) : (prog.funcs[i]?).elim [] prog.leadsTo = leadsL leadT i := by
  have hs : prog.funcs.size = 745 := by kernel_rfl
  by_cases h : prog.funcs.size ≤ i
  · exact lead_out lead_size h
  · by_cases h0 : i < 150
    · exact batch_at lead_0 (by omega) (by omega)
    · by_cases h1 : i < 300
      · exact batch_at lead_1 (by omega) (by omega)
      · by_cases h2 : i < 450
        · exact batch_at lead_2 (by omega) (by omega)
        · by_cases h3 : i < 600
          · exact batch_at lead_3 (by omega) (by omega)
          · exact batch_at lead_4 (by omega) (by omega)
theorem lead_fuel : 1 + (leadT.map fun l => l.length + 1).sum = 2073 := by kernel_rfl
end Go.Proofs.Tryz
