/-
Closed facts of the functions that the law comes to; no condition.
-/
import Derived.Test.YtfcklaeahpibhaaGreatDoorEv3
import Derived.Test.YtfcklaeahpibhaaGreatDoorRows
import Derived.JoinedOf
import GoSem.ClaimSeven
import Derived.KernelRfl
set_option linter.unusedSimpArgs false
set_option linter.unusedVariables false
set_option maxRecDepth 1000000
noncomputable section
namespace Go.Proofs.YtfcklaeahpibhaaGreatDoor
open Go Go.Ev
/-! ### Lists over all functions, in chunks -/
theorem map_part {α β : Type} (f : α → β) (l : List α) (a n : Nat) : (l.drop a).map f = ((l.drop a).take n).map f ++ (l.drop (a + n)).map f := by
  rw [← List.map_append, ← List.drop_drop, List.take_append_drop]
/-- What stands at each number. -/
noncomputable def trSome {α : Type} : List (Option α) → Nat → Tr α → Tr α
  | [], _, t => t
  | none :: l, k, t => trSome l (k + 1) t
  | some x :: l, k, t => trSome l (k + 1) (t.set k x)
theorem trSome_get {α : Type} : ∀ (l : List (Option α)) (k : Nat) (t : Tr α) (g : Nat), (∀ i, k ≤ i → t.get i = none) → (trSome l k t).get g = if k ≤ g then (l[g - k]?).bind id else t.get g
  | [], k, t, g, ht => by
    by_cases h : k ≤ g
    · rw [if_pos h]; simpa [trSome] using ht g h
    · rw [if_neg h]; rfl
  | none :: l, k, t, g, ht => by
    rw [trSome, trSome_get l (k + 1) t g (fun i hi => ht i (by omega))]
    by_cases h : k + 1 ≤ g
    · rw [if_pos h, if_pos (by omega), show g - k = (g - (k + 1)) + 1 by omega]; rfl
    · rw [if_neg h]
      by_cases h2 : k ≤ g
      · obtain rfl : g = k := by omega
        rw [if_pos h2, ht g h2, Nat.sub_self]; rfl
      · rw [if_neg h2]
  | some x :: l, k, t, g, ht => by
    rw [trSome, trSome_get l (k + 1) (t.set k x) g (fun i hi => by rw [Tr.get_set, if_neg (by omega)]; exact ht i (by omega))]
    by_cases h : k + 1 ≤ g
    · rw [if_pos h, if_pos (by omega), show g - k = (g - (k + 1)) + 1 by omega]; rfl
    · rw [if_neg h, Tr.get_set]
      by_cases h2 : k ≤ g
      · obtain rfl : g = k := by omega
        rw [if_pos rfl, if_pos h2, Nat.sub_self]; rfl
      · rw [if_neg h2, if_neg (by omega)]
theorem trSome_zero {α : Type} (l : List (Option α)) (g : Nat) : (trSome l 0 .lf).get g = (l[g]?).bind id := by
  rw [trSome_get l 0 .lf g (fun i _ => Tr.get_lf i), if_pos (Nat.zero_le _), Nat.sub_zero]
/-- The closure, what has been seen in a trie beside the list. -/
noncomputable def closW (T : Tr (List Nat)) : Nat → List Nat → List Nat → Tr Unit → List Nat
  | 0, _, seen, _ => seen.reverse
  | _ + 1, [], seen, _ => seen.reverse
  | n + 1, f :: todo, seen, s => bif (s.get f).isSome then closW T n todo seen s else closW T n (((T.get f).getD []) ++ todo) (f :: seen) (s.set f ())
theorem closW_eq {P : Program} {T : Tr (List Nat)} (hT : ∀ f : Nat, (P.funcs[f]?).elim [] P.leadsTo = (T.get f).getD []) :
    ∀ (n : Nat) (todo seen : List Nat) (s : Tr Unit), (∀ f, (s.get f).isSome = seen.contains f) → P.closureVia n todo seen = closW T n todo seen s
  | 0, _, _, _, _ => by rw [Program.closureVia, closW]
  | n + 1, [], seen, s, _ => by rw [Program.closureVia, closW]; exact fun h => by cases h
  | n + 1, f :: todo, seen, s, hs => by
    rw [Program.closureVia, closW, hs f]
    cases hc : seen.contains f
    · rw [cond_false]
      simp only [Bool.false_eq_true, if_false]
      rw [hT f]
      refine closW_eq hT n _ _ _ fun g => ?_
      rw [Tr.get_set]
      by_cases h : g = f
      · subst h; simp
      · rw [if_neg h, hs g]; simp [h]
    · rw [cond_true]
      simp only [if_true]
      exact closW_eq hT n _ _ _ hs
theorem funcs_size : Tryz.prog.funcs.toList.length = 891 := by kernel_rfl
theorem funcs_end : Tryz.prog.funcs.toList.drop (800 + 91) = [] := List.drop_eq_nil_of_le (by rw [funcs_size]; exact Nat.le_refl _)
noncomputable def lead_0 : List (List Nat) := [[], [], [1], [4, 5, 6, 7, 8, 4], [9, 10], [11], [10], [5], [6], [12, 13], [], [], [14, 15, 16, 18, 17], [19, 21, 20], [22, 24, 23], [26, 25], [], [], [29, 28], [30, 31], [32, 33, 34, 33], [35], [], [36], [37], [39, 40, 41], [27], [42, 43, 44, 45, 46, 47, 42], [], [48, 28], [18, 17, 16, 49, 50, 51], [52], [53, 53], [54], [55, 56, 57, 58], [59, 60, 61, 62, 63, 34], [], [38], [64, 65, 66, 67, 68, 69], [], [70, 71], [], [73, 72, 74], [76, 75], [43, 41], [76, 77, 41], [78, 78, 79, 80], [76, 41], [81, 83, 82, 29, 82], [84], [85, 86], [87, 88], [85, 90, 94, 93, 92, 95], [96, 97, 98], [99, 100, 101], [], [], [], [102, 103, 55, 104, 58], [], [], [], [], [59, 105], [106], [], [107], [108, 106], [106, 66, 67], [106, 106, 106, 109, 110, 106, 106, 110, 111, 112, 113], [114, 115], [117, 116], [70, 118], [76, 119, 76, 75], [76, 73, 120, 78, 76, 121, 47, 76, 119, 122, 47, 123, 78, 80, 124, 47], [125], [], [84], [76, 119], [45, 78, 45], [78, 41], [126], [], [83, 82], [127], [128], [49], [129], [89], [130, 50, 131, 132, 133, 134, 135, 134, 134, 70, 118, 134, 134, 134, 49, 134, 134, 136, 134, 49, 134, 136, 134, 49, 137], [91], [84], [], [138, 71], [139], [140, 141], [142], [97, 97], [143, 144, 144, 144], [145]]
theorem leadAt_0 : ((Tryz.prog.funcs.toList.drop 0).take 100).map (Tryz.prog.leadsTo) = lead_0 := by kernel_rfl
noncomputable def lead_100 : List (List Nat) := [[146], [147, 100, 141], [], [], [], [148, 149, 150, 151, 152, 153, 154, 155, 156, 157, 148, 158, 159, 156, 160], [], [], [161], [162, 163, 164, 163, 165, 166, 167], [], [108, 161], [66, 168], [169, 109], [], [170], [171, 172, 173, 174, 175, 176, 177, 178, 179, 116, 116], [180, 181], [182], [], [183, 184, 185, 186, 47, 187, 47, 188, 189, 47], [124, 78, 124], [45, 80, 78, 121, 80], [76, 119, 190, 45, 78, 124, 80, 78, 45], [192, 191], [194, 118, 195, 128], [], [197, 196, 198, 200, 199, 202, 201], [], [], [203, 204], [130, 130, 130], [206], [51], [207, 208], [], [209, 125], [210, 134, 211, 118], [212], [], [213, 214, 215], [216, 217], [218, 219], [219, 220, 220, 221, 221], [97, 222], [223, 224, 225, 226, 227], [228, 223, 229, 230, 225], [99], [231, 232, 233, 155, 148, 234, 148, 236, 235, 237, 238, 239, 155, 240, 155], [241, 148, 148, 242, 155, 243, 155, 233, 155, 244, 155, 245, 246, 155, 241], [239, 32, 247, 155, 248], [249, 148], [250, 63, 63], [250, 251], [239, 243, 155, 155, 252, 241, 251, 232, 243, 155, 252, 253, 155], [], [239], [155, 254, 35], [63, 34, 252, 241, 63], [239, 155], [255, 241, 155], [256], [257, 258], [257], [257], [], [259, 260, 162, 163, 261, 262, 164, 261, 165], [263], [127, 265, 265, 265, 264], [], [266, 267], [177], [268, 268], [269, 270], [271, 271, 271, 272], [], [177, 177, 177], [273, 273], [177, 177], [177, 177, 177, 177], [], [], [], [45, 78, 124, 78, 47], [274, 43, 274, 43, 47, 42, 44, 47], [43, 47, 44, 184, 43, 274, 44, 47, 45, 43, 121, 47], [45, 80, 124, 44, 124, 275, 43, 124, 47, 42, 44, 47], [76, 124], [44, 47, 42, 43, 43, 45, 47, 42, 44, 47], [45, 276, 277, 187, 124, 278, 279, 44, 44, 45, 278, 124, 44, 45, 278, 280, 281, 41], [80, 78, 124, 80, 45, 78], [282, 283, 282], [193, 191], [78, 78, 193, 284, 282, 284, 283], [], [66], [], [], [], [285]]
theorem leadAt_100 : ((Tryz.prog.funcs.toList.drop 100).take 100).map (Tryz.prog.leadsTo) = lead_100 := by kernel_rfl
noncomputable def lead_200 : List (List Nat) := [[285], [259, 286], [287, 286], [288], [205], [130, 289, 49, 49, 49, 290, 50, 49], [], [], [], [40], [], [136], [], [], [291, 292, 294], [96, 295], [], [], [], [], [], [296], [297, 66, 66, 66, 66, 66, 162, 163, 298, 298, 298, 165, 163, 165], [], [], [], [], [299, 224, 300, 301, 224, 302, 303, 302, 301, 229, 225, 226], [], [], [304, 224, 305, 305], [], [306, 307, 155], [308, 309], [254, 35, 310, 311, 312, 155, 239, 313, 235], [155], [243, 314, 231], [315, 239, 316, 253, 235], [239, 242, 155], [148], [245, 317, 155, 318, 319, 155, 320, 155, 148], [321], [243], [], [322, 101, 323, 94, 93, 92, 323, 295, 324, 325], [59, 148, 232], [317, 326, 84], [162, 163, 163, 163, 165], [], [], [148, 327, 155], [59, 63, 34], [231], [243, 243, 328, 231, 329, 329, 243, 243, 330, 243, 243, 330], [155, 331], [332, 308, 333, 252, 334, 335], [336], [337], [338], [339], [], [257, 340], [], [341], [221, 220, 221], [342], [], [], [177, 177], [117], [], [272], [343, 343, 343], [], [124, 47, 42], [344], [76, 45, 43, 45], [76, 75, 76, 124], [76, 75, 124, 124, 124], [45, 44, 124, 78, 278], [44, 124, 44, 45, 43, 124, 76, 75, 43], [76, 75, 44, 76, 45, 44, 187, 44, 187, 44, 45, 76, 75, 41, 41], [76, 345], [], [346, 191], [], [348], [349, 259], [], [350], [351, 118], [352], [293], [353, 354], [355], [293, 213, 96, 356, 357, 358, 359, 66], [], [360, 361], [], []]
theorem leadAt_200 : ((Tryz.prog.funcs.toList.drop 200).take 100).map (Tryz.prog.leadsTo) = lead_200 := by kernel_rfl
noncomputable def lead_300 : List (List Nat) := [[], [], [], [], [], [], [321], [362, 231], [322], [], [155, 239, 155, 155, 59, 60, 61, 363, 148], [312, 155, 148, 327, 155, 148, 148], [364, 365], [364, 366, 330, 329, 330, 329, 367, 367, 252, 368], [369, 370], [148, 327, 155, 329, 329, 330], [], [243], [], [], [317, 371], [], [372, 99, 373, 100, 100], [374, 352], [375], [376, 377], [166, 378], [243, 379], [380, 370], [243], [231, 231], [321, 381, 155, 155, 148], [382, 383, 384, 385, 386, 386, 387, 388, 388, 389, 390, 391, 392, 393, 394, 395, 396, 396, 397, 398, 399], [], [400], [334], [], [], [], [], [401], [402, 403], [196, 198, 199, 201], [177], [], [], [347, 191], [404, 282, 347, 283], [161, 405, 161, 406, 407], [], [408, 408], [345, 71, 92], [], [409, 410, 411, 412, 413, 414, 415, 416, 417, 418], [127], [], [], [197, 198, 200, 202], [419], [218, 97, 222, 222], [], [], [322, 420, 421], [], [], [422], [329, 243, 329, 423, 424, 367, 367, 425], [231], [243, 329, 427, 426, 231], [428, 429, 430], [34], [14, 431, 83, 17], [], [433, 432], [], [435, 434], [421, 440, 441], [325], [], [243], [442, 443, 430, 444, 445, 429, 429, 429, 429, 429, 429, 408, 429], [424, 323], [447, 446], [448], [449], [450], [451], [447, 452], [453], [454], [455], [456], [457], [447, 458], [459], [460], [461], [462], [463], [464]]
theorem leadAt_300 : ((Tryz.prog.funcs.toList.drop 300).take 100).map (Tryz.prog.leadsTo) = lead_300 := by kernel_rfl
noncomputable def lead_400 : List (List Nat) := [[465, 381, 466, 400], [], [], [], [78, 404, 467, 78, 124, 80], [], [], [], [468], [], [], [359], [265, 127], [469], [168], [222], [357], [222, 411], [265], [470, 471], [83, 17, 205], [472, 474, 473], [475, 476, 477, 478, 479, 480, 481, 482, 483, 484, 485, 486, 487, 488, 489, 490, 491, 492, 493, 494, 495, 496, 497, 498, 499, 500, 501, 502, 503, 504, 505, 506, 507, 508, 509, 510, 511, 512, 513, 514, 515, 516, 517, 518, 519, 520], [329, 243, 381, 307], [308, 54], [424, 521, 330, 330, 330, 252], [422, 522, 523, 370], [424, 521], [], [], [], [524, 25], [], [], [147, 100, 141, 525], [437, 436, 438, 439], [526], [], [140], [217], [527, 101, 528, 529, 530, 531, 532], [147, 100], [], [533, 430], [534, 535, 536], [357, 357, 66], [308, 537], [], [538, 54, 538, 539], [540, 541, 542, 362, 231, 379, 542, 537, 543, 537], [544, 537], [545, 546, 537], [547, 537], [548, 537], [549, 537, 550, 537, 243, 542, 537], [243, 543, 537], [243, 551, 537], [552, 553, 537], [554, 537, 552, 555, 537], [556, 537], [557, 537], [558, 559, 537], [560, 252, 537], [561, 252], [552, 552, 562, 452], [59, 317, 318, 319, 320, 400], [243, 420], [76, 563, 344, 41, 168, 564, 565], [566], [219, 98], [], [], [373, 421, 567, 472], [568, 370], [101, 569], [572, 571, 570], [572, 573, 570], [572, 574, 570], [572, 575, 570], [572, 575, 570], [572, 575, 570], [572, 577, 572, 576], [572, 572, 577, 572, 576], [572, 577, 572, 577, 578, 570], [572, 572, 579, 428], [572, 577, 580, 570], [572, 577, 580, 570], [572, 577, 580, 570], [572, 577, 581], [577, 581], [572, 577, 577, 572, 582, 570], [572, 572, 572, 583, 570], [572, 572, 584, 429], [572, 585, 570], [577, 577, 359, 570], [572, 265, 428], [577, 577, 430, 577, 576], [572, 428, 572, 428], [428], [429]]
theorem leadAt_400 : ((Tryz.prog.funcs.toList.drop 400).take 100).map (Tryz.prog.leadsTo) = lead_400 := by kernel_rfl
noncomputable def lead_500 : List (List Nat) := [[572, 428], [127, 429], [429], [], [586], [586], [577, 577, 428], [577, 428], [443], [380, 429, 380, 429], [380, 429, 429], [577, 577, 577, 264, 430, 587], [577, 577, 588, 430, 587], [577, 143, 428], [577, 143, 428], [577, 143, 428], [577, 589, 428], [577, 469, 570], [572, 168, 587], [53, 570], [576], [322, 441], [], [590, 591, 592, 430], [124, 47], [593, 594], [], [595, 597, 596], [598, 599, 600], [], [598, 599, 601], [66], [602, 604, 605, 603], [534, 609, 610, 609, 611, 609, 612, 609, 613, 607, 608], [96, 96], [614], [615, 615], [], [616], [99, 100, 84, 373, 441], [99, 100, 617, 618], [619, 540, 543, 521, 620], [621], [621], [322, 101, 569, 622, 377], [322, 623, 624], [322, 625, 624], [322, 527], [99, 100], [621], [621], [322, 96, 440, 377, 377, 377], [626, 537], [322, 627], [322], [322, 373, 627, 629, 628, 630, 325], [631, 632, 633, 542, 634, 635], [637, 636], [639], [639], [636, 640], [631, 632, 641, 643, 642, 635], [322, 645], [646, 647], [76, 119, 122, 648, 78, 78, 124, 80, 648], [76, 119, 190, 78, 649, 78, 649, 78, 78, 124, 80, 78, 45, 78, 650, 41], [256, 407, 256, 406, 407, 651], [], [182, 430, 568, 369, 652, 568, 568, 380, 653, 430], [214, 356], [430, 576], [654, 655], [], [654, 656], [657, 654], [659, 357, 342, 127], [], [], [659, 660], [468], [659, 222, 222], [430, 222, 576], [659, 660, 661], [659, 662, 661], [663, 664, 664], [470, 658, 655, 665], [444, 430], [], [143, 221, 264], [219], [666], [], [], [667, 668, 669, 670, 672, 671, 673], [674, 675, 670, 676, 677, 676], [147, 100, 678], [], [], [96], [679, 680]]
theorem leadAt_500 : ((Tryz.prog.funcs.toList.drop 500).take 100).map (Tryz.prog.leadsTo) = lead_500 := by kernel_rfl
noncomputable def lead_600 : List (List Nat) := [[681, 681, 681, 601], [682, 662], [], [683], [441, 684], [606, 421], [147, 100, 217], [685, 686, 687, 687, 688, 689], [685, 686, 687, 686, 686, 357, 688, 689], [690], [686, 691, 691, 689, 686], [689, 686], [689, 686], [689, 691, 686, 610], [692], [], [322, 694, 693, 696, 695], [147, 100, 141, 697, 674], [], [322, 532], [], [322, 441, 698], [699, 434], [700, 434], [441, 325], [703, 434], [420, 705, 704], [371], [706], [], [707, 628], [521, 540, 708], [81, 641], [709, 540, 542, 710, 710], [542, 711, 542], [712], [631, 632, 641, 713, 714, 642, 635], [638, 244], [362], [715, 636], [], [420], [633, 542, 634], [362, 644], [], [147, 100, 717], [718], [719, 720, 721, 722], [76, 118, 41, 45], [], [78, 78, 79, 80, 124, 121, 80], [723], [429, 724, 724, 429], [422, 430, 522, 430, 725, 568, 523], [470], [726], [727], [658, 656, 655], [726, 727], [], [], [], [728], [470], [658, 655, 729], [], [], [731, 730], [731, 732, 528], [117, 733], [], [], [], [], [99, 100, 734], [735], [99, 100, 736], [99, 100, 737, 738, 739], [], [], [], [], [663, 740], [], [147, 100, 741, 675], [], [218, 689], [689], [689], [], [689], [], [], [432], [], [706], [], [], [742, 743, 744, 745], [438, 439]]
theorem leadAt_600 : ((Tryz.prog.funcs.toList.drop 600).take 100).map (Tryz.prog.leadsTo) = lead_600 := by kernel_rfl
noncomputable def lead_700 : List (List Nat) := [[701, 702], [746], [], [], [], [747, 705, 748, 749, 749, 749, 749, 749, 705, 748, 247, 705, 705], [], [630], [308, 54], [362, 619, 750, 750], [362], [543], [540, 99, 100], [323], [], [716], [322, 751, 325], [752, 741, 593, 753, 697], [754], [755], [755], [755, 757, 756], [755, 757, 756], [], [568, 430], [724, 429, 568, 568], [758, 758, 758, 758], [758, 758, 758], [759, 162, 468, 163, 163, 163, 259, 163, 163, 163, 165], [758, 758, 758, 758, 758], [732, 760], [], [761, 473], [762, 763, 764, 765, 766, 767, 768, 769, 733, 733], [734], [770, 771, 771], [737, 738, 772, 773], [], [774, 738], [774, 775, 776, 739, 777], [664], [779, 778], [532, 377, 377], [532, 377, 377], [532, 780, 781, 782, 781, 782, 377, 377, 377, 377, 377], [377], [], [757, 469, 408], [705, 247], [705, 705], [619, 521, 620, 540, 543, 521, 620], [783, 434], [214, 371, 371], [784], [785, 785, 785, 785, 785, 785, 786], [], [], [787], [], [788, 789, 468], [], [420, 790], [], [791, 791], [269, 270], [792, 792, 792, 793], [], [], [], [], [99, 100, 794], [796, 795], [774, 797, 772, 773], [798, 799, 799, 797, 800, 798], [801, 802], [], [776, 777], [803, 804, 805, 805], [], [], [806], [], [535, 536, 807], [], [737, 802, 808, 736], [], [785, 785, 785, 785, 785, 785], [809], [], [], [84, 96], [], [793], [810, 810, 810], [794, 794], [], [], [811, 812], [], []]
theorem leadAt_700 : ((Tryz.prog.funcs.toList.drop 700).take 100).map (Tryz.prog.leadsTo) = lead_700 := by kernel_rfl
noncomputable def lead_800 : List (List Nat) := [[813, 814], [], [535, 536, 807], [797, 800], [775, 815], [775, 815], [147, 100, 741, 668], [], [], [816, 817, 818, 819], [], [], [820], [], [821], [], [], [181, 822, 823], [], [824, 825], [826, 826, 826], [827, 827, 827], [], [], [], [828, 829], [], [], [], [], [], [], [], [], [], [], [], [], [], [], [], [], [], [], [], [], [], [148, 34], [], [], [322, 627, 421], [], [], [], [], [], [], [], [], [], [], [], [], [], [], [], [], [], [], [], [], [], [], [], [], [], [], [], [], [], [], [], [], [], [], [], [], [], [], [], [102, 756, 756]]
theorem leadAt_800 : ((Tryz.prog.funcs.toList.drop 800).take 91).map (Tryz.prog.leadsTo) = lead_800 := by kernel_rfl
noncomputable def lead : List (List Nat) := lead_0 ++ (lead_100 ++ (lead_200 ++ (lead_300 ++ (lead_400 ++ (lead_500 ++ (lead_600 ++ (lead_700 ++ (lead_800 ++ []))))))))
theorem lead_eq : Tryz.prog.funcs.toList.map (Tryz.prog.leadsTo) = lead := by
  have h0 : Tryz.prog.funcs.toList.map (Tryz.prog.leadsTo) = (Tryz.prog.funcs.toList.drop 0).map (Tryz.prog.leadsTo) := rfl
  rw [h0]
  rw [map_part _ _ 0 100, leadAt_0]
  rw [map_part _ _ 100 100, leadAt_100]
  rw [map_part _ _ 200 100, leadAt_200]
  rw [map_part _ _ 300 100, leadAt_300]
  rw [map_part _ _ 400 100, leadAt_400]
  rw [map_part _ _ 500 100, leadAt_500]
  rw [map_part _ _ 600 100, leadAt_600]
  rw [map_part _ _ 700 100, leadAt_700]
  rw [map_part _ _ 800 91, leadAt_800]
  rw [List.drop_eq_nil_of_le (show Tryz.prog.funcs.toList.length ≤ 800 + 91 by rw [funcs_size]; exact Nat.le_refl _)]
  rfl
noncomputable def place_0 : List (Option String) := [some Tryz.f0.name, some Tryz.f1.name, none, none, none, none, none, none, none, none, none, none, none, none, none, none, none, none, none, none, none, none, none, none, none, none, none, none, none, none, none, none, none, none, none, none, none, none, none, none, none, none, none, none, none, none, none, none, none, none, none, none, none, none, none, some Tryz.f55.name, some Tryz.f56.name, some Tryz.f57.name, none, none, none, none, none, none, none, none, none, none, none, none, none, none, none, none, none, none, none, none, none, none, none, none, none, none, none, none, none, none, none, none, none, none, none, none, none, none, none, none, none, none]
theorem placeAt_0 : ((Tryz.prog.funcs.toList.drop 0).take 100).map (fun fn => if fn.ours || fn.body.isNone || fn.name == "runtime.NumGoroutine" then some fn.name else none) = place_0 := by kernel_rfl
noncomputable def place_100 : List (Option String) := [none, none, some Tryz.f102.name, some Tryz.f103.name, some Tryz.f104.name, none, none, none, none, none, none, none, none, none, none, none, none, none, none, none, none, none, none, none, none, none, none, none, none, none, none, none, none, none, none, none, none, none, none, none, none, none, none, none, none, some Tryz.f145.name, some Tryz.f146.name, none, none, none, none, none, none, none, none, none, none, none, none, none, none, none, none, none, none, none, none, none, none, none, none, none, none, none, none, none, none, none, none, none, none, none, none, none, none, none, none, none, none, none, none, none, none, none, none, none, none, none, none, none]
theorem placeAt_100 : ((Tryz.prog.funcs.toList.drop 100).take 100).map (fun fn => if fn.ours || fn.body.isNone || fn.name == "runtime.NumGoroutine" then some fn.name else none) = place_100 := by kernel_rfl
noncomputable def place_200 : List (Option String) := [none, none, none, none, none, none, none, none, none, none, none, none, none, none, none, none, none, none, none, none, none, none, none, some Tryz.f223.name, some Tryz.f224.name, some Tryz.f225.name, some Tryz.f226.name, some Tryz.f227.name, some Tryz.f228.name, some Tryz.f229.name, some Tryz.f230.name, none, none, none, none, none, none, none, none, none, none, none, none, none, none, none, none, none, none, none, none, none, none, none, none, none, none, none, none, none, none, none, none, none, none, none, none, none, none, none, none, none, none, none, none, none, none, none, none, none, none, none, none, none, none, none, none, none, none, none, none, none, none, none, none, none, none, none, none, some Tryz.f299.name]
theorem placeAt_200 : ((Tryz.prog.funcs.toList.drop 200).take 100).map (fun fn => if fn.ours || fn.body.isNone || fn.name == "runtime.NumGoroutine" then some fn.name else none) = place_200 := by kernel_rfl
noncomputable def place_300 : List (Option String) := [some Tryz.f300.name, some Tryz.f301.name, some Tryz.f302.name, some Tryz.f303.name, some Tryz.f304.name, some Tryz.f305.name, none, none, none, none, none, none, none, none, none, none, none, none, none, none, none, none, none, none, none, none, none, none, none, none, none, none, none, none, none, none, some Tryz.f336.name, some Tryz.f337.name, some Tryz.f338.name, none, none, none, none, none, none, none, none, none, none, none, none, none, none, none, none, none, none, none, none, none, none, none, none, none, none, none, none, none, none, none, none, none, none, none, none, none, none, none, none, none, none, none, none, none, none, none, none, none, none, none, none, none, none, none, none, none, none, none, none, none]
theorem placeAt_300 : ((Tryz.prog.funcs.toList.drop 300).take 100).map (fun fn => if fn.ours || fn.body.isNone || fn.name == "runtime.NumGoroutine" then some fn.name else none) = place_300 := by kernel_rfl
noncomputable def place_400 : List (Option String) := [none, none, none, none, none, none, none, some Tryz.f407.name, none, none, none, none, none, none, none, none, none, none, none, none, none, none, none, none, none, none, none, none, none, none, none, none, none, none, none, none, none, none, none, none, none, none, none, none, none, none, none, none, none, none, none, none, none, none, none, none, none, none, none, none, none, none, none, none, none, none, none, none, none, none, none, none, none, none, none, none, none, none, none, none, none, none, none, none, none, none, none, none, none, none, none, none, none, none, none, none, none, none, none, none]
theorem placeAt_400 : ((Tryz.prog.funcs.toList.drop 400).take 100).map (fun fn => if fn.ours || fn.body.isNone || fn.name == "runtime.NumGoroutine" then some fn.name else none) = place_400 := by kernel_rfl
noncomputable def place_500 : List (Option String) := [none, none, none, none, none, none, none, none, none, none, none, none, none, none, none, none, none, none, none, none, none, none, none, none, none, none, none, none, none, none, none, none, none, none, none, none, none, none, none, none, none, none, none, none, none, none, none, none, none, none, none, none, none, none, none, none, none, none, none, none, none, none, none, none, none, none, none, none, none, none, none, none, none, none, none, none, none, none, none, none, none, none, none, none, none, none, none, none, none, none, none, none, none, none, none, none, none, none, none, none]
theorem placeAt_500 : ((Tryz.prog.funcs.toList.drop 500).take 100).map (fun fn => if fn.ours || fn.body.isNone || fn.name == "runtime.NumGoroutine" then some fn.name else none) = place_500 := by kernel_rfl
noncomputable def place_600 : List (Option String) := [none, none, none, none, none, none, none, none, none, none, none, none, none, none, none, none, none, none, none, none, none, none, none, none, none, none, none, none, none, none, none, none, none, none, none, none, none, none, none, none, none, none, none, none, none, none, none, none, none, none, none, none, none, none, none, none, none, none, none, none, none, none, none, none, none, none, none, none, none, none, none, none, none, none, none, none, none, none, none, none, none, none, none, none, none, none, none, none, none, none, none, none, some Tryz.f692.name, none, none, none, none, none, none, none]
theorem placeAt_600 : ((Tryz.prog.funcs.toList.drop 600).take 100).map (fun fn => if fn.ours || fn.body.isNone || fn.name == "runtime.NumGoroutine" then some fn.name else none) = place_600 := by kernel_rfl
noncomputable def place_700 : List (Option String) := [none, none, none, none, none, none, none, none, none, none, none, none, none, none, none, none, none, none, none, none, none, none, none, none, none, none, none, none, none, none, none, none, none, none, none, none, none, none, none, none, none, none, none, none, none, none, none, none, none, none, none, none, none, none, none, none, none, none, none, none, none, none, none, none, none, none, none, none, none, none, none, none, none, none, none, none, none, none, none, none, none, none, none, none, none, none, none, none, none, some Tryz.f789.name, none, none, none, none, none, none, none, none, none, none]
theorem placeAt_700 : ((Tryz.prog.funcs.toList.drop 700).take 100).map (fun fn => if fn.ours || fn.body.isNone || fn.name == "runtime.NumGoroutine" then some fn.name else none) = place_700 := by kernel_rfl
noncomputable def place_800 : List (Option String) := [none, none, none, none, none, none, none, none, none, none, none, some Tryz.f811.name, none, some Tryz.f813.name, none, none, none, none, none, none, none, none, none, none, none, none, none, none, none, none, some Tryz.f830.name, some Tryz.f831.name, some Tryz.f832.name, some Tryz.f833.name, some Tryz.f834.name, some Tryz.f835.name, some Tryz.f836.name, some Tryz.f837.name, some Tryz.f838.name, some Tryz.f839.name, some Tryz.f840.name, some Tryz.f841.name, some Tryz.f842.name, some Tryz.f843.name, some Tryz.f844.name, some Tryz.f845.name, some Tryz.f846.name, none, some Tryz.f848.name, some Tryz.f849.name, none, some Tryz.f851.name, some Tryz.f852.name, some Tryz.f853.name, some Tryz.f854.name, some Tryz.f855.name, some Tryz.f856.name, some Tryz.f857.name, some Tryz.f858.name, some Tryz.f859.name, some Tryz.f860.name, some Tryz.f861.name, some Tryz.f862.name, some Tryz.f863.name, some Tryz.f864.name, some Tryz.f865.name, some Tryz.f866.name, some Tryz.f867.name, some Tryz.f868.name, some Tryz.f869.name, some Tryz.f870.name, none, some Tryz.f872.name, some Tryz.f873.name, some Tryz.f874.name, some Tryz.f875.name, some Tryz.f876.name, some Tryz.f877.name, some Tryz.f878.name, some Tryz.f879.name, some Tryz.f880.name, some Tryz.f881.name, some Tryz.f882.name, some Tryz.f883.name, some Tryz.f884.name, some Tryz.f885.name, some Tryz.f886.name, some Tryz.f887.name, some Tryz.f888.name, some Tryz.f889.name, none]
theorem placeAt_800 : ((Tryz.prog.funcs.toList.drop 800).take 91).map (fun fn => if fn.ours || fn.body.isNone || fn.name == "runtime.NumGoroutine" then some fn.name else none) = place_800 := by kernel_rfl
noncomputable def place : List (Option String) := place_0 ++ (place_100 ++ (place_200 ++ (place_300 ++ (place_400 ++ (place_500 ++ (place_600 ++ (place_700 ++ (place_800 ++ []))))))))
theorem place_eq : Tryz.prog.funcs.toList.map (fun fn => if fn.ours || fn.body.isNone || fn.name == "runtime.NumGoroutine" then some fn.name else none) = place := by
  have h0 : Tryz.prog.funcs.toList.map (fun fn => if fn.ours || fn.body.isNone || fn.name == "runtime.NumGoroutine" then some fn.name else none) = (Tryz.prog.funcs.toList.drop 0).map (fun fn => if fn.ours || fn.body.isNone || fn.name == "runtime.NumGoroutine" then some fn.name else none) := rfl
  rw [h0]
  rw [map_part _ _ 0 100, placeAt_0]
  rw [map_part _ _ 100 100, placeAt_100]
  rw [map_part _ _ 200 100, placeAt_200]
  rw [map_part _ _ 300 100, placeAt_300]
  rw [map_part _ _ 400 100, placeAt_400]
  rw [map_part _ _ 500 100, placeAt_500]
  rw [map_part _ _ 600 100, placeAt_600]
  rw [map_part _ _ 700 100, placeAt_700]
  rw [map_part _ _ 800 91, placeAt_800]
  rw [List.drop_eq_nil_of_le (show Tryz.prog.funcs.toList.length ≤ 800 + 91 by rw [funcs_size]; exact Nat.le_refl _)]
  rfl
noncomputable def named_0 : List (List Nat) := [[], [], [], [], [], [], [], [], [], [], [], [], [], [], [], [], [], [], [], [], [], [], [], [], [], [], [], [], [], [], [], [], [], [], [0], [], [], [], [], [], [], [], [], [], [], [], [], [], [], [], [], [], [], [], [], [], [], [], [], [], [], [], [], [], [], [], [], [], [], [], [1, 1, 1, 1], [], [], [], [], [], [], [], [], [], [], [], [], [], [], [], [], [], [], [], [], [], [], [], [], [], [], [], [], []]
theorem namedAt_0 : ((Tryz.prog.funcs.toList.drop 0).take 100).map (fun fn => fn.body.elim [] Code.globalsNamed) = named_0 := by kernel_rfl
noncomputable def named_100 : List (List Nat) := [[], [], [], [], [], [], [], [], [], [], [], [], [], [], [], [2], [], [], [], [], [], [], [], [], [], [], [], [], [], [], [], [], [], [], [], [], [], [], [], [], [], [], [], [], [], [], [], [], [], [], [], [], [], [], [], [], [], [], [], [], [], [], [], [], [], [], [], [], [], [], [], [], [], [], [], [], [], [], [], [], [], [], [], [], [], [], [], [], [], [], [], [], [], [], [], [], [], [], [], []]
theorem namedAt_100 : ((Tryz.prog.funcs.toList.drop 100).take 100).map (fun fn => fn.body.elim [] Code.globalsNamed) = named_100 := by kernel_rfl
noncomputable def named_200 : List (List Nat) := [[], [], [], [], [], [], [], [], [], [], [], [], [], [], [], [], [], [], [], [], [], [], [], [], [], [], [], [], [], [], [], [], [], [], [], [], [], [], [], [], [], [], [], [], [], [], [], [], [], [], [], [], [], [], [], [], [], [], [], [], [], [], [], [3], [], [], [], [], [], [], [], [], [], [], [], [], [], [], [], [], [], [], [], [], [], [], [], [], [], [], [], [], [], [], [], [], [], [], [], []]
theorem namedAt_200 : ((Tryz.prog.funcs.toList.drop 200).take 100).map (fun fn => fn.body.elim [] Code.globalsNamed) = named_200 := by kernel_rfl
noncomputable def named_300 : List (List Nat) := [[], [], [], [], [], [], [], [], [], [], [], [], [], [], [], [], [], [], [], [], [], [], [], [], [], [], [], [], [], [], [], [], [], [], [], [], [], [], [], [5, 6], [], [], [], [], [], [], [], [], [], [], [], [], [], [], [], [], [], [], [], [], [], [], [], [], [], [], [], [], [], [], [], [], [], [], [], [], [], [], [], [], [], [], [], [], [], [], [], [], [], [], [], [], [], [], [], [], [], [], [], []]
theorem namedAt_300 : ((Tryz.prog.funcs.toList.drop 300).take 100).map (fun fn => fn.body.elim [] Code.globalsNamed) = named_300 := by kernel_rfl
noncomputable def named_400 : List (List Nat) := [[], [], [], [], [], [], [], [], [], [], [], [], [], [], [], [], [], [], [], [], [], [], [], [], [], [], [], [], [], [], [], [], [], [], [], [], [], [], [], [], [], [], [], [], [], [], [], [], [], [], [], [], [], [], [], [], [], [], [], [], [], [], [], [], [], [], [], [], [], [], [], [], [], [], [], [], [], [], [], [], [], [], [], [], [], [], [], [], [], [], [], [], [], [], [], [], [], [], [], []]
theorem namedAt_400 : ((Tryz.prog.funcs.toList.drop 400).take 100).map (fun fn => fn.body.elim [] Code.globalsNamed) = named_400 := by kernel_rfl
noncomputable def named_500 : List (List Nat) := [[], [], [], [], [], [], [], [], [], [], [], [], [], [], [], [], [], [], [], [], [], [], [], [], [], [], [], [], [], [], [], [], [], [], [], [], [], [], [], [], [], [], [], [], [], [], [], [], [], [], [], [], [], [], [], [], [], [], [], [], [], [], [], [], [], [], [4, 4, 4], [], [], [], [], [], [], [], [], [], [], [], [], [], [], [], [], [], [], [], [], [], [], [], [], [], [], [], [], [], [], [], [], []]
theorem namedAt_500 : ((Tryz.prog.funcs.toList.drop 500).take 100).map (fun fn => fn.body.elim [] Code.globalsNamed) = named_500 := by kernel_rfl
noncomputable def named_600 : List (List Nat) := [[], [], [], [], [], [], [], [], [], [], [], [], [], [], [], [], [], [], [], [], [], [], [], [], [], [], [], [], [], [], [], [], [], [], [], [], [], [], [], [], [], [], [], [], [], [], [], [], [], [], [], [], [], [], [], [], [], [], [], [], [], [], [], [], [], [], [], [], [], [], [], [], [], [], [], [], [], [], [], [], [], [], [], [], [], [], [], [], [], [], [], [], [], [], [], [], [], [], [], []]
theorem namedAt_600 : ((Tryz.prog.funcs.toList.drop 600).take 100).map (fun fn => fn.body.elim [] Code.globalsNamed) = named_600 := by kernel_rfl
noncomputable def named_700 : List (List Nat) := [[], [], [], [], [], [], [], [], [], [], [], [], [], [], [], [], [], [], [], [7], [8], [], [], [], [], [], [], [], [], [], [], [], [], [], [], [], [], [], [], [], [], [], [], [], [], [], [], [], [], [], [], [], [], [], [], [], [], [], [], [], [], [], [], [], [], [], [], [], [], [], [], [], [], [], [], [], [], [], [], [], [], [], [], [], [], [], [], [], [], [], [], [], [], [], [], [], [], [], [], []]
theorem namedAt_700 : ((Tryz.prog.funcs.toList.drop 700).take 100).map (fun fn => fn.body.elim [] Code.globalsNamed) = named_700 := by kernel_rfl
noncomputable def named_800 : List (List Nat) := [[], [], [], [], [], [], [], [], [], [], [], [], [], [], [], [], [], [9], [], [], [], [], [], [], [], [], [], [], [10], [11], [], [], [], [], [], [], [], [], [], [], [], [], [], [], [], [], [], [], [], [], [], [], [], [], [], [], [], [], [], [], [], [], [], [], [], [], [], [], [], [], [], [], [], [], [], [], [], [], [], [], [], [], [], [], [], [], [], [], [], [], [10, 11, 9, 6, 0, 8, 7, 12, 12, 2, 1]]
theorem namedAt_800 : ((Tryz.prog.funcs.toList.drop 800).take 91).map (fun fn => fn.body.elim [] Code.globalsNamed) = named_800 := by kernel_rfl
noncomputable def named : List (List Nat) := named_0 ++ (named_100 ++ (named_200 ++ (named_300 ++ (named_400 ++ (named_500 ++ (named_600 ++ (named_700 ++ (named_800 ++ []))))))))
theorem named_eq : Tryz.prog.funcs.toList.map (fun fn => fn.body.elim [] Code.globalsNamed) = named := by
  have h0 : Tryz.prog.funcs.toList.map (fun fn => fn.body.elim [] Code.globalsNamed) = (Tryz.prog.funcs.toList.drop 0).map (fun fn => fn.body.elim [] Code.globalsNamed) := rfl
  rw [h0]
  rw [map_part _ _ 0 100, namedAt_0]
  rw [map_part _ _ 100 100, namedAt_100]
  rw [map_part _ _ 200 100, namedAt_200]
  rw [map_part _ _ 300 100, namedAt_300]
  rw [map_part _ _ 400 100, namedAt_400]
  rw [map_part _ _ 500 100, namedAt_500]
  rw [map_part _ _ 600 100, namedAt_600]
  rw [map_part _ _ 700 100, namedAt_700]
  rw [map_part _ _ 800 91, namedAt_800]
  rw [List.drop_eq_nil_of_le (show Tryz.prog.funcs.toList.length ≤ 800 + 91 by rw [funcs_size]; exact Nat.le_refl _)]
  rfl
noncomputable def reads_0 : List (Option String) := [none, none, none, none, none, none, none, none, none, none, none, none, none, none, none, none, none, none, none, none, none, none, none, none, none, none, none, none, none, none, none, none, none, none, none, none, none, none, none, none, none, none, none, none, none, none, none, none, none, none, none, none, none, none, none, none, none, none, none, none, none, none, none, none, none, none, none, none, none, none, none, none, none, none, none, none, none, none, none, none, none, none, none, none, none, none, none, none, none, none, none, none, none, none, none, none, none, none, none, none]
theorem readsAt_0 : ((Tryz.prog.funcs.toList.drop 0).take 100).map (fun fn => if fn.body.isNone then entryReads.lookup fn.name else none) = reads_0 := by kernel_rfl
noncomputable def reads_100 : List (Option String) := [none, none, none, none, none, none, none, none, none, none, none, none, none, none, none, none, none, none, none, none, none, none, none, none, none, none, none, none, none, none, none, none, none, none, none, none, none, none, none, none, none, none, none, none, none, none, none, none, none, none, none, none, none, none, none, none, none, none, none, none, none, none, none, none, none, none, none, none, none, none, none, none, none, none, none, none, none, none, none, none, none, none, none, none, none, none, none, none, none, none, none, none, none, none, none, none, none, none, none, none]
theorem readsAt_100 : ((Tryz.prog.funcs.toList.drop 100).take 100).map (fun fn => if fn.body.isNone then entryReads.lookup fn.name else none) = reads_100 := by kernel_rfl
noncomputable def reads_200 : List (Option String) := [none, none, none, none, none, none, none, none, none, none, none, none, none, none, none, none, none, none, none, none, none, none, none, none, none, none, none, none, none, none, none, none, none, none, none, none, none, none, none, none, none, none, none, none, none, none, none, none, none, none, none, none, none, none, none, none, none, none, none, none, none, none, none, none, none, none, none, none, none, none, none, none, none, none, none, none, none, none, none, none, none, none, none, none, none, none, none, none, none, none, none, none, none, none, none, none, none, none, none, none]
theorem readsAt_200 : ((Tryz.prog.funcs.toList.drop 200).take 100).map (fun fn => if fn.body.isNone then entryReads.lookup fn.name else none) = reads_200 := by kernel_rfl
noncomputable def reads_300 : List (Option String) := [none, none, none, none, none, none, none, none, none, none, none, none, none, none, none, none, none, none, none, none, none, none, none, none, none, none, none, none, none, none, none, none, none, none, none, none, none, none, none, none, none, none, none, none, none, none, none, none, none, none, none, none, none, none, none, none, none, none, none, none, none, none, none, none, none, none, none, none, none, none, none, none, none, none, none, none, none, none, none, none, none, none, none, none, none, none, none, none, none, none, none, none, none, none, none, none, none, none, none, none]
theorem readsAt_300 : ((Tryz.prog.funcs.toList.drop 300).take 100).map (fun fn => if fn.body.isNone then entryReads.lookup fn.name else none) = reads_300 := by kernel_rfl
noncomputable def reads_400 : List (Option String) := [none, none, none, none, none, none, none, entryReads.lookup Tryz.f407.name, none, none, none, none, none, none, none, none, none, none, none, none, none, none, none, none, none, none, none, none, none, none, none, none, none, none, none, none, none, none, none, none, none, none, none, none, none, none, none, none, none, none, none, none, none, none, none, none, none, none, none, none, none, none, none, none, none, none, none, none, none, none, none, none, none, none, none, none, none, none, none, none, none, none, none, none, none, none, none, none, none, none, none, none, none, none, none, none, none, none, none, none]
theorem readsAt_400 : ((Tryz.prog.funcs.toList.drop 400).take 100).map (fun fn => if fn.body.isNone then entryReads.lookup fn.name else none) = reads_400 := by kernel_rfl
noncomputable def reads_500 : List (Option String) := [none, none, none, none, none, none, none, none, none, none, none, none, none, none, none, none, none, none, none, none, none, none, none, none, none, none, none, none, none, none, none, none, none, none, none, none, none, none, none, none, none, none, none, none, none, none, none, none, none, none, none, none, none, none, none, none, none, none, none, none, none, none, none, none, none, none, none, none, none, none, none, none, none, none, none, none, none, none, none, none, none, none, none, none, none, none, none, none, none, none, none, none, none, none, none, none, none, none, none, none]
theorem readsAt_500 : ((Tryz.prog.funcs.toList.drop 500).take 100).map (fun fn => if fn.body.isNone then entryReads.lookup fn.name else none) = reads_500 := by kernel_rfl
noncomputable def reads_600 : List (Option String) := [none, none, none, none, none, none, none, none, none, none, none, none, none, none, none, none, none, none, none, none, none, none, none, none, none, none, none, none, none, none, none, none, none, none, none, none, none, none, none, none, none, none, none, none, none, none, none, none, none, none, none, none, none, none, none, none, none, none, none, none, none, none, none, none, none, none, none, none, none, none, none, none, none, none, none, none, none, none, none, none, none, none, none, none, none, none, none, none, none, none, none, none, none, none, none, none, none, none, none, none]
theorem readsAt_600 : ((Tryz.prog.funcs.toList.drop 600).take 100).map (fun fn => if fn.body.isNone then entryReads.lookup fn.name else none) = reads_600 := by kernel_rfl
noncomputable def reads_700 : List (Option String) := [none, none, none, none, none, none, none, none, none, none, none, none, none, none, none, none, none, none, none, none, none, none, none, none, none, none, none, none, none, none, none, none, none, none, none, none, none, none, none, none, none, none, none, none, none, none, none, none, none, none, none, none, none, none, none, none, none, none, none, none, none, none, none, none, none, none, none, none, none, none, none, none, none, none, none, none, none, none, none, none, none, none, none, none, none, none, none, none, none, none, none, none, none, none, none, none, none, none, none, none]
theorem readsAt_700 : ((Tryz.prog.funcs.toList.drop 700).take 100).map (fun fn => if fn.body.isNone then entryReads.lookup fn.name else none) = reads_700 := by kernel_rfl
noncomputable def reads_800 : List (Option String) := [none, none, none, none, none, none, none, none, none, none, none, none, none, none, none, none, none, none, none, none, none, none, none, none, none, none, none, none, none, none, none, none, none, none, none, none, none, none, none, none, none, none, none, none, none, none, none, none, none, none, none, none, none, none, none, none, none, none, none, none, none, none, none, none, none, none, none, none, none, none, none, none, none, none, none, none, none, none, none, none, none, none, none, none, none, none, none, none, none, none, none]
theorem readsAt_800 : ((Tryz.prog.funcs.toList.drop 800).take 91).map (fun fn => if fn.body.isNone then entryReads.lookup fn.name else none) = reads_800 := by kernel_rfl
noncomputable def reads : List (Option String) := reads_0 ++ (reads_100 ++ (reads_200 ++ (reads_300 ++ (reads_400 ++ (reads_500 ++ (reads_600 ++ (reads_700 ++ (reads_800 ++ []))))))))
theorem reads_eq : Tryz.prog.funcs.toList.map (fun fn => if fn.body.isNone then entryReads.lookup fn.name else none) = reads := by
  have h0 : Tryz.prog.funcs.toList.map (fun fn => if fn.body.isNone then entryReads.lookup fn.name else none) = (Tryz.prog.funcs.toList.drop 0).map (fun fn => if fn.body.isNone then entryReads.lookup fn.name else none) := rfl
  rw [h0]
  rw [map_part _ _ 0 100, readsAt_0]
  rw [map_part _ _ 100 100, readsAt_100]
  rw [map_part _ _ 200 100, readsAt_200]
  rw [map_part _ _ 300 100, readsAt_300]
  rw [map_part _ _ 400 100, readsAt_400]
  rw [map_part _ _ 500 100, readsAt_500]
  rw [map_part _ _ 600 100, readsAt_600]
  rw [map_part _ _ 700 100, readsAt_700]
  rw [map_part _ _ 800 91, readsAt_800]
  rw [List.drop_eq_nil_of_le (show Tryz.prog.funcs.toList.length ≤ 800 + 91 by rw [funcs_size]; exact Nat.le_refl _)]
  rfl
noncomputable def isLaw_0 : List (Bool) := [false, false, false, true, false, false, false, false, false, false, false, false, false, false, false, false, false, false, false, false, false, false, false, false, false, false, false, false, false, false, false, false, false, false, false, false, false, false, false, false, false, false, false, false, false, false, false, false, false, false, false, false, false, false, false, false, false, false, false, false, false, false, false, false, false, false, false, false, false, false, false, false, false, false, false, false, false, false, false, false, false, false, false, false, false, false, false, false, false, false, false, false, false, false, false, false, false, false, false, false]
theorem isLawAt_0 : ((Tryz.prog.funcs.toList.drop 0).take 100).map (fun fn => fn.name == Rows.runSamesRow.func) = isLaw_0 := by kernel_rfl
noncomputable def isLaw_100 : List (Bool) := [false, false, false, false, false, false, false, false, false, false, false, false, false, false, false, false, false, false, false, false, false, false, false, false, false, false, false, false, false, false, false, false, false, false, false, false, false, false, false, false, false, false, false, false, false, false, false, false, false, false, false, false, false, false, false, false, false, false, false, false, false, false, false, false, false, false, false, false, false, false, false, false, false, false, false, false, false, false, false, false, false, false, false, false, false, false, false, false, false, false, false, false, false, false, false, false, false, false, false, false]
theorem isLawAt_100 : ((Tryz.prog.funcs.toList.drop 100).take 100).map (fun fn => fn.name == Rows.runSamesRow.func) = isLaw_100 := by kernel_rfl
noncomputable def isLaw_200 : List (Bool) := [false, false, false, false, false, false, false, false, false, false, false, false, false, false, false, false, false, false, false, false, false, false, false, false, false, false, false, false, false, false, false, false, false, false, false, false, false, false, false, false, false, false, false, false, false, false, false, false, false, false, false, false, false, false, false, false, false, false, false, false, false, false, false, false, false, false, false, false, false, false, false, false, false, false, false, false, false, false, false, false, false, false, false, false, false, false, false, false, false, false, false, false, false, false, false, false, false, false, false, false]
theorem isLawAt_200 : ((Tryz.prog.funcs.toList.drop 200).take 100).map (fun fn => fn.name == Rows.runSamesRow.func) = isLaw_200 := by kernel_rfl
noncomputable def isLaw_300 : List (Bool) := [false, false, false, false, false, false, false, false, false, false, false, false, false, false, false, false, false, false, false, false, false, false, false, false, false, false, false, false, false, false, false, false, false, false, false, false, false, false, false, false, false, false, false, false, false, false, false, false, false, false, false, false, false, false, false, false, false, false, false, false, false, false, false, false, false, false, false, false, false, false, false, false, false, false, false, false, false, false, false, false, false, false, false, false, false, false, false, false, false, false, false, false, false, false, false, false, false, false, false, false]
theorem isLawAt_300 : ((Tryz.prog.funcs.toList.drop 300).take 100).map (fun fn => fn.name == Rows.runSamesRow.func) = isLaw_300 := by kernel_rfl
noncomputable def isLaw_400 : List (Bool) := [false, false, false, false, false, false, false, false, false, false, false, false, false, false, false, false, false, false, false, false, false, false, false, false, false, false, false, false, false, false, false, false, false, false, false, false, false, false, false, false, false, false, false, false, false, false, false, false, false, false, false, false, false, false, false, false, false, false, false, false, false, false, false, false, false, false, false, false, false, false, false, false, false, false, false, false, false, false, false, false, false, false, false, false, false, false, false, false, false, false, false, false, false, false, false, false, false, false, false, false]
theorem isLawAt_400 : ((Tryz.prog.funcs.toList.drop 400).take 100).map (fun fn => fn.name == Rows.runSamesRow.func) = isLaw_400 := by kernel_rfl
noncomputable def isLaw_500 : List (Bool) := [false, false, false, false, false, false, false, false, false, false, false, false, false, false, false, false, false, false, false, false, false, false, false, false, false, false, false, false, false, false, false, false, false, false, false, false, false, false, false, false, false, false, false, false, false, false, false, false, false, false, false, false, false, false, false, false, false, false, false, false, false, false, false, false, false, false, false, false, false, false, false, false, false, false, false, false, false, false, false, false, false, false, false, false, false, false, false, false, false, false, false, false, false, false, false, false, false, false, false, false]
theorem isLawAt_500 : ((Tryz.prog.funcs.toList.drop 500).take 100).map (fun fn => fn.name == Rows.runSamesRow.func) = isLaw_500 := by kernel_rfl
noncomputable def isLaw_600 : List (Bool) := [false, false, false, false, false, false, false, false, false, false, false, false, false, false, false, false, false, false, false, false, false, false, false, false, false, false, false, false, false, false, false, false, false, false, false, false, false, false, false, false, false, false, false, false, false, false, false, false, false, false, false, false, false, false, false, false, false, false, false, false, false, false, false, false, false, false, false, false, false, false, false, false, false, false, false, false, false, false, false, false, false, false, false, false, false, false, false, false, false, false, false, false, false, false, false, false, false, false, false, false]
theorem isLawAt_600 : ((Tryz.prog.funcs.toList.drop 600).take 100).map (fun fn => fn.name == Rows.runSamesRow.func) = isLaw_600 := by kernel_rfl
noncomputable def isLaw_700 : List (Bool) := [false, false, false, false, false, false, false, false, false, false, false, false, false, false, false, false, false, false, false, false, false, false, false, false, false, false, false, false, false, false, false, false, false, false, false, false, false, false, false, false, false, false, false, false, false, false, false, false, false, false, false, false, false, false, false, false, false, false, false, false, false, false, false, false, false, false, false, false, false, false, false, false, false, false, false, false, false, false, false, false, false, false, false, false, false, false, false, false, false, false, false, false, false, false, false, false, false, false, false, false]
theorem isLawAt_700 : ((Tryz.prog.funcs.toList.drop 700).take 100).map (fun fn => fn.name == Rows.runSamesRow.func) = isLaw_700 := by kernel_rfl
noncomputable def isLaw_800 : List (Bool) := [false, false, false, false, false, false, false, false, false, false, false, false, false, false, false, false, false, false, false, false, false, false, false, false, false, false, false, false, false, false, false, false, false, false, false, false, false, false, false, false, false, false, false, false, false, false, false, false, false, false, false, false, false, false, false, false, false, false, false, false, false, false, false, false, false, false, false, false, false, false, false, false, false, false, false, false, false, false, false, false, false, false, false, false, false, false, false, false, false, false, false]
theorem isLawAt_800 : ((Tryz.prog.funcs.toList.drop 800).take 91).map (fun fn => fn.name == Rows.runSamesRow.func) = isLaw_800 := by kernel_rfl
noncomputable def isLaw : List (Bool) := isLaw_0 ++ (isLaw_100 ++ (isLaw_200 ++ (isLaw_300 ++ (isLaw_400 ++ (isLaw_500 ++ (isLaw_600 ++ (isLaw_700 ++ (isLaw_800 ++ []))))))))
theorem isLaw_eq : Tryz.prog.funcs.toList.map (fun fn => fn.name == Rows.runSamesRow.func) = isLaw := by
  have h0 : Tryz.prog.funcs.toList.map (fun fn => fn.name == Rows.runSamesRow.func) = (Tryz.prog.funcs.toList.drop 0).map (fun fn => fn.name == Rows.runSamesRow.func) := rfl
  rw [h0]
  rw [map_part _ _ 0 100, isLawAt_0]
  rw [map_part _ _ 100 100, isLawAt_100]
  rw [map_part _ _ 200 100, isLawAt_200]
  rw [map_part _ _ 300 100, isLawAt_300]
  rw [map_part _ _ 400 100, isLawAt_400]
  rw [map_part _ _ 500 100, isLawAt_500]
  rw [map_part _ _ 600 100, isLawAt_600]
  rw [map_part _ _ 700 100, isLawAt_700]
  rw [map_part _ _ 800 91, isLawAt_800]
  rw [List.drop_eq_nil_of_le (show Tryz.prog.funcs.toList.length ≤ 800 + 91 by rw [funcs_size]; exact Nat.le_refl _)]
  rfl
noncomputable def goes_0 : List (Bool) := [false, false, false, false, false, false, false, false, false, false, false, false, false, false, false, false, false, false, false, false]
theorem goesAt_0 : ((Tryz.prog.funcs.toList.drop 0).take 20).map (Func.goes) = goes_0 := by kernel_rfl
noncomputable def goes_20 : List (Bool) := [false, false, false, false, false, false, false, false, false, false, false, false, false, false, false, false, false, false, false, false]
theorem goesAt_20 : ((Tryz.prog.funcs.toList.drop 20).take 20).map (Func.goes) = goes_20 := by kernel_rfl
noncomputable def goes_40 : List (Bool) := [false, false, false, false, false, false, false, false, false, false, false, false, false, false, false, false, false, false, false, false]
theorem goesAt_40 : ((Tryz.prog.funcs.toList.drop 40).take 20).map (Func.goes) = goes_40 := by kernel_rfl
noncomputable def goes_60 : List (Bool) := [false, false, false, false, false, false, false, false, false, false, false, false, false, false, false, false, false, false, false, false]
theorem goesAt_60 : ((Tryz.prog.funcs.toList.drop 60).take 20).map (Func.goes) = goes_60 := by kernel_rfl
noncomputable def goes_80 : List (Bool) := [false, false, false, false, false, false, false, false, false, false, false, false, false, false, false, false, false, false, false, false]
theorem goesAt_80 : ((Tryz.prog.funcs.toList.drop 80).take 20).map (Func.goes) = goes_80 := by kernel_rfl
noncomputable def goes_100 : List (Bool) := [false, false, false, false, false, false, false, false, false, false, false, false, false, false, false, false, false, false, false, false]
theorem goesAt_100 : ((Tryz.prog.funcs.toList.drop 100).take 20).map (Func.goes) = goes_100 := by kernel_rfl
noncomputable def goes_120 : List (Bool) := [false, false, false, false, false, false, false, false, false, false, false, false, false, false, false, false, false, false, false, false]
theorem goesAt_120 : ((Tryz.prog.funcs.toList.drop 120).take 20).map (Func.goes) = goes_120 := by kernel_rfl
noncomputable def goes_140 : List (Bool) := [false, false, false, false, false, false, false, false, false, false, false, false, false, false, false, false, false, false, false, false]
theorem goesAt_140 : ((Tryz.prog.funcs.toList.drop 140).take 20).map (Func.goes) = goes_140 := by kernel_rfl
noncomputable def goes_160 : List (Bool) := [false, false, false, false, false, false, false, false, false, false, false, false, false, false, false, false, false, false, false, false]
theorem goesAt_160 : ((Tryz.prog.funcs.toList.drop 160).take 20).map (Func.goes) = goes_160 := by kernel_rfl
noncomputable def goes_180 : List (Bool) := [false, false, false, false, false, false, false, false, false, false, false, false, false, false, false, false, false, false, false, false]
theorem goesAt_180 : ((Tryz.prog.funcs.toList.drop 180).take 20).map (Func.goes) = goes_180 := by kernel_rfl
noncomputable def goes_200 : List (Bool) := [false, false, false, false, false, false, false, false, false, false, false, false, false, false, false, false, false, false, false, false]
theorem goesAt_200 : ((Tryz.prog.funcs.toList.drop 200).take 20).map (Func.goes) = goes_200 := by kernel_rfl
noncomputable def goes_220 : List (Bool) := [false, false, false, false, false, false, false, false, false, false, false, false, false, false, false, false, false, false, false, false]
theorem goesAt_220 : ((Tryz.prog.funcs.toList.drop 220).take 20).map (Func.goes) = goes_220 := by kernel_rfl
noncomputable def goes_240 : List (Bool) := [false, false, false, false, false, false, false, false, false, false, false, false, false, false, false, false, false, false, false, false]
theorem goesAt_240 : ((Tryz.prog.funcs.toList.drop 240).take 20).map (Func.goes) = goes_240 := by kernel_rfl
noncomputable def goes_260 : List (Bool) := [false, false, false, false, false, false, false, false, false, false, false, false, false, false, false, false, false, false, false, false]
theorem goesAt_260 : ((Tryz.prog.funcs.toList.drop 260).take 20).map (Func.goes) = goes_260 := by kernel_rfl
noncomputable def goes_280 : List (Bool) := [false, false, false, false, false, false, false, false, false, false, false, false, false, false, false, false, false, false, false, false]
theorem goesAt_280 : ((Tryz.prog.funcs.toList.drop 280).take 20).map (Func.goes) = goes_280 := by kernel_rfl
noncomputable def goes_300 : List (Bool) := [false, false, false, false, false, false, false, false, false, false, false, false, false, false, false, false, false, false, false, false]
theorem goesAt_300 : ((Tryz.prog.funcs.toList.drop 300).take 20).map (Func.goes) = goes_300 := by kernel_rfl
noncomputable def goes_320 : List (Bool) := [false, false, false, false, false, false, false, false, false, false, false, false, false, false, false, false, false, false, false, false]
theorem goesAt_320 : ((Tryz.prog.funcs.toList.drop 320).take 20).map (Func.goes) = goes_320 := by kernel_rfl
noncomputable def goes_340 : List (Bool) := [false, false, false, false, false, false, false, false, false, false, false, false, false, false, false, false, false, false, false, false]
theorem goesAt_340 : ((Tryz.prog.funcs.toList.drop 340).take 20).map (Func.goes) = goes_340 := by kernel_rfl
noncomputable def goes_360 : List (Bool) := [false, false, false, false, false, false, false, false, false, false, false, false, false, false, false, false, false, false, false, false]
theorem goesAt_360 : ((Tryz.prog.funcs.toList.drop 360).take 20).map (Func.goes) = goes_360 := by kernel_rfl
noncomputable def goes_380 : List (Bool) := [false, false, false, false, false, false, false, false, false, false, false, false, false, false, false, false, false, false, false, false]
theorem goesAt_380 : ((Tryz.prog.funcs.toList.drop 380).take 20).map (Func.goes) = goes_380 := by kernel_rfl
noncomputable def goes_400 : List (Bool) := [false, false, false, false, false, false, false, false, false, false, false, false, false, false, false, false, false, false, false, false]
theorem goesAt_400 : ((Tryz.prog.funcs.toList.drop 400).take 20).map (Func.goes) = goes_400 := by kernel_rfl
noncomputable def goes_420 : List (Bool) := [false, false, false, false, false, false, false, false, false, false, false, false, false, false, false, false, false, false, false, false]
theorem goesAt_420 : ((Tryz.prog.funcs.toList.drop 420).take 20).map (Func.goes) = goes_420 := by kernel_rfl
noncomputable def goes_440 : List (Bool) := [false, false, false, false, false, false, false, false, false, false, false, false, false, false, false, false, false, false, false, false]
theorem goesAt_440 : ((Tryz.prog.funcs.toList.drop 440).take 20).map (Func.goes) = goes_440 := by kernel_rfl
noncomputable def goes_460 : List (Bool) := [false, false, false, false, false, false, false, false, false, false, false, false, false, false, false, false, false, false, false, false]
theorem goesAt_460 : ((Tryz.prog.funcs.toList.drop 460).take 20).map (Func.goes) = goes_460 := by kernel_rfl
noncomputable def goes_480 : List (Bool) := [false, false, false, false, false, false, false, false, false, false, false, false, false, false, false, false, false, false, false, false]
theorem goesAt_480 : ((Tryz.prog.funcs.toList.drop 480).take 20).map (Func.goes) = goes_480 := by kernel_rfl
noncomputable def goes_500 : List (Bool) := [false, false, false, false, false, false, false, false, false, false, false, false, false, false, false, false, false, false, false, false]
theorem goesAt_500 : ((Tryz.prog.funcs.toList.drop 500).take 20).map (Func.goes) = goes_500 := by kernel_rfl
noncomputable def goes_520 : List (Bool) := [false, false, false, false, false, false, false, false, false, false, false, false, false, false, false, false, false, false, false, false]
theorem goesAt_520 : ((Tryz.prog.funcs.toList.drop 520).take 20).map (Func.goes) = goes_520 := by kernel_rfl
noncomputable def goes_540 : List (Bool) := [false, false, false, false, false, false, false, false, false, false, false, false, false, false, false, false, false, false, false, false]
theorem goesAt_540 : ((Tryz.prog.funcs.toList.drop 540).take 20).map (Func.goes) = goes_540 := by kernel_rfl
noncomputable def goes_560 : List (Bool) := [false, false, false, false, false, false, false, false, false, false, false, false, false, false, false, false, false, false, false, false]
theorem goesAt_560 : ((Tryz.prog.funcs.toList.drop 560).take 20).map (Func.goes) = goes_560 := by kernel_rfl
noncomputable def goes_580 : List (Bool) := [false, false, false, false, false, false, false, false, false, false, false, false, false, false, false, false, false, false, false, false]
theorem goesAt_580 : ((Tryz.prog.funcs.toList.drop 580).take 20).map (Func.goes) = goes_580 := by kernel_rfl
noncomputable def goes_600 : List (Bool) := [false, false, false, false, false, false, false, false, false, false, false, false, false, false, false, false, false, false, false, false]
theorem goesAt_600 : ((Tryz.prog.funcs.toList.drop 600).take 20).map (Func.goes) = goes_600 := by kernel_rfl
noncomputable def goes_620 : List (Bool) := [false, false, false, false, false, false, false, false, false, false, false, false, false, false, false, false, false, false, false, false]
theorem goesAt_620 : ((Tryz.prog.funcs.toList.drop 620).take 20).map (Func.goes) = goes_620 := by kernel_rfl
noncomputable def goes_640 : List (Bool) := [false, false, false, false, false, false, false, false, false, false, false, false, false, false, false, false, false, false, false, false]
theorem goesAt_640 : ((Tryz.prog.funcs.toList.drop 640).take 20).map (Func.goes) = goes_640 := by kernel_rfl
noncomputable def goes_660 : List (Bool) := [false, false, false, false, false, false, false, false, false, false, false, false, false, false, false, false, false, false, false, false]
theorem goesAt_660 : ((Tryz.prog.funcs.toList.drop 660).take 20).map (Func.goes) = goes_660 := by kernel_rfl
noncomputable def goes_680 : List (Bool) := [false, false, false, false, false, false, false, false, false, false, false, false, false, false, false, false, false, false, false, false]
theorem goesAt_680 : ((Tryz.prog.funcs.toList.drop 680).take 20).map (Func.goes) = goes_680 := by kernel_rfl
noncomputable def goes_700 : List (Bool) := [false, false, false, false, false, false, false, false, false, false, false, false, false, false, false, false, false, false, false, false]
theorem goesAt_700 : ((Tryz.prog.funcs.toList.drop 700).take 20).map (Func.goes) = goes_700 := by kernel_rfl
noncomputable def goes_720 : List (Bool) := [false, false, false, false, false, false, false, false, false, false, false, false, false, false, false, false, false, false, false, false]
theorem goesAt_720 : ((Tryz.prog.funcs.toList.drop 720).take 20).map (Func.goes) = goes_720 := by kernel_rfl
noncomputable def goes_740 : List (Bool) := [false, false, false, false, false, false, false, false, false, false, false, false, false, false, false, false, false, false, false, false]
theorem goesAt_740 : ((Tryz.prog.funcs.toList.drop 740).take 20).map (Func.goes) = goes_740 := by kernel_rfl
noncomputable def goes_760 : List (Bool) := [false, false, false, false, false, false, false, false, false, false, false, false, false, false, false, false, false, false, false, false]
theorem goesAt_760 : ((Tryz.prog.funcs.toList.drop 760).take 20).map (Func.goes) = goes_760 := by kernel_rfl
noncomputable def goes_780 : List (Bool) := [false, false, false, false, false, false, false, false, false, false, false, false, false, false, false, false, false, false, false, false]
theorem goesAt_780 : ((Tryz.prog.funcs.toList.drop 780).take 20).map (Func.goes) = goes_780 := by kernel_rfl
noncomputable def goes_800 : List (Bool) := [false, false, false, false, false, false, false, false, false, false, false, false, false, false, false, false, false, false, false, false]
theorem goesAt_800 : ((Tryz.prog.funcs.toList.drop 800).take 20).map (Func.goes) = goes_800 := by kernel_rfl
noncomputable def goes_820 : List (Bool) := [false, false, false, false, false, false, false, false, false, false, false, false, false, false, false, false, false, false, false, false]
theorem goesAt_820 : ((Tryz.prog.funcs.toList.drop 820).take 20).map (Func.goes) = goes_820 := by kernel_rfl
noncomputable def goes_840 : List (Bool) := [false, false, false, false, false, false, false, false, false, false, false, false, false, false, false, false, false, false, false, false]
theorem goesAt_840 : ((Tryz.prog.funcs.toList.drop 840).take 20).map (Func.goes) = goes_840 := by kernel_rfl
noncomputable def goes_860 : List (Bool) := [false, false, false, false, false, false, false, false, false, false, false, false, false, false, false, false, false, false, false, false]
theorem goesAt_860 : ((Tryz.prog.funcs.toList.drop 860).take 20).map (Func.goes) = goes_860 := by kernel_rfl
noncomputable def goes_880 : List (Bool) := [false, false, false, false, false, false, false, false, false, false, false]
theorem goesAt_880 : ((Tryz.prog.funcs.toList.drop 880).take 11).map (Func.goes) = goes_880 := by kernel_rfl
noncomputable def goes : List (Bool) := goes_0 ++ (goes_20 ++ (goes_40 ++ (goes_60 ++ (goes_80 ++ (goes_100 ++ (goes_120 ++ (goes_140 ++ (goes_160 ++ (goes_180 ++ (goes_200 ++ (goes_220 ++ (goes_240 ++ (goes_260 ++ (goes_280 ++ (goes_300 ++ (goes_320 ++ (goes_340 ++ (goes_360 ++ (goes_380 ++ (goes_400 ++ (goes_420 ++ (goes_440 ++ (goes_460 ++ (goes_480 ++ (goes_500 ++ (goes_520 ++ (goes_540 ++ (goes_560 ++ (goes_580 ++ (goes_600 ++ (goes_620 ++ (goes_640 ++ (goes_660 ++ (goes_680 ++ (goes_700 ++ (goes_720 ++ (goes_740 ++ (goes_760 ++ (goes_780 ++ (goes_800 ++ (goes_820 ++ (goes_840 ++ (goes_860 ++ (goes_880 ++ []))))))))))))))))))))))))))))))))))))))))))))
theorem goes_eq : Tryz.prog.funcs.toList.map (Func.goes) = goes := by
  have h0 : Tryz.prog.funcs.toList.map (Func.goes) = (Tryz.prog.funcs.toList.drop 0).map (Func.goes) := rfl
  rw [h0]
  rw [map_part _ _ 0 20, goesAt_0]
  rw [map_part _ _ 20 20, goesAt_20]
  rw [map_part _ _ 40 20, goesAt_40]
  rw [map_part _ _ 60 20, goesAt_60]
  rw [map_part _ _ 80 20, goesAt_80]
  rw [map_part _ _ 100 20, goesAt_100]
  rw [map_part _ _ 120 20, goesAt_120]
  rw [map_part _ _ 140 20, goesAt_140]
  rw [map_part _ _ 160 20, goesAt_160]
  rw [map_part _ _ 180 20, goesAt_180]
  rw [map_part _ _ 200 20, goesAt_200]
  rw [map_part _ _ 220 20, goesAt_220]
  rw [map_part _ _ 240 20, goesAt_240]
  rw [map_part _ _ 260 20, goesAt_260]
  rw [map_part _ _ 280 20, goesAt_280]
  rw [map_part _ _ 300 20, goesAt_300]
  rw [map_part _ _ 320 20, goesAt_320]
  rw [map_part _ _ 340 20, goesAt_340]
  rw [map_part _ _ 360 20, goesAt_360]
  rw [map_part _ _ 380 20, goesAt_380]
  rw [map_part _ _ 400 20, goesAt_400]
  rw [map_part _ _ 420 20, goesAt_420]
  rw [map_part _ _ 440 20, goesAt_440]
  rw [map_part _ _ 460 20, goesAt_460]
  rw [map_part _ _ 480 20, goesAt_480]
  rw [map_part _ _ 500 20, goesAt_500]
  rw [map_part _ _ 520 20, goesAt_520]
  rw [map_part _ _ 540 20, goesAt_540]
  rw [map_part _ _ 560 20, goesAt_560]
  rw [map_part _ _ 580 20, goesAt_580]
  rw [map_part _ _ 600 20, goesAt_600]
  rw [map_part _ _ 620 20, goesAt_620]
  rw [map_part _ _ 640 20, goesAt_640]
  rw [map_part _ _ 660 20, goesAt_660]
  rw [map_part _ _ 680 20, goesAt_680]
  rw [map_part _ _ 700 20, goesAt_700]
  rw [map_part _ _ 720 20, goesAt_720]
  rw [map_part _ _ 740 20, goesAt_740]
  rw [map_part _ _ 760 20, goesAt_760]
  rw [map_part _ _ 780 20, goesAt_780]
  rw [map_part _ _ 800 20, goesAt_800]
  rw [map_part _ _ 820 20, goesAt_820]
  rw [map_part _ _ 840 20, goesAt_840]
  rw [map_part _ _ 860 20, goesAt_860]
  rw [map_part _ _ 880 11, goesAt_880]
  rw [List.drop_eq_nil_of_le (show Tryz.prog.funcs.toList.length ≤ 880 + 11 by rw [funcs_size]; exact Nat.le_refl _)]
  rfl
noncomputable def clos : List Nat := [3, 4, 9, 12, 14, 22, 24, 37, 38, 64, 106, 65, 66, 107, 67, 108, 161, 256, 336, 68, 69, 109, 162, 257, 337, 258, 338, 163, 164, 165, 166, 259, 339, 260, 261, 340, 401, 262, 167, 263, 341, 402, 403, 110, 111, 112, 168, 127, 197, 196, 198, 200, 285, 199, 202, 287, 349, 286, 348, 405, 406, 407, 201, 265, 342, 264, 221, 296, 220, 113, 169, 23, 36, 15, 26, 27, 42, 73, 76, 119, 75, 125, 194, 118, 182, 195, 128, 72, 70, 114, 115, 170, 266, 267, 74, 120, 183, 45, 77, 84, 41, 78, 124, 192, 193, 284, 346, 347, 404, 467, 563, 646, 718, 754, 785, 786, 647, 719, 755, 720, 721, 757, 787, 809, 816, 817, 181, 822, 823, 818, 819, 824, 825, 828, 829, 756, 722, 344, 564, 122, 80, 121, 648, 565, 190, 649, 650, 79, 282, 345, 283, 191, 47, 184, 274, 43, 44, 185, 186, 275, 187, 188, 189, 276, 277, 278, 279, 280, 281, 123, 46, 25, 39, 40, 71, 117, 180, 116, 171, 177, 273, 172, 268, 173, 269, 270, 174, 271, 272, 343, 175, 176, 178, 179, 16, 18, 29, 48, 81, 126, 83, 82, 28, 17, 13, 19, 30, 49, 50, 85, 86, 51, 87, 129, 88, 89, 130, 203, 288, 204, 205, 289, 350, 408, 468, 566, 651, 723, 290, 351, 92, 131, 132, 206, 133, 134, 207, 208, 135, 136, 209, 137, 210, 211, 31, 52, 90, 91, 94, 139, 93, 138, 212, 95, 140, 213, 214, 291, 352, 292, 293, 353, 409, 410, 411, 359, 218, 97, 222, 297, 360, 361, 298, 412, 413, 469, 219, 98, 143, 144, 414, 415, 416, 357, 417, 418, 354, 294, 355, 215, 96, 142, 295, 356, 358, 419, 470, 471, 141, 216, 217, 21, 35, 59, 60, 61, 62, 63, 105, 148, 231, 232, 306, 321, 307, 362, 322, 372, 99, 145, 223, 224, 225, 226, 227, 299, 300, 301, 302, 303, 229, 373, 433, 432, 100, 146, 228, 230, 304, 305, 420, 421, 472, 567, 474, 101, 147, 569, 473, 568, 430, 369, 428, 429, 652, 724, 380, 442, 443, 533, 534, 609, 690, 689, 610, 686, 691, 611, 612, 613, 607, 685, 687, 688, 608, 444, 535, 614, 692, 536, 615, 445, 653, 422, 475, 572, 571, 654, 655, 726, 758, 570, 576, 476, 573, 656, 727, 477, 574, 657, 658, 478, 575, 659, 479, 480, 481, 577, 482, 483, 578, 660, 484, 579, 485, 580, 486, 487, 488, 581, 489, 490, 582, 661, 491, 583, 662, 728, 759, 788, 789, 492, 584, 663, 664, 729, 493, 585, 665, 494, 495, 496, 497, 498, 499, 500, 501, 502, 503, 504, 586, 505, 506, 507, 508, 509, 510, 511, 587, 512, 588, 513, 514, 515, 516, 589, 517, 518, 519, 53, 520, 522, 725, 523, 590, 666, 591, 592, 370, 34, 55, 56, 57, 58, 102, 103, 104, 155, 233, 308, 309, 234, 254, 331, 381, 424, 54, 323, 374, 310, 239, 363, 311, 312, 364, 365, 327, 243, 379, 313, 366, 329, 423, 367, 425, 521, 441, 330, 252, 368, 427, 426, 235, 236, 314, 237, 315, 316, 253, 328, 238, 242, 240, 245, 317, 318, 319, 320, 371, 431, 524, 149, 241, 244, 324, 375, 435, 437, 436, 526, 438, 439, 434, 525, 593, 667, 731, 730, 732, 761, 790, 760, 668, 528, 598, 599, 679, 680, 600, 681, 601, 682, 740, 669, 733, 762, 763, 791, 764, 765, 792, 793, 810, 766, 767, 768, 769, 670, 672, 671, 673, 594, 674, 734, 675, 735, 770, 794, 771, 796, 795, 676, 736, 737, 738, 774, 801, 802, 807, 772, 797, 811, 812, 820, 826, 773, 798, 799, 800, 813, 814, 821, 827, 677, 739, 775, 776, 777, 803, 804, 815, 805, 325, 376, 440, 527, 595, 678, 597, 596, 529, 530, 531, 532, 602, 604, 684, 741, 779, 778, 605, 606, 603, 683, 377, 246, 326, 378, 150, 32, 247, 248, 151, 249, 152, 250, 153, 251, 154, 156, 157, 158, 159, 160, 255, 332, 382, 447, 446, 537, 383, 448, 538, 616, 694, 693, 696, 695, 706, 539, 384, 449, 540, 617, 697, 618, 541, 619, 543, 621, 698, 742, 743, 744, 780, 806, 781, 782, 745, 620, 542, 385, 450, 544, 622, 699, 386, 451, 545, 623, 700, 701, 746, 702, 624, 546, 625, 703, 387, 452, 547, 388, 453, 548, 389, 454, 549, 550, 390, 455, 391, 456, 551, 392, 457, 552, 626, 705, 747, 748, 749, 704, 553, 627, 393, 458, 554, 555, 629, 628, 630, 707, 394, 459, 556, 631, 708, 632, 641, 633, 709, 750, 710, 634, 711, 635, 712, 395, 460, 557, 637, 638, 636, 713, 714, 642, 396, 461, 558, 639, 715, 716, 751, 783, 559, 397, 462, 560, 640, 398, 463, 561, 643, 644, 399, 464, 562, 645, 717, 752, 753, 784, 808, 333, 334, 400, 465, 466, 335, 20, 33, 10, 5, 11, 6, 7, 8]
theorem some_map {α : Type} (l : List α) (g : Nat) : (trSome (l.map some) 0 .lf).get g = l[g]? := by
  rw [trSome_zero, List.getElem?_map]
  cases l[g]? <;> rfl
theorem at_map {α : Type} {P : Program} {f : Func → α} {l : List α} (h : P.funcs.toList.map f = l) (g : Nat) : (P.funcs[g]?).map f = l[g]? := by
  rw [← h, List.getElem?_map, Array.getElem?_toList]
noncomputable def leadT : Tr (List Nat) := trSome (lead.map some) 0 .lf
theorem lead_at (f : Nat) : (Tryz.prog.funcs[f]?).elim [] Tryz.prog.leadsTo = (leadT.get f).getD [] := by
  unfold leadT
  rw [some_map, ← at_map lead_eq f]
  cases Tryz.prog.funcs[f]? <;> rfl
theorem lead_sum0 : (lead.map fun l => l.length + 1).sum = 2892 := by kernel_rfl
theorem lead_sum : (Tryz.prog.funcs.toList.map fun g => (Tryz.prog.leadsTo g).length + 1).sum = 2892 := by
  have h : (Tryz.prog.funcs.toList.map fun g => (Tryz.prog.leadsTo g).length + 1) = (Tryz.prog.funcs.toList.map Tryz.prog.leadsTo).map fun l => l.length + 1 := by rw [List.map_map]; rfl
  rw [h, lead_eq]
  exact lead_sum0
theorem closW_clos : closW leadT (1 + 2892) [3] [] .lf = clos := by kernel_rfl
theorem clos_eq : Tryz.prog.closure 3 = clos := by
  unfold Program.closure
  rw [lead_sum, closW_eq lead_at _ _ _ .lf (fun f => by rw [Tr.get_lf]; rfl), closW_clos]
noncomputable def placeT : Tr String := trSome place 0 .lf
theorem place_run : clos.filterMap placeT.get = Rows.runSamesRow.inPlace := by kernel_rfl
theorem fact_inPlace : Tryz.prog.inPlace 3 = Rows.runSamesRow.inPlace := by
  unfold Program.inPlace
  rw [clos_eq]
  have h : (fun g : Nat => (Tryz.prog.funcs[g]?).bind fun fn => if fn.ours || fn.body.isNone || fn.name == "runtime.NumGoroutine" then some fn.name else none) = placeT.get := by
    funext g
    unfold placeT
    rw [trSome_zero, ← at_map place_eq g]
    cases Tryz.prog.funcs[g]? <;> rfl
  rw [h]
  exact place_run
theorem fact_unfollowed : Tryz.prog.unfollowed 3 = true := by
  unfold Program.unfollowed
  rw [clos_eq]
  refine List.any_eq_true.2 ⟨37, ?_, ?_⟩
  · exact List.contains_iff_mem.1 (show clos.contains 37 = true by kernel_rfl)
  · rw [Tryz.func37]
    kernel_rfl
theorem fact_recurses : Tryz.prog.recurses 3 = true := by
  unfold Program.recurses
  rw [fact_unfollowed, Bool.true_or]
noncomputable def namedT : Tr (List Nat) := trSome (named.map some) 0 .lf
noncomputable def readsT : Tr String := trSome reads 0 .lf
theorem named_run : (((clos.flatMap fun g => (namedT.get g).getD []).eraseDups).filterMap (fun g => (Tryz.prog.globals[g]?).map (·.name)) ++ clos.filterMap readsT.get).eraseDups = Rows.runSamesRow.named := by kernel_rfl
theorem fact_named : Tryz.prog.varsNamed 3 = Rows.runSamesRow.named := by
  unfold Program.varsNamed
  rw [clos_eq]
  have h1 : (fun g : Nat => ((Tryz.prog.funcs[g]?).bind (·.body)).elim [] Code.globalsNamed) = fun g => (namedT.get g).getD [] := by
    funext g
    unfold namedT
    rw [some_map, ← at_map named_eq g]
    cases Tryz.prog.funcs[g]? <;> rfl
  have h2 : (fun g : Nat => (Tryz.prog.funcs[g]?).bind fun fn => if fn.body.isNone then entryReads.lookup fn.name else none) = readsT.get := by
    funext g
    unfold readsT
    rw [trSome_zero, ← at_map reads_eq g]
    cases Tryz.prog.funcs[g]? <;> rfl
  rw [h1, h2]
  exact named_run
noncomputable def lawT : Tr Unit := trSome (isLaw.map fun b => bif b then some () else none) 0 .lf
theorem law_run : ((List.range 891).filter fun i => (lawT.get i).isSome) = [3] := by kernel_rfl
theorem funcNamed_of {P : Program} {name : String} {n i : Nat} (T : Tr Unit) (hs : P.funcs.size = n) (h : ∀ j : Nat, (P.funcs[j]?).any (·.name == name) = (T.get j).isSome) (hr : ((List.range n).filter fun j => (T.get j).isSome) = [i]) : P.funcNamed name = some i := by
  subst hs
  unfold Program.funcNamed
  have e : (fun j : Nat => (P.funcs[j]?).any (·.name == name)) = fun j => (T.get j).isSome := funext h
  rw [e, hr]
theorem named_at {P : Program} {name : String} {l : List Bool} (h : P.funcs.toList.map (fun fn => fn.name == name) = l) (j : Nat) : (P.funcs[j]?).any (·.name == name) = ((trSome (l.map fun b => bif b then some () else none) 0 .lf).get j).isSome := by
  rw [trSome_zero, List.getElem?_map, ← at_map h j]
  cases P.funcs[j]? with
  | none => rfl
  | some fn =>
    simp only [Option.any_some, Option.map_some, Option.bind_some, id]
    cases fn.name == name <;> rfl
theorem size_eq : Tryz.prog.funcs.size = 891 := by rw [← Array.length_toList]; exact funcs_size
theorem fact_func : Tryz.prog.funcNamed Rows.runSamesRow.func = some 3 := funcNamed_of lawT size_eq (named_at isLaw_eq) law_run
theorem goes_run : goes.all (fun b => !b) = true := by kernel_rfl
theorem goes_no (g : Nat) : (Tryz.prog.funcs[g]?).any Func.goes = false := by
  have h := at_map goes_eq g
  cases hf : Tryz.prog.funcs[g]? with
  | none => rfl
  | some fn =>
    rw [hf, Option.map_some] at h
    have hm := List.mem_of_getElem? h.symm
    have := List.all_eq_true.1 goes_run _ hm
    simpa using this
theorem fact_goes : false = Rows.runSamesRow.goesBy Tryz.prog := by
  unfold OpenClaim.goesBy Program.goesAt Program.goesFrom
  rw [fact_func]
  have h1 : Tryz.prog.goes 3 = false := by
    unfold Program.goes
    have h2 : (Tryz.prog.funcs.any Func.goes) = false := by
      rw [Array.any_eq_false]
      intro i hi hg
      have := goes_no i
      rw [Array.getElem?_eq_getElem hi] at this
      simp only [Option.any_some] at this
      rw [this] at hg
      cases hg
    rw [h2, Bool.and_false, Bool.or_false, List.any_eq_false]
    intro g _ hg
    rw [goes_no g] at hg
    cases hg
  rw [Option.any_some, h1, Bool.false_or]
  rfl
end Go.Proofs.YtfcklaeahpibhaaGreatDoor
end
