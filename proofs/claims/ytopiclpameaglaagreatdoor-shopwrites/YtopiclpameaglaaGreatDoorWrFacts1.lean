/-
The closure of the law's function, and what is asked of it. No condition.
-/
import Derived.Test.YtopiclpameaglaaGreatDoorRdFacts0
import Derived.Test.YtopiclpameaglaaGreatDoorRows
import Derived.Test.YtopiclpameaglaaGreatDoorEv3
import Derived.JoinedOf
import GoSem.ClaimSeven
import Derived.KernelRfl
set_option linter.unusedSimpArgs false
set_option linter.unusedVariables false
set_option maxRecDepth 1000000
noncomputable section
namespace Go.Proofs.YtopiclpameaglaaGreatDoor
open Go Go.Ev
/-! ### Lists over all functions, in chunks -/
theorem map_part {α β : Type} (f : α → β) (l : List α) (a n : Nat) : (l.drop a).map f = ((l.drop a).take n).map f ++ (l.drop (a + n)).map f := by
  rw [← List.map_append, ← List.drop_drop, List.take_append_drop]
/-- What stands at each number. -/
noncomputable def trSome {α : Type} : List (Option α) → Nat → Tr α → Tr α
  | [], _, t => t
  | none :: l, k, t => trSome l (k + 1) t
  | some x :: l, k, t => trSome l (k + 1) (t.set k x)
theorem trSome_get {α : Type} : ∀ (l : List (Option α)) (k : Nat) (t : Tr α) (g : Nat), (∀ i, k ≤ i → t.get i = none) → (trSome l k t).get g = if k ≤ g then (l[g - k]?).bind id else t.get g
  | [], k, t, g, ht => by
    by_cases h : k ≤ g
    · rw [if_pos h]; simpa [trSome] using ht g h
    · rw [if_neg h]; rfl
  | none :: l, k, t, g, ht => by
    rw [trSome, trSome_get l (k + 1) t g (fun i hi => ht i (by omega))]
    by_cases h : k + 1 ≤ g
    · rw [if_pos h, if_pos (by omega), show g - k = (g - (k + 1)) + 1 by omega]; rfl
    · rw [if_neg h]
      by_cases h2 : k ≤ g
      · obtain rfl : g = k := by omega
        rw [if_pos h2, ht g h2, Nat.sub_self]; rfl
      · rw [if_neg h2]
  | some x :: l, k, t, g, ht => by
    rw [trSome, trSome_get l (k + 1) (t.set k x) g (fun i hi => by rw [Tr.get_set, if_neg (by omega)]; exact ht i (by omega))]
    by_cases h : k + 1 ≤ g
    · rw [if_pos h, if_pos (by omega), show g - k = (g - (k + 1)) + 1 by omega]; rfl
    · rw [if_neg h, Tr.get_set]
      by_cases h2 : k ≤ g
      · obtain rfl : g = k := by omega
        rw [if_pos rfl, if_pos h2, Nat.sub_self]; rfl
      · rw [if_neg h2, if_neg (by omega)]
theorem trSome_zero {α : Type} (l : List (Option α)) (g : Nat) : (trSome l 0 .lf).get g = (l[g]?).bind id := by
  rw [trSome_get l 0 .lf g (fun i _ => Tr.get_lf i), if_pos (Nat.zero_le _), Nat.sub_zero]
/-- The closure, what has been seen in a trie beside the list. -/
noncomputable def closW (T : Tr (List Nat)) : Nat → List Nat → List Nat → Tr Unit → List Nat
  | 0, _, seen, _ => seen.reverse
  | _ + 1, [], seen, _ => seen.reverse
  | n + 1, f :: todo, seen, s => bif (s.get f).isSome then closW T n todo seen s else closW T n (((T.get f).getD []) ++ todo) (f :: seen) (s.set f ())
theorem closW_eq {P : Program} {T : Tr (List Nat)} (hT : ∀ f : Nat, (P.funcs[f]?).elim [] P.leadsTo = (T.get f).getD []) :
    ∀ (n : Nat) (todo seen : List Nat) (s : Tr Unit), (∀ f, (s.get f).isSome = seen.contains f) → P.closureVia n todo seen = closW T n todo seen s
  | 0, _, _, _, _ => by rw [Program.closureVia, closW]
  | n + 1, [], seen, s, _ => by rw [Program.closureVia, closW]; exact fun h => by cases h
  | n + 1, f :: todo, seen, s, hs => by
    rw [Program.closureVia, closW, hs f]
    cases hc : seen.contains f
    · rw [cond_false]
      simp only [Bool.false_eq_true, if_false]
      rw [hT f]
      refine closW_eq hT n _ _ _ fun g => ?_
      rw [Tr.get_set]
      by_cases h : g = f
      · subst h; simp
      · rw [if_neg h, hs g]; simp [h]
    · rw [cond_true]
      simp only [if_true]
      exact closW_eq hT n _ _ _ hs
theorem funcs_size : Tryz.prog.funcs.toList.length = 1233 := by kernel_rfl
theorem funcs_end : Tryz.prog.funcs.toList.drop (1200 + 33) = [] := List.drop_eq_nil_of_le (by rw [funcs_size]; exact Nat.le_refl _)
noncomputable def lead_0 : List (List Nat) := [[], [], [1], [6, 7, 8, 9, 6], [6, 10, 11, 6], [12, 6, 13, 14, 15, 16, 6, 7, 9, 6], [17, 18, 18, 18, 18, 19, 9], [20, 20, 21, 15, 22, 15], [20, 20, 23, 16, 22, 16], [], [7, 7], [8, 8], [], [24, 25, 26], [23, 27], [], [], [], [28, 29, 30], [28, 29, 31], [32], [33], [34], [33], [35], [21], [15, 22, 36, 37], [16, 22], [38], [39], [20, 40, 41, 42, 43, 44, 45], [], [46], [47], [48], [], [49], [], [50, 51, 52, 53, 54], [55, 50, 56, 57, 52], [58, 59, 60, 61, 62, 62, 63, 64, 65, 65, 65, 66, 67, 68, 69, 70, 71, 70, 72], [20], [73, 74], [75], [], [], [76, 77, 76, 78, 77, 79], [46], [80, 81, 82, 83], [84], [], [], [], [], [85, 51, 86, 87, 51, 88, 89, 88, 87, 56, 52, 53], [], [], [90, 51, 91, 91], [92, 93, 94, 95, 96], [97], [98, 93, 99, 100, 101, 102, 103], [98, 104, 105, 100, 106, 107, 101, 102, 108], [109], [98, 111], [98, 112], [113], [98, 115], [97, 116, 117, 118], [97, 119, 118], [120, 121, 122, 123, 123], [124], [126, 127], [126, 128], [129], [], [130], [131], [], [], [132], [], [134, 133, 135], [], [136, 137], [], [], [], [], [], [], [], [], [138], [139], [20, 140, 104], [141, 142, 144], [145, 146], [92], [97, 147], [105, 148]]
theorem leadAt_0 : ((Tryz.prog.funcs.toList.drop 0).take 100).map (Tryz.prog.leadsTo) = lead_0 := by kernel_rfl
noncomputable def lead_100 : List (List Nat) := [[149, 29, 146], [150, 151], [143, 152, 153, 154, 155, 156, 157, 158], [160, 159], [163, 22], [164, 165, 167, 166], [169, 168], [], [170], [98, 104, 110], [171, 159], [172, 159], [175, 159], [98, 114], [149, 29, 176], [149, 29, 177, 179, 178], [180, 181], [180, 183, 182], [22], [184, 185], [187, 186, 100], [188, 189, 190], [153, 193, 194], [195, 36, 36, 36, 37], [120, 125, 22, 123], [196], [164, 197, 198, 199, 166], [200, 202, 201], [203, 204], [], [], [], [], [], [], [], [], [205, 206], [207], [208, 209, 47], [210], [168], [143], [211, 212], [213], [152, 95, 214], [215, 216], [149, 29, 146, 179, 217], [218, 219], [28], [220, 221, 150, 222, 223, 150, 150, 224, 225, 221], [226], [], [227], [], [228, 229, 230, 231], [232], [233, 193, 234, 234], [235], [149, 29, 146, 236], [161, 162], [145], [216], [237, 238], [239, 241, 240], [243, 242], [], [167, 246], [], [], [247, 159], [], [173, 174], [250], [], [], [251, 177, 252, 253, 179], [255, 254], [], [], [105, 100, 256, 105, 257], [258, 101], [259, 260, 181, 261], [262], [149, 29, 177, 263], [149, 29], [264, 265], [266], [267, 268, 269], [270, 271, 272, 273, 274], [191, 192], [275, 276, 277, 278, 271], [], [193, 193], [279, 280, 280, 280], [49, 281], [209, 195, 47, 36, 36, 36, 282, 36, 36, 36, 37], [283, 242], [], [286, 285]]
theorem leadAt_100 : ((Tryz.prog.funcs.toList.drop 100).take 100).map (Tryz.prog.leadsTo) = lead_100 := by kernel_rfl
noncomputable def lead_200 : List (List Nat) := [[287, 288], [289, 290, 226, 290], [291], [287, 292, 293, 294, 295], [296, 298, 297], [], [], [228, 299, 229, 230, 300, 231, 301], [302, 282], [302, 303, 47], [304], [305, 306, 307, 308, 309, 310, 311, 312, 313, 314], [207], [], [153, 102], [], [], [28, 29, 315], [167, 166, 316], [318, 317], [], [], [319, 320, 221], [320, 321, 321, 320], [322, 323, 221, 324, 325, 320, 320, 320, 320, 320, 320, 33, 320], [326, 221, 327, 221, 328, 150, 329], [330, 331, 332, 333], [233, 334], [], [], [335], [336, 337], [338, 339], [], [340, 158, 158, 158, 158, 158, 195, 36, 341, 341, 341, 37, 36, 37], [], [252, 342], [343], [344, 345, 346, 347], [], [348], [349], [351, 352, 353], [244, 245], [355, 354], [357, 353], [], [249, 248, 161, 162], [358], [], [], [95, 105, 105], [359, 360, 361, 362, 364, 363, 365], [366], [], [], [149, 29, 367], [218, 369, 368], [], [370, 371, 372], [], [374, 373], [375, 376, 262, 377, 262, 262, 378, 379, 377, 380], [381], [382], [374, 383], [], [164, 384, 385, 386, 387, 384, 388], [138, 145], [389], [390, 391, 391, 20, 392, 393, 391, 394], [395, 216], [396], [], [398, 397], [394, 400, 401, 278], [402, 403, 401, 404, 395], [405, 401, 101], [101], [334, 406, 406, 407, 407], [193, 234], [408], [409], [284], [410, 411, 412, 413, 414, 245, 410], [], [415, 285], [199, 166, 198, 416, 417, 418], [419], [122, 122], [420], [421, 422, 423, 424, 425, 226], [123, 426, 427, 426], [], [428], [429, 430], [431, 288], [289, 290, 290], [421, 422, 432, 433], []]
theorem leadAt_200 : ((Tryz.prog.funcs.toList.drop 200).take 100).map (Tryz.prog.leadsTo) = lead_200 := by kernel_rfl
noncomputable def lead_300 : List (List Nat) := [[335], [282, 337], [], [], [], [], [], [157], [434, 207], [435], [436], [234], [155], [234, 307], [434], [315], [437, 438, 416, 416, 416, 439, 417, 416], [317], [], [], [], [150, 221], [], [440, 221], [441, 442, 443], [155, 155, 158], [444, 445, 446, 447, 448, 449, 450, 451, 452, 453, 454, 455, 456, 457, 458, 459, 460, 461, 462, 463, 464, 465, 466, 467, 468, 469, 470, 471, 472, 473, 474, 475, 476, 477, 478, 479, 480, 481, 482, 483, 484, 485, 486, 487, 488, 489], [], [321, 320, 150, 150], [490, 491, 492, 221], [], [], [], [493, 494, 330, 495, 333], [], [], [496, 282], [497], [], [], [498, 499], [], [217, 263, 362, 500, 501, 500], [502], [503], [503], [503, 22, 504], [503, 22, 504], [], [350], [505, 506, 158, 507, 508, 509], [], [510, 265], [], [511, 512, 511], [356, 354], [513, 513, 356, 514, 511, 514, 512], [], [], [516, 515], [516, 517, 518], [374, 519], [], [], [], [], [520, 521, 522, 523], [], [], [524, 369, 525, 526, 526, 526, 526, 526, 369, 525, 123, 369, 369], [527, 527, 371, 372], [], [], [528, 529, 530, 531, 532, 533, 534, 535, 536, 373, 373], [537, 134], [148, 101, 538, 538, 539, 538], [218, 540, 218], [538, 538], [541, 542, 260, 544, 543, 546], [547, 547, 548, 148, 101], [549, 377, 184, 550, 261, 261, 260], [551, 552, 552], [], [553, 554, 555, 556, 557, 558, 559, 560, 561, 383, 383], [], [220], [384, 562, 563, 564, 565, 566], [567, 568, 568, 567, 568, 564, 570, 569], [], [], [572], [393], [22], [393], [], [22, 22, 22, 36, 37], [], [573], [399], [324, 443]]
theorem leadAt_300 : ((Tryz.prog.funcs.toList.drop 300).take 100).map (Tryz.prog.leadsTo) = lead_300 := by kernel_rfl
noncomputable def lead_400 : List (List Nat) := [[574], [], [577], [], [101], [401, 101, 578, 579], [], [580], [], [], [582, 581, 583], [357, 584], [411, 353], [357, 585, 353], [513, 513, 586, 587], [588, 167, 246, 286, 246], [138], [24, 589], [590, 591], [24, 593, 596, 186, 595, 96], [28, 29, 100], [], [], [], [], [421, 597], [], [598], [], [599], [], [293, 600, 295, 294, 601], [423], [603, 604], [605], [334, 194], [207, 434, 434, 434, 606], [607, 608], [609], [610, 385], [441, 613, 614, 613, 615, 613, 616, 613, 617, 611, 612], [153, 153], [618], [619, 619], [622, 621, 620], [622, 623, 620], [622, 624, 620], [622, 625, 620], [622, 625, 620], [622, 625, 620], [622, 627, 622, 626], [622, 622, 627, 622, 626], [622, 627, 622, 627, 628, 620], [622, 622, 629, 319], [622, 627, 630, 620], [622, 627, 630, 620], [622, 627, 630, 620], [622, 627, 631], [627, 631], [622, 627, 627, 622, 632, 620], [622, 622, 622, 633, 620], [622, 622, 634, 320], [622, 635, 620], [627, 627, 157, 620], [622, 434, 319], [627, 627, 221, 627, 626], [622, 319, 622, 319], [319], [320], [622, 319], [207, 320], [320], [], [636], [636], [627, 627, 319], [627, 319], [323], [224, 320, 224, 320], [224, 320, 320], [627, 627, 627, 606, 221, 637], [627, 627, 638, 221, 637], [627, 279, 319], [627, 279, 319], [627, 279, 319], [627, 639, 319], [627, 435, 620], [622, 436, 637], [122, 620], [626], [640], [], [], [], [], [], [], [641, 642, 641, 78, 77], [], []]
theorem leadAt_400 : ((Tryz.prog.funcs.toList.drop 400).take 100).map (Tryz.prog.leadsTo) = lead_400 := by kernel_rfl
noncomputable def lead_500 : List (List Nat) := [[28, 29, 523], [28, 29, 520, 643, 644], [645, 645, 645, 645, 645, 645, 646], [], [], [647], [], [648, 647], [647, 158, 507], [647, 647, 647, 649, 650, 647, 647, 650, 651, 652, 653], [654, 655], [357, 656], [], [357, 657], [658, 354], [517, 660], [], [661, 101], [662, 663, 664], [665, 666, 667, 668, 669, 670, 671, 672, 519, 519], [], [442, 443, 673], [], [520, 643, 674, 675], [22, 435, 33], [369, 123], [369, 369], [], [534], [676, 676], [677, 678], [679, 679, 679, 680], [], [534, 534, 534], [619, 619], [534, 534], [534, 534, 534, 534], [], [681], [527, 260, 260], [682, 683, 660, 684, 540, 540, 684, 540, 540, 684, 685, 685, 682, 682, 684, 682], [260, 261, 686], [687, 688], [358], [545], [689], [687, 690], [], [257], [662, 33, 33, 691, 692], [663, 693], [28, 29, 694], [696, 695], [559], [697, 697], [677, 678], [698, 698, 698, 699], [], [559, 559, 559], [700, 700], [559, 559], [559, 559, 559, 559], [564, 565, 701, 702, 569, 701, 564, 701, 703, 701], [565, 564, 704, 569, 566], [568, 388], [384, 706, 388], [568, 705], [564, 568, 707, 708, 569, 564, 710, 569, 566, 568, 564, 703, 566], [711], [707], [571], [384, 163, 565, 568], [22], [712, 712, 713, 713], [575], [260, 576], [], [], [], [324], [], [510, 385], [357, 657, 357, 584], [357, 582, 714, 513, 357, 715, 245, 357, 657, 716, 245, 717, 513, 587, 244, 245], [718], [138], [413, 513, 413], [513, 353], [719], [416], [720], [592], [437, 417, 721, 722, 723, 724, 725, 724, 724, 510, 385, 724, 724, 724, 416, 724, 724, 726, 724, 416, 724, 726, 724, 416, 727], [594], [138], [], [728], [729, 730, 731, 732, 733, 734, 735, 736, 737, 738, 729, 739, 740, 737, 741], [742, 743, 426, 744, 426, 745, 746, 747, 748, 749, 744, 426, 750, 742, 426, 751, 744, 426, 752, 234, 753, 426], []]
theorem leadAt_500 : ((Tryz.prog.funcs.toList.drop 500).take 100).map (Tryz.prog.leadsTo) = lead_500 := by kernel_rfl
noncomputable def lead_600 : List (List Nat) := [[], [602], [138, 93, 754], [755, 756, 757, 758, 759, 760, 761, 762, 763, 764, 765, 766, 767, 768, 769, 770, 771, 772, 773, 774, 775, 776], [777], [299, 229, 300, 301], [407, 406, 407], [778], [316], [33, 33], [656, 265, 595], [779, 780, 781, 781, 782, 783], [779, 780, 781, 780, 780, 155, 782, 783], [784], [780, 785, 785, 783, 780], [783, 780], [783, 780], [783, 785, 780, 614], [786], [], [221, 626], [787, 788], [], [787, 789], [790, 787], [792, 155, 605, 207], [], [], [792, 793], [47], [792, 234, 234], [221, 234, 626], [792, 793, 794], [792, 125, 794], [795, 796, 796], [338, 791, 788, 797], [324, 221], [], [279, 407, 606], [334], [], [76], [], [798, 643], [798, 799, 800, 644, 801], [], [645, 645, 645, 645, 645, 645], [], [641], [195, 36, 802, 36, 37, 803, 804], [], [648, 641], [158, 436], [805, 649], [], [806], [], [], [659, 354], [807, 511, 659, 512], [], [218, 808], [153], [809, 810], [811, 811, 811, 812], [], [813, 813], [677, 678], [814, 814, 814, 815], [], [], [], [], [], [798, 816, 674, 675], [817, 818, 818, 816, 819, 817], [534, 534], [374], [], [680], [820, 820, 820], [821, 822], [540, 823, 682], [33], [], [], [], [370, 370, 371, 371], [], [], [], [824, 664, 824, 812, 824, 825], [663, 824, 824], [826, 827, 153], [694, 694], [], [], [559, 559], [699], [828, 828, 828]]
theorem leadAt_600 : ((Tryz.prog.funcs.toList.drop 600).take 100).map (Tryz.prog.leadsTo) = lead_600 := by kernel_rfl
noncomputable def lead_700 : List (List Nat) := [[], [707, 388], [565], [829, 569], [565, 701, 705, 705], [831, 830], [138, 831, 385], [711], [709], [832, 705, 833, 385, 568, 565], [565, 384, 706, 565], [384], [], [834, 713, 713], [835, 836, 837, 838, 245, 839, 245, 840, 841, 245], [244, 513, 244], [413, 587, 513, 715, 587], [357, 657, 842, 413, 513, 244, 587, 513, 413], [843, 385, 844, 35], [], [], [437, 437, 437], [845], [418], [846, 847], [], [848, 718], [849, 724, 850, 385], [], [851, 852, 853, 736, 729, 854, 729, 856, 855, 857, 858, 859, 736, 860, 736], [861, 729, 729, 862, 736, 863, 736, 853, 736, 864, 736, 865, 866, 736, 861], [859, 289, 123, 736, 867], [868, 729], [869, 425, 425], [869, 870], [859, 863, 736, 736, 777, 861, 870, 852, 863, 736, 777, 871, 736], [], [859], [736, 872, 291], [425, 226, 777, 861, 425], [859, 736], [873, 861, 736], [743, 426], [257, 234], [742], [874, 875, 742, 426], [742, 875, 427, 875, 427, 876], [877, 742, 875, 878, 426, 876], [744, 426, 877, 875, 878, 426, 426, 876], [426, 426, 875], [426, 426, 743, 426, 426], [875, 427, 426, 875, 426, 427], [287, 123, 879, 880, 37, 368], [881], [882, 882, 93, 24, 883, 884, 885, 138, 138, 138, 885], [93], [886, 887], [105, 888], [889, 890], [891, 289, 123, 867, 890], [889, 105, 890, 892, 893, 894, 895], [896], [889], [896], [889, 897, 896], [891, 863, 892], [896, 890], [898, 863, 777, 871, 892], [770], [], [], [892], [899], [890, 298], [899], [126, 890, 873, 892], [], [851], [], [], [233, 783], [783], [783], [], [783], [], [], [338], [900], [901], [791, 789, 788], [900, 901], [], [], [], [338], [791, 788, 902], [], [903, 521], []]
theorem leadAt_700 : ((Tryz.prog.funcs.toList.drop 700).take 100).map (Tryz.prog.leadsTo) = lead_700 := by kernel_rfl
noncomputable def lead_800 : List (List Nat) := [[800, 801], [904, 905, 906, 906], [49], [282, 907, 195, 36, 908, 909, 802, 908, 37], [910], [], [911, 912], [513, 807, 913, 513, 244, 587], [138, 153], [], [], [], [914, 125], [], [815], [915, 915, 915], [916, 917], [], [], [918, 919], [534], [], [], [31], [], [155, 812, 824], [], [], [559], [705], [920, 242], [510], [], [510], [921, 921, 921], [413, 513, 244, 513, 245], [922, 411, 922, 411, 245, 410, 412, 245], [411, 245, 412, 836, 411, 922, 412, 245, 413, 411, 715, 245], [413, 587, 244, 412, 244, 923, 411, 244, 245, 410, 412, 245], [357, 244], [412, 245, 410, 411, 411, 413, 245, 410, 412, 245], [413, 924, 925, 839, 244, 926, 927, 412, 412, 413, 926, 244, 412, 413, 926, 928, 929, 353], [587, 513, 244, 587, 413, 513], [], [158], [], [], [], [352], [], [726], [], [930, 931, 736], [932, 933], [872, 291, 934, 935, 936, 736, 859, 937, 855], [736], [863, 938, 851], [939, 859, 940, 871, 855], [859, 862, 736], [729], [865, 941, 736, 942, 943, 736, 944, 736, 729], [945], [863], [], [946, 100, 106, 596, 186, 595, 106, 102, 108, 947], [421, 729, 852], [941, 948, 138], [], [], [729, 897, 736], [421, 425, 226], [863, 863, 949, 851, 950, 950, 863, 863, 951, 863, 863, 951], [736, 952], [953, 932, 954, 777, 955, 956], [], [877, 426, 957], [], [], [427, 876], [234, 36, 802, 36, 802], [958], [304], [545], [138], [105, 743], [126, 545], [105, 959, 960], [], [961, 962, 963], [], [421], [964], [961], [963, 963, 862], [863, 853, 864], [965, 866, 892], [421], [863, 966], [967, 931], [889]]
theorem leadAt_800 : ((Tryz.prog.funcs.toList.drop 800).take 100).map (Tryz.prog.leadsTo) = lead_800 := by kernel_rfl
noncomputable def lead_900 : List (List Nat) := [[968, 968, 968, 968], [968, 968, 968], [968, 968, 968, 968, 968], [], [816, 819], [799, 969], [799, 969], [], [49, 970], [], [971], [], [], [357, 163, 972, 353, 436, 973, 974], [795, 975], [], [], [976], [], [977], [244], [], [244, 245, 410], [972], [357, 413, 411, 413], [357, 584, 357, 244], [357, 584, 244, 244, 244], [413, 412, 244, 513, 926], [412, 244, 412, 413, 411, 244, 357, 584, 411], [357, 584, 412, 357, 413, 412, 839, 412, 839, 412, 413, 357, 584, 353, 353], [945], [978, 851], [946], [], [736, 859, 736, 736, 421, 422, 423, 979, 729], [936, 736, 729, 897, 736, 729, 729], [980, 981], [980, 982, 951, 950, 951, 950, 983, 983, 777, 984], [222, 151], [729, 897, 736, 950, 950, 951], [], [863], [], [], [941, 105], [], [985, 28, 986, 29, 29], [987, 988], [803, 989], [224, 151], [863], [851, 851], [945, 962, 736, 736, 729], [990, 991, 992, 993, 994, 994, 995, 996, 996, 997, 998, 999, 1000, 1001, 1002, 1003, 1004, 1004, 1005, 1006, 1007], [], [1008], [955], [877], [369, 369, 879, 525, 879, 1009, 1010, 369, 879, 1011, 879, 1013, 1012, 369, 369, 369, 879, 1011, 879, 879, 879, 1014, 879, 1014, 879, 525, 879, 369, 879, 1015, 1016], [851, 959, 959, 1017, 1018, 1018, 959, 1019], [1020, 889], [], [1021, 106], [959, 960], [], [890, 963, 898], [863], [961], [], [], [1022], [1023, 1024], [], [357, 657, 716, 1025, 513, 513, 244, 587, 1025], [357, 657, 842, 513, 1026, 513, 1026, 513, 513, 244, 587, 513, 413, 513, 1027, 353], [796], [1028, 1028, 1028], [1029, 1029, 1029], [946, 218, 1030], [], [], [326], [950, 863, 950, 1031, 1021, 983, 983, 1032], [851], [863, 950, 1034, 1033, 851], [], [1036, 1035], [1030, 1037, 185], [947], [], [1039, 1038], [1040], [1041], [1042], [1043], [1039, 1044], [1045], [1046], [1047], [1048]]
theorem leadAt_900 : ((Tryz.prog.funcs.toList.drop 900).take 100).map (Tryz.prog.leadsTo) = lead_900 := by kernel_rfl
noncomputable def lead_1000 : List (List Nat) := [[1049], [1039, 1050], [1051], [1052], [1053], [1054], [1055], [1056], [1057, 962, 1058, 1008], [1012, 369, 123, 879], [369, 879, 1011, 879, 1011, 879], [880], [1059, 1060], [], [369], [879, 1011, 879, 1011, 879], [1061, 1061, 1062, 879, 1014, 879, 369, 123, 1063, 879, 879, 1014, 1063, 879, 369, 1014, 1062, 1061, 879, 1061, 879, 1014, 879, 1014, 1061, 1062, 879, 879, 1061, 1014, 1063, 879], [1018, 959, 959], [959], [959, 1018, 936, 959, 959, 959, 936, 1018], [1064, 889, 897, 888, 889, 1065, 887], [932, 420], [], [], [], [357, 385, 353, 413], [], [513, 513, 586, 587, 244, 715, 587], [], [], [1066, 1067, 101], [950, 863, 962, 931], [1021, 1068, 951, 951, 951, 777], [326, 327, 329, 151], [1021, 1068], [], [], [1069, 100, 518, 1070, 1071, 1072, 1073], [932, 1074], [], [1075, 420, 1075, 1076], [1077, 1078, 1079, 978, 851, 966, 1079, 1074, 1080, 1074], [1081, 1074], [1082, 1083, 1074], [1084, 1074], [1085, 1074], [1086, 1074, 1087, 1074, 863, 1079, 1074], [863, 1080, 1074], [863, 1088, 1074], [1089, 1090, 1074], [1091, 1074, 1089, 1092, 1074], [1093, 1074], [1094, 1074], [1095, 1096, 1074], [1097, 777, 1074], [1098, 777], [1089, 1089, 1099, 1044], [421, 941, 942, 943, 944, 1008], [863, 218], [], [1100, 1012], [], [], [369, 369, 369, 369, 123], [889, 897, 887, 950], [898, 889, 856, 891, 940, 871, 891, 1101, 891, 891, 862, 1102, 853, 960, 891, 937, 891, 1103, 298], [986, 1030, 1104, 1066], [100, 1105], [946, 185], [256, 1107, 1106], [], [662, 663, 812], [158], [1108, 1110, 1111, 1109], [], [1113], [28, 29, 138, 986, 185], [28, 29, 147, 1114], [1115, 1077, 1080, 1068, 689], [1116], [1116], [946, 100, 1105, 103, 988], [946, 111, 1117], [946, 112, 1117], [946, 1069], [28, 29], [1116], [1116], [946, 153, 1037, 988, 988, 988], [257, 1074], [946, 1118], [946], [946, 986, 1118, 1120, 1119, 1121, 947], [1122, 1123, 1124, 1079, 1125, 1126], [1128, 1127], [1130], [1130], [1127, 1131], [1122, 1123, 1132, 1134, 1133, 1126], [946, 114]]
theorem leadAt_1000 : ((Tryz.prog.funcs.toList.drop 1000).take 100).map (Tryz.prog.leadsTo) = lead_1000 := by kernel_rfl
noncomputable def lead_1100 : List (List Nat) := [[], [897, 950, 950, 950, 951], [965, 941, 942, 943, 944, 960, 959, 960], [421, 422, 423, 1136, 960], [], [95, 154], [], [], [], [1137], [185, 184], [1112, 1030], [149, 29, 216], [946, 1139, 1138, 1141, 1140], [], [946, 1073], [946, 185, 1142], [185, 947], [105], [1143], [], [1144, 1119], [1068, 1077, 1145], [588, 1132], [1146, 1077, 1079, 1147, 1147], [1079, 1148, 1079], [1149], [1122, 1123, 1132, 1150, 1151, 1133, 1126], [1129, 864], [978], [1152, 1127], [], [218], [1124, 1079, 1125], [978, 1135], [], [], [], [1035], [], [1143], [], [1154, 1155, 1156, 1157], [], [1121], [932, 420], [978, 1115, 1158, 1158], [978], [1080], [1077, 28, 29], [106], [], [1153], [946, 110, 947], [1073, 988, 988], [1073, 988, 988], [1073, 1159, 1160, 1161, 1160, 1161, 988, 988, 988, 988, 988], [988], [1115, 1068, 689, 1077, 1080, 1068, 689], [1162], [], [442, 443, 673], [149, 29, 177, 360], [], [], [], [], [], [], [], [], [], [], [], [], [], [], [], [], [], [], [], [], [1185], [], [396], [572, 385], [1189, 1188, 572, 385], [], [], [729, 226], [], [], [], [], [946, 1118, 1030], [], [], [], []]
theorem leadAt_1100 : ((Tryz.prog.funcs.toList.drop 1100).take 100).map (Tryz.prog.leadsTo) = lead_1100 := by kernel_rfl
noncomputable def lead_1200 : List (List Nat) := [[], [], [], [], [], [], [], [], [], [], [], [], [], [], [], [], [], [], [], [], [], [], [], [], [], [], [], [], [], [], [], [], [493, 504, 504]]
theorem leadAt_1200 : ((Tryz.prog.funcs.toList.drop 1200).take 33).map (Tryz.prog.leadsTo) = lead_1200 := by kernel_rfl
noncomputable def lead : List (List Nat) := lead_0 ++ (lead_100 ++ (lead_200 ++ (lead_300 ++ (lead_400 ++ (lead_500 ++ (lead_600 ++ (lead_700 ++ (lead_800 ++ (lead_900 ++ (lead_1000 ++ (lead_1100 ++ (lead_1200 ++ []))))))))))))
theorem lead_eq : Tryz.prog.funcs.toList.map (Tryz.prog.leadsTo) = lead := by
  have h0 : Tryz.prog.funcs.toList.map (Tryz.prog.leadsTo) = (Tryz.prog.funcs.toList.drop 0).map (Tryz.prog.leadsTo) := rfl
  rw [h0]
  rw [map_part _ _ 0 100, leadAt_0]
  rw [map_part _ _ 100 100, leadAt_100]
  rw [map_part _ _ 200 100, leadAt_200]
  rw [map_part _ _ 300 100, leadAt_300]
  rw [map_part _ _ 400 100, leadAt_400]
  rw [map_part _ _ 500 100, leadAt_500]
  rw [map_part _ _ 600 100, leadAt_600]
  rw [map_part _ _ 700 100, leadAt_700]
  rw [map_part _ _ 800 100, leadAt_800]
  rw [map_part _ _ 900 100, leadAt_900]
  rw [map_part _ _ 1000 100, leadAt_1000]
  rw [map_part _ _ 1100 100, leadAt_1100]
  rw [map_part _ _ 1200 33, leadAt_1200]
  rw [List.drop_eq_nil_of_le (show Tryz.prog.funcs.toList.length ≤ 1200 + 33 by rw [funcs_size]; exact Nat.le_refl _)]
  rfl
noncomputable def place_0 : List (Option String) := [some Tryz.f0.name, some Tryz.f1.name, none, none, none, none, none, none, none, none, none, none, none, none, none, none, none, none, none, none, none, none, none, none, none, none, none, none, none, none, none, none, none, none, none, none, none, none, some Tryz.f38.name, some Tryz.f39.name, none, none, none, none, none, none, none, none, none, none, some Tryz.f50.name, some Tryz.f51.name, some Tryz.f52.name, some Tryz.f53.name, some Tryz.f54.name, some Tryz.f55.name, some Tryz.f56.name, some Tryz.f57.name, none, none, none, none, none, none, none, none, none, none, none, none, none, none, none, none, none, none, none, some Tryz.f77.name, none, none, none, none, none, none, some Tryz.f84.name, some Tryz.f85.name, some Tryz.f86.name, some Tryz.f87.name, some Tryz.f88.name, some Tryz.f89.name, some Tryz.f90.name, some Tryz.f91.name, none, none, none, none, none, none, none, none]
theorem placeAt_0 : ((Tryz.prog.funcs.toList.drop 0).take 100).map (fun fn => if fn.ours || fn.body.isNone || fn.name == "runtime.NumGoroutine" then some fn.name else none) = place_0 := by kernel_rfl
noncomputable def place_100 : List (Option String) := [none, none, none, none, none, none, none, none, none, none, none, none, none, none, none, none, none, none, none, none, none, none, none, none, none, none, none, none, none, none, some Tryz.f130.name, some Tryz.f131.name, none, none, none, none, none, none, none, none, none, none, none, none, none, none, none, none, none, none, none, none, none, none, none, none, none, none, none, none, none, none, none, none, none, none, none, none, none, none, none, none, none, none, none, none, none, none, none, none, none, none, none, none, none, none, none, none, none, none, none, none, none, none, none, none, none, none, none, none]
theorem placeAt_100 : ((Tryz.prog.funcs.toList.drop 100).take 100).map (fun fn => if fn.ours || fn.body.isNone || fn.name == "runtime.NumGoroutine" then some fn.name else none) = place_100 := by kernel_rfl
noncomputable def place_200 : List (Option String) := [none, none, none, none, none, none, none, none, none, none, none, none, none, none, none, none, none, none, none, none, none, none, none, none, none, none, none, none, none, none, none, none, none, none, none, none, none, none, none, none, none, none, none, none, none, none, none, none, none, none, none, none, none, none, none, none, none, none, none, none, none, none, none, none, none, none, none, none, none, none, none, none, none, none, none, none, none, none, none, none, none, none, none, none, none, none, none, none, none, none, none, none, none, none, none, none, none, none, none, none]
theorem placeAt_200 : ((Tryz.prog.funcs.toList.drop 200).take 100).map (fun fn => if fn.ours || fn.body.isNone || fn.name == "runtime.NumGoroutine" then some fn.name else none) = place_200 := by kernel_rfl
noncomputable def place_300 : List (Option String) := [none, none, none, some Tryz.f303.name, none, none, none, none, none, none, none, none, none, none, none, none, none, none, none, none, none, none, none, none, none, none, none, none, none, none, some Tryz.f330.name, some Tryz.f331.name, some Tryz.f332.name, none, none, none, none, none, none, none, none, none, none, none, none, none, none, none, none, none, none, none, none, none, none, none, none, none, none, none, none, none, none, none, none, none, none, none, none, none, none, none, none, none, none, none, none, none, none, none, none, none, none, none, none, none, none, none, none, none, none, none, none, none, none, none, none, none, none, none]
theorem placeAt_300 : ((Tryz.prog.funcs.toList.drop 300).take 100).map (fun fn => if fn.ours || fn.body.isNone || fn.name == "runtime.NumGoroutine" then some fn.name else none) = place_300 := by kernel_rfl
noncomputable def place_400 : List (Option String) := [none, none, none, none, none, none, none, none, some Tryz.f408.name, none, none, none, none, none, none, none, none, none, none, none, none, none, none, none, none, none, none, none, none, none, none, none, none, none, none, none, none, none, none, none, none, none, none, none, none, none, none, none, none, none, none, none, none, none, none, none, none, none, none, none, none, none, none, none, none, none, none, none, none, none, none, none, none, none, none, none, none, none, none, none, none, none, none, none, none, none, none, none, none, none, none, none, none, some Tryz.f493.name, some Tryz.f494.name, some Tryz.f495.name, none, none, none, none]
theorem placeAt_400 : ((Tryz.prog.funcs.toList.drop 400).take 100).map (fun fn => if fn.ours || fn.body.isNone || fn.name == "runtime.NumGoroutine" then some fn.name else none) = place_400 := by kernel_rfl
noncomputable def place_500 : List (Option String) := [none, none, none, none, none, none, none, none, none, none, none, none, none, none, none, none, none, none, none, none, none, none, none, none, none, none, none, none, none, none, none, none, none, none, none, none, none, none, none, none, none, none, none, none, none, none, none, none, none, none, none, none, none, none, none, none, none, none, none, none, none, none, none, none, none, none, none, none, none, none, none, none, none, none, none, none, none, none, none, none, none, none, none, none, none, none, none, none, none, none, none, none, none, none, none, none, none, none, none, none]
theorem placeAt_500 : ((Tryz.prog.funcs.toList.drop 500).take 100).map (fun fn => if fn.ours || fn.body.isNone || fn.name == "runtime.NumGoroutine" then some fn.name else none) = place_500 := by kernel_rfl
noncomputable def place_600 : List (Option String) := [none, none, none, none, none, none, none, none, none, none, none, none, none, none, none, none, none, none, none, none, none, none, none, none, none, none, none, none, none, none, none, none, none, none, none, none, none, none, none, none, none, none, none, none, none, none, none, none, none, none, none, none, none, none, none, none, none, none, none, none, none, none, none, none, none, none, none, none, none, none, none, none, none, none, none, none, none, none, none, none, none, none, none, none, none, none, none, none, none, none, none, none, none, none, none, none, none, none, none, none]
theorem placeAt_600 : ((Tryz.prog.funcs.toList.drop 600).take 100).map (fun fn => if fn.ours || fn.body.isNone || fn.name == "runtime.NumGoroutine" then some fn.name else none) = place_600 := by kernel_rfl
noncomputable def place_700 : List (Option String) := [none, none, none, none, none, none, none, none, none, none, none, none, none, none, none, none, none, none, none, none, none, none, none, none, none, none, none, none, none, none, none, none, none, none, none, none, none, none, none, none, none, none, none, none, none, none, none, none, none, none, none, none, none, none, none, none, none, none, none, none, none, none, none, none, none, none, none, none, none, none, none, none, none, none, none, none, none, none, none, none, none, none, none, none, none, none, some Tryz.f786.name, none, none, none, none, none, none, none, none, none, none, none, none, none]
theorem placeAt_700 : ((Tryz.prog.funcs.toList.drop 700).take 100).map (fun fn => if fn.ours || fn.body.isNone || fn.name == "runtime.NumGoroutine" then some fn.name else none) = place_700 := by kernel_rfl
noncomputable def place_800 : List (Option String) := [none, none, none, none, none, none, none, none, none, none, none, none, none, none, none, none, none, none, none, none, none, none, none, none, none, none, none, none, none, none, none, none, none, none, none, none, none, none, none, none, none, none, none, none, none, none, none, none, none, none, none, none, none, none, none, none, none, none, none, none, none, none, none, none, none, none, none, none, none, none, none, none, none, none, none, none, none, none, none, none, none, none, none, none, none, none, none, none, none, none, none, none, none, none, none, none, none, none, none, none]
theorem placeAt_800 : ((Tryz.prog.funcs.toList.drop 800).take 100).map (fun fn => if fn.ours || fn.body.isNone || fn.name == "runtime.NumGoroutine" then some fn.name else none) = place_800 := by kernel_rfl
noncomputable def place_900 : List (Option String) := [none, none, none, none, none, none, none, none, none, none, none, none, none, none, none, none, some Tryz.f916.name, none, some Tryz.f918.name, none, none, none, none, none, none, none, none, none, none, none, none, none, none, none, none, none, none, none, none, none, none, none, none, none, none, none, none, none, none, none, none, none, none, none, none, none, none, none, none, none, none, none, none, none, none, none, none, none, none, none, none, none, none, none, none, none, none, none, none, none, none, none, none, none, none, none, none, none, none, none, none, none, none, none, none, none, none, none, none, none]
theorem placeAt_900 : ((Tryz.prog.funcs.toList.drop 900).take 100).map (fun fn => if fn.ours || fn.body.isNone || fn.name == "runtime.NumGoroutine" then some fn.name else none) = place_900 := by kernel_rfl
noncomputable def place_1000 : List (Option String) := [none, none, none, none, none, none, none, none, none, none, none, none, none, none, none, none, none, none, none, none, none, none, none, none, none, none, none, none, none, none, none, none, none, none, none, none, none, none, none, none, none, none, none, none, none, none, none, none, none, none, none, none, none, none, none, none, none, none, none, none, none, none, none, none, none, none, none, none, none, none, none, none, none, none, none, none, none, none, none, none, none, none, none, none, none, none, none, none, none, none, none, none, none, none, none, none, none, none, none, none]
theorem placeAt_1000 : ((Tryz.prog.funcs.toList.drop 1000).take 100).map (fun fn => if fn.ours || fn.body.isNone || fn.name == "runtime.NumGoroutine" then some fn.name else none) = place_1000 := by kernel_rfl
noncomputable def place_1100 : List (Option String) := [none, none, none, none, none, none, none, none, none, none, none, none, none, none, none, none, none, none, none, none, none, none, none, none, none, none, none, none, none, none, none, none, none, none, none, none, none, none, none, none, none, none, none, none, none, none, none, none, none, none, none, none, none, none, none, none, none, none, none, none, none, none, none, some Tryz.f1163.name, some Tryz.f1164.name, some Tryz.f1165.name, some Tryz.f1166.name, some Tryz.f1167.name, some Tryz.f1168.name, some Tryz.f1169.name, some Tryz.f1170.name, some Tryz.f1171.name, some Tryz.f1172.name, some Tryz.f1173.name, some Tryz.f1174.name, some Tryz.f1175.name, some Tryz.f1176.name, some Tryz.f1177.name, some Tryz.f1178.name, some Tryz.f1179.name, some Tryz.f1180.name, some Tryz.f1181.name, some Tryz.f1182.name, none, none, none, none, none, none, none, none, some Tryz.f1191.name, some Tryz.f1192.name, some Tryz.f1193.name, some Tryz.f1194.name, none, some Tryz.f1196.name, some Tryz.f1197.name, some Tryz.f1198.name, some Tryz.f1199.name]
theorem placeAt_1100 : ((Tryz.prog.funcs.toList.drop 1100).take 100).map (fun fn => if fn.ours || fn.body.isNone || fn.name == "runtime.NumGoroutine" then some fn.name else none) = place_1100 := by kernel_rfl
noncomputable def place_1200 : List (Option String) := [some Tryz.f1200.name, some Tryz.f1201.name, none, some Tryz.f1203.name, some Tryz.f1204.name, some Tryz.f1205.name, some Tryz.f1206.name, some Tryz.f1207.name, some Tryz.f1208.name, some Tryz.f1209.name, some Tryz.f1210.name, some Tryz.f1211.name, some Tryz.f1212.name, some Tryz.f1213.name, some Tryz.f1214.name, some Tryz.f1215.name, some Tryz.f1216.name, some Tryz.f1217.name, some Tryz.f1218.name, some Tryz.f1219.name, some Tryz.f1220.name, some Tryz.f1221.name, some Tryz.f1222.name, some Tryz.f1223.name, some Tryz.f1224.name, some Tryz.f1225.name, some Tryz.f1226.name, some Tryz.f1227.name, some Tryz.f1228.name, some Tryz.f1229.name, some Tryz.f1230.name, some Tryz.f1231.name, none]
theorem placeAt_1200 : ((Tryz.prog.funcs.toList.drop 1200).take 33).map (fun fn => if fn.ours || fn.body.isNone || fn.name == "runtime.NumGoroutine" then some fn.name else none) = place_1200 := by kernel_rfl
noncomputable def place : List (Option String) := place_0 ++ (place_100 ++ (place_200 ++ (place_300 ++ (place_400 ++ (place_500 ++ (place_600 ++ (place_700 ++ (place_800 ++ (place_900 ++ (place_1000 ++ (place_1100 ++ (place_1200 ++ []))))))))))))
theorem place_eq : Tryz.prog.funcs.toList.map (fun fn => if fn.ours || fn.body.isNone || fn.name == "runtime.NumGoroutine" then some fn.name else none) = place := by
  have h0 : Tryz.prog.funcs.toList.map (fun fn => if fn.ours || fn.body.isNone || fn.name == "runtime.NumGoroutine" then some fn.name else none) = (Tryz.prog.funcs.toList.drop 0).map (fun fn => if fn.ours || fn.body.isNone || fn.name == "runtime.NumGoroutine" then some fn.name else none) := rfl
  rw [h0]
  rw [map_part _ _ 0 100, placeAt_0]
  rw [map_part _ _ 100 100, placeAt_100]
  rw [map_part _ _ 200 100, placeAt_200]
  rw [map_part _ _ 300 100, placeAt_300]
  rw [map_part _ _ 400 100, placeAt_400]
  rw [map_part _ _ 500 100, placeAt_500]
  rw [map_part _ _ 600 100, placeAt_600]
  rw [map_part _ _ 700 100, placeAt_700]
  rw [map_part _ _ 800 100, placeAt_800]
  rw [map_part _ _ 900 100, placeAt_900]
  rw [map_part _ _ 1000 100, placeAt_1000]
  rw [map_part _ _ 1100 100, placeAt_1100]
  rw [map_part _ _ 1200 33, placeAt_1200]
  rw [List.drop_eq_nil_of_le (show Tryz.prog.funcs.toList.length ≤ 1200 + 33 by rw [funcs_size]; exact Nat.le_refl _)]
  rfl
noncomputable def named_0 : List (List Nat) := [[], [], [], [], [], [], [], [], [], [], [], [], [], [], [], [], [], [], [], [], [], [], [], [], [], [], [], [], [], [], [], [], [], [], [], [], [], [], [], [], [], [], [], [], [], [], [0, 0, 0], [], [], [], [], [], [], [], [], [], [], [], [], [], [], [], [], [], [], [], [], [], [], [], [], [], [], [], [], [], [], [], [], [], [], [1], [], [], [], [], [], [], [], [], [], [], [], [], [], [], [], [], [], []]
theorem namedAt_0 : ((Tryz.prog.funcs.toList.drop 0).take 100).map (fun fn => fn.body.elim [] Code.globalsNamed) = named_0 := by kernel_rfl
noncomputable def named_100 : List (List Nat) := [[], [], [], [], [], [], [], [], [], [], [], [], [], [], [], [], [], [], [], [], [], [], [], [], [], [], [], [], [], [], [], [], [], [], [], [], [], [], [], [], [], [], [], [], [], [], [], [], [], [], [], [], [], [], [], [], [], [], [], [], [], [], [], [], [], [], [], [], [], [], [], [], [], [], [], [], [], [], [], [], [], [], [], [], [], [], [], [], [], [], [], [], [], [], [], [], [], [], [], []]
theorem namedAt_100 : ((Tryz.prog.funcs.toList.drop 100).take 100).map (fun fn => fn.body.elim [] Code.globalsNamed) = named_100 := by kernel_rfl
noncomputable def named_200 : List (List Nat) := [[], [], [], [], [], [2], [3], [], [], [], [], [], [], [], [], [], [], [], [], [], [], [], [], [], [], [], [4], [], [], [], [], [], [], [], [], [], [], [], [], [], [], [], [], [], [], [], [], [], [], [], [], [], [], [], [], [], [], [], [], [], [], [], [], [], [], [], [], [], [], [], [], [], [], [], [], [], [], [], [], [], [], [], [], [], [], [], [], [], [], [], [], [], [], [], [], [], [], [], [], []]
theorem namedAt_200 : ((Tryz.prog.funcs.toList.drop 200).take 100).map (fun fn => fn.body.elim [] Code.globalsNamed) = named_200 := by kernel_rfl
noncomputable def named_300 : List (List Nat) := [[], [], [], [], [], [], [], [], [], [], [], [], [], [], [], [], [], [], [], [], [], [], [], [], [], [], [], [], [], [], [], [], [], [], [], [], [], [], [], [], [], [], [], [], [5], [6], [], [], [], [], [], [], [], [], [], [], [], [], [], [], [], [], [], [], [], [], [], [], [], [], [], [], [], [], [], [], [], [], [], [], [], [], [], [], [], [], [], [], [], [], [], [], [], [], [], [], [], [], [], []]
theorem namedAt_300 : ((Tryz.prog.funcs.toList.drop 300).take 100).map (fun fn => fn.body.elim [] Code.globalsNamed) = named_300 := by kernel_rfl
noncomputable def named_400 : List (List Nat) := [[], [], [], [], [], [], [], [], [], [7, 8], [], [], [], [], [], [], [], [], [], [], [], [], [], [], [], [], [], [], [], [], [], [], [], [], [], [], [], [], [], [], [], [], [], [], [], [], [], [], [], [], [], [], [], [], [], [], [], [], [], [], [], [], [], [], [], [], [], [], [], [], [], [], [], [], [], [], [], [], [], [], [], [], [], [], [], [], [], [], [], [], [], [], [], [], [], [], [], [], [], []]
theorem namedAt_400 : ((Tryz.prog.funcs.toList.drop 400).take 100).map (fun fn => fn.body.elim [] Code.globalsNamed) = named_400 := by kernel_rfl
noncomputable def named_500 : List (List Nat) := [[], [], [], [], [], [], [], [], [], [], [9, 9, 9, 9], [], [], [], [], [], [], [], [], [], [], [], [], [], [], [], [], [], [], [], [], [], [], [], [], [], [], [], [], [], [], [], [], [], [], [], [], [], [], [], [], [], [], [], [], [], [], [], [], [], [], [], [], [], [], [], [], [], [], [], [], [], [], [], [], [], [], [], [], [], [], [], [], [], [], [], [], [], [], [], [], [], [], [], [], [], [], [], [], []]
theorem namedAt_500 : ((Tryz.prog.funcs.toList.drop 500).take 100).map (fun fn => fn.body.elim [] Code.globalsNamed) = named_500 := by kernel_rfl
noncomputable def named_600 : List (List Nat) := [[], [], [], [], [], [], [], [], [], [], [], [], [], [], [], [], [], [], [], [], [], [], [], [], [], [], [], [], [], [], [], [], [], [], [], [], [], [], [], [], [], [], [], [], [], [], [], [], [], [], [], [], [], [], [], [10], [], [], [], [], [], [], [], [], [], [], [], [], [], [], [], [], [], [], [], [], [], [], [], [], [], [], [], [], [], [], [], [], [], [], [], [], [], [], [], [], [], [], [], []]
theorem namedAt_600 : ((Tryz.prog.funcs.toList.drop 600).take 100).map (fun fn => fn.body.elim [] Code.globalsNamed) = named_600 := by kernel_rfl
noncomputable def named_700 : List (List Nat) := [[], [], [], [], [], [], [], [], [], [], [], [], [], [], [], [], [], [], [], [], [], [], [], [], [], [], [], [], [], [], [], [], [], [], [], [], [], [], [], [], [], [], [], [], [], [], [], [], [], [], [], [], [], [], [], [], [], [], [], [], [], [], [], [], [], [], [], [], [], [], [], [], [], [], [], [], [], [], [], [], [], [], [], [], [], [], [], [], [], [], [], [], [], [], [], [], [], [], [], []]
theorem namedAt_700 : ((Tryz.prog.funcs.toList.drop 700).take 100).map (fun fn => fn.body.elim [] Code.globalsNamed) = named_700 := by kernel_rfl
noncomputable def named_800 : List (List Nat) := [[], [], [], [], [], [], [], [], [], [], [], [], [], [], [], [], [], [], [], [], [], [], [], [], [], [], [], [], [], [], [], [], [], [], [], [], [], [], [], [], [], [], [], [], [], [], [], [], [], [], [], [], [], [], [], [], [], [], [], [], [], [], [], [], [], [], [], [], [], [], [], [], [], [], [], [], [], [], [], [], [], [], [], [], [], [], [], [], [], [], [], [], [], [], [], [], [], [], [], []]
theorem namedAt_800 : ((Tryz.prog.funcs.toList.drop 800).take 100).map (fun fn => fn.body.elim [] Code.globalsNamed) = named_800 := by kernel_rfl
noncomputable def named_900 : List (List Nat) := [[], [], [], [], [], [], [], [], [], [], [11], [], [], [], [], [], [], [], [], [], [], [], [], [], [], [], [], [], [], [], [], [], [], [], [], [], [], [], [], [], [], [], [], [], [], [], [], [], [], [], [], [], [], [], [], [], [], [], [], [], [], [], [], [], [], [], [], [], [], [], [], [], [], [], [], [], [], [], [], [], [], [], [], [], [], [], [], [], [], [], [], [], [], [], [], [], [], [], [], []]
theorem namedAt_900 : ((Tryz.prog.funcs.toList.drop 900).take 100).map (fun fn => fn.body.elim [] Code.globalsNamed) = named_900 := by kernel_rfl
noncomputable def named_1000 : List (List Nat) := [[], [], [], [], [], [], [], [], [], [], [], [], [], [], [], [], [], [], [], [], [], [], [], [], [], [], [], [], [], [], [], [], [], [], [], [], [], [], [], [], [], [], [], [], [], [], [], [], [], [], [], [], [], [], [], [], [], [], [], [], [], [], [], [], [], [], [], [], [], [], [], [], [], [], [], [], [], [], [], [], [], [], [], [], [], [], [], [], [], [], [], [], [], [], [], [], [], [], [], []]
theorem namedAt_1000 : ((Tryz.prog.funcs.toList.drop 1000).take 100).map (fun fn => fn.body.elim [] Code.globalsNamed) = named_1000 := by kernel_rfl
noncomputable def named_1100 : List (List Nat) := [[], [], [], [], [], [], [], [], [], [], [], [], [], [], [], [], [], [], [], [], [], [], [], [], [], [], [], [], [], [], [], [], [], [], [], [], [], [], [], [], [], [], [], [], [], [], [], [], [], [], [], [], [], [], [], [], [], [], [], [], [], [], [], [], [], [], [], [], [], [], [], [], [], [], [], [], [], [], [], [], [], [], [], [], [], [], [], [], [], [], [], [], [], [], [], [], [], [], [], []]
theorem namedAt_1100 : ((Tryz.prog.funcs.toList.drop 1100).take 100).map (fun fn => fn.body.elim [] Code.globalsNamed) = named_1100 := by kernel_rfl
noncomputable def named_1200 : List (List Nat) := [[], [], [], [], [], [], [], [], [], [], [], [], [], [], [], [], [], [], [], [], [], [], [], [], [], [], [], [], [], [], [], [], [2, 3, 1, 8, 4, 6, 5, 12, 12, 10, 9]]
theorem namedAt_1200 : ((Tryz.prog.funcs.toList.drop 1200).take 33).map (fun fn => fn.body.elim [] Code.globalsNamed) = named_1200 := by kernel_rfl
noncomputable def named : List (List Nat) := named_0 ++ (named_100 ++ (named_200 ++ (named_300 ++ (named_400 ++ (named_500 ++ (named_600 ++ (named_700 ++ (named_800 ++ (named_900 ++ (named_1000 ++ (named_1100 ++ (named_1200 ++ []))))))))))))
theorem named_eq : Tryz.prog.funcs.toList.map (fun fn => fn.body.elim [] Code.globalsNamed) = named := by
  have h0 : Tryz.prog.funcs.toList.map (fun fn => fn.body.elim [] Code.globalsNamed) = (Tryz.prog.funcs.toList.drop 0).map (fun fn => fn.body.elim [] Code.globalsNamed) := rfl
  rw [h0]
  rw [map_part _ _ 0 100, namedAt_0]
  rw [map_part _ _ 100 100, namedAt_100]
  rw [map_part _ _ 200 100, namedAt_200]
  rw [map_part _ _ 300 100, namedAt_300]
  rw [map_part _ _ 400 100, namedAt_400]
  rw [map_part _ _ 500 100, namedAt_500]
  rw [map_part _ _ 600 100, namedAt_600]
  rw [map_part _ _ 700 100, namedAt_700]
  rw [map_part _ _ 800 100, namedAt_800]
  rw [map_part _ _ 900 100, namedAt_900]
  rw [map_part _ _ 1000 100, namedAt_1000]
  rw [map_part _ _ 1100 100, namedAt_1100]
  rw [map_part _ _ 1200 33, namedAt_1200]
  rw [List.drop_eq_nil_of_le (show Tryz.prog.funcs.toList.length ≤ 1200 + 33 by rw [funcs_size]; exact Nat.le_refl _)]
  rfl
noncomputable def reads_0 : List (Option String) := [none, none, none, none, none, none, none, none, none, none, none, none, none, none, none, none, none, none, none, none, none, none, none, none, none, none, none, none, none, none, none, none, none, none, none, none, none, none, none, none, none, none, none, none, none, none, none, none, none, none, none, none, none, none, none, none, none, none, none, none, none, none, none, none, none, none, none, none, none, none, none, none, none, none, none, none, none, entryReads.lookup Tryz.f77.name, none, none, none, none, none, none, none, none, none, none, none, none, none, none, none, none, none, none, none, none, none, none]
theorem readsAt_0 : ((Tryz.prog.funcs.toList.drop 0).take 100).map (fun fn => if fn.body.isNone then entryReads.lookup fn.name else none) = reads_0 := by kernel_rfl
noncomputable def reads_100 : List (Option String) := [none, none, none, none, none, none, none, none, none, none, none, none, none, none, none, none, none, none, none, none, none, none, none, none, none, none, none, none, none, none, none, none, none, none, none, none, none, none, none, none, none, none, none, none, none, none, none, none, none, none, none, none, none, none, none, none, none, none, none, none, none, none, none, none, none, none, none, none, none, none, none, none, none, none, none, none, none, none, none, none, none, none, none, none, none, none, none, none, none, none, none, none, none, none, none, none, none, none, none, none]
theorem readsAt_100 : ((Tryz.prog.funcs.toList.drop 100).take 100).map (fun fn => if fn.body.isNone then entryReads.lookup fn.name else none) = reads_100 := by kernel_rfl
noncomputable def reads_200 : List (Option String) := [none, none, none, none, none, none, none, none, none, none, none, none, none, none, none, none, none, none, none, none, none, none, none, none, none, none, none, none, none, none, none, none, none, none, none, none, none, none, none, none, none, none, none, none, none, none, none, none, none, none, none, none, none, none, none, none, none, none, none, none, none, none, none, none, none, none, none, none, none, none, none, none, none, none, none, none, none, none, none, none, none, none, none, none, none, none, none, none, none, none, none, none, none, none, none, none, none, none, none, none]
theorem readsAt_200 : ((Tryz.prog.funcs.toList.drop 200).take 100).map (fun fn => if fn.body.isNone then entryReads.lookup fn.name else none) = reads_200 := by kernel_rfl
noncomputable def reads_300 : List (Option String) := [none, none, none, none, none, none, none, none, none, none, none, none, none, none, none, none, none, none, none, none, none, none, none, none, none, none, none, none, none, none, none, none, none, none, none, none, none, none, none, none, none, none, none, none, none, none, none, none, none, none, none, none, none, none, none, none, none, none, none, none, none, none, none, none, none, none, none, none, none, none, none, none, none, none, none, none, none, none, none, none, none, none, none, none, none, none, none, none, none, none, none, none, none, none, none, none, none, none, none, none]
theorem readsAt_300 : ((Tryz.prog.funcs.toList.drop 300).take 100).map (fun fn => if fn.body.isNone then entryReads.lookup fn.name else none) = reads_300 := by kernel_rfl
noncomputable def reads_400 : List (Option String) := [none, none, none, none, none, none, none, none, none, none, none, none, none, none, none, none, none, none, none, none, none, none, none, none, none, none, none, none, none, none, none, none, none, none, none, none, none, none, none, none, none, none, none, none, none, none, none, none, none, none, none, none, none, none, none, none, none, none, none, none, none, none, none, none, none, none, none, none, none, none, none, none, none, none, none, none, none, none, none, none, none, none, none, none, none, none, none, none, none, none, none, none, none, none, none, none, none, none, none, none]
theorem readsAt_400 : ((Tryz.prog.funcs.toList.drop 400).take 100).map (fun fn => if fn.body.isNone then entryReads.lookup fn.name else none) = reads_400 := by kernel_rfl
noncomputable def reads_500 : List (Option String) := [none, none, none, none, none, none, none, none, none, none, none, none, none, none, none, none, none, none, none, none, none, none, none, none, none, none, none, none, none, none, none, none, none, none, none, none, none, none, none, none, none, none, none, none, none, none, none, none, none, none, none, none, none, none, none, none, none, none, none, none, none, none, none, none, none, none, none, none, none, none, none, none, none, none, none, none, none, none, none, none, none, none, none, none, none, none, none, none, none, none, none, none, none, none, none, none, none, none, none, none]
theorem readsAt_500 : ((Tryz.prog.funcs.toList.drop 500).take 100).map (fun fn => if fn.body.isNone then entryReads.lookup fn.name else none) = reads_500 := by kernel_rfl
noncomputable def reads_600 : List (Option String) := [none, none, none, none, none, none, none, none, none, none, none, none, none, none, none, none, none, none, none, none, none, none, none, none, none, none, none, none, none, none, none, none, none, none, none, none, none, none, none, none, none, none, none, none, none, none, none, none, none, none, none, none, none, none, none, none, none, none, none, none, none, none, none, none, none, none, none, none, none, none, none, none, none, none, none, none, none, none, none, none, none, none, none, none, none, none, none, none, none, none, none, none, none, none, none, none, none, none, none, none]
theorem readsAt_600 : ((Tryz.prog.funcs.toList.drop 600).take 100).map (fun fn => if fn.body.isNone then entryReads.lookup fn.name else none) = reads_600 := by kernel_rfl
noncomputable def reads_700 : List (Option String) := [none, none, none, none, none, none, none, none, none, none, none, none, none, none, none, none, none, none, none, none, none, none, none, none, none, none, none, none, none, none, none, none, none, none, none, none, none, none, none, none, none, none, none, none, none, none, none, none, none, none, none, none, none, none, none, none, none, none, none, none, none, none, none, none, none, none, none, none, none, none, none, none, none, none, none, none, none, none, none, none, none, none, none, none, none, none, none, none, none, none, none, none, none, none, none, none, none, none, none, none]
theorem readsAt_700 : ((Tryz.prog.funcs.toList.drop 700).take 100).map (fun fn => if fn.body.isNone then entryReads.lookup fn.name else none) = reads_700 := by kernel_rfl
noncomputable def reads_800 : List (Option String) := [none, none, none, none, none, none, none, none, none, none, none, none, none, none, none, none, none, none, none, none, none, none, none, none, none, none, none, none, none, none, none, none, none, none, none, none, none, none, none, none, none, none, none, none, none, none, none, none, none, none, none, none, none, none, none, none, none, none, none, none, none, none, none, none, none, none, none, none, none, none, none, none, none, none, none, none, none, none, none, none, none, none, none, none, none, none, none, none, none, none, none, none, none, none, none, none, none, none, none, none]
theorem readsAt_800 : ((Tryz.prog.funcs.toList.drop 800).take 100).map (fun fn => if fn.body.isNone then entryReads.lookup fn.name else none) = reads_800 := by kernel_rfl
noncomputable def reads_900 : List (Option String) := [none, none, none, none, none, none, none, none, none, none, none, none, none, none, none, none, none, none, none, none, none, none, none, none, none, none, none, none, none, none, none, none, none, none, none, none, none, none, none, none, none, none, none, none, none, none, none, none, none, none, none, none, none, none, none, none, none, none, none, none, none, none, none, none, none, none, none, none, none, none, none, none, none, none, none, none, none, none, none, none, none, none, none, none, none, none, none, none, none, none, none, none, none, none, none, none, none, none, none, none]
theorem readsAt_900 : ((Tryz.prog.funcs.toList.drop 900).take 100).map (fun fn => if fn.body.isNone then entryReads.lookup fn.name else none) = reads_900 := by kernel_rfl
noncomputable def reads_1000 : List (Option String) := [none, none, none, none, none, none, none, none, none, none, none, none, none, none, none, none, none, none, none, none, none, none, none, none, none, none, none, none, none, none, none, none, none, none, none, none, none, none, none, none, none, none, none, none, none, none, none, none, none, none, none, none, none, none, none, none, none, none, none, none, none, none, none, none, none, none, none, none, none, none, none, none, none, none, none, none, none, none, none, none, none, none, none, none, none, none, none, none, none, none, none, none, none, none, none, none, none, none, none, none]
theorem readsAt_1000 : ((Tryz.prog.funcs.toList.drop 1000).take 100).map (fun fn => if fn.body.isNone then entryReads.lookup fn.name else none) = reads_1000 := by kernel_rfl
noncomputable def reads_1100 : List (Option String) := [none, none, none, none, none, none, none, none, none, none, none, none, none, none, none, none, none, none, none, none, none, none, none, none, none, none, none, none, none, none, none, none, none, none, none, none, none, none, none, none, none, none, none, none, none, none, none, none, none, none, none, none, none, none, none, none, none, none, none, none, none, none, none, none, none, none, none, none, none, none, none, none, none, none, none, none, none, none, none, none, none, none, none, none, none, none, none, none, none, none, none, none, none, none, none, none, none, none, none, none]
theorem readsAt_1100 : ((Tryz.prog.funcs.toList.drop 1100).take 100).map (fun fn => if fn.body.isNone then entryReads.lookup fn.name else none) = reads_1100 := by kernel_rfl
noncomputable def reads_1200 : List (Option String) := [none, none, none, none, none, none, none, none, none, none, none, none, none, none, none, none, none, none, none, none, none, none, none, none, none, none, none, none, none, none, none, none, none]
theorem readsAt_1200 : ((Tryz.prog.funcs.toList.drop 1200).take 33).map (fun fn => if fn.body.isNone then entryReads.lookup fn.name else none) = reads_1200 := by kernel_rfl
noncomputable def reads : List (Option String) := reads_0 ++ (reads_100 ++ (reads_200 ++ (reads_300 ++ (reads_400 ++ (reads_500 ++ (reads_600 ++ (reads_700 ++ (reads_800 ++ (reads_900 ++ (reads_1000 ++ (reads_1100 ++ (reads_1200 ++ []))))))))))))
theorem reads_eq : Tryz.prog.funcs.toList.map (fun fn => if fn.body.isNone then entryReads.lookup fn.name else none) = reads := by
  have h0 : Tryz.prog.funcs.toList.map (fun fn => if fn.body.isNone then entryReads.lookup fn.name else none) = (Tryz.prog.funcs.toList.drop 0).map (fun fn => if fn.body.isNone then entryReads.lookup fn.name else none) := rfl
  rw [h0]
  rw [map_part _ _ 0 100, readsAt_0]
  rw [map_part _ _ 100 100, readsAt_100]
  rw [map_part _ _ 200 100, readsAt_200]
  rw [map_part _ _ 300 100, readsAt_300]
  rw [map_part _ _ 400 100, readsAt_400]
  rw [map_part _ _ 500 100, readsAt_500]
  rw [map_part _ _ 600 100, readsAt_600]
  rw [map_part _ _ 700 100, readsAt_700]
  rw [map_part _ _ 800 100, readsAt_800]
  rw [map_part _ _ 900 100, readsAt_900]
  rw [map_part _ _ 1000 100, readsAt_1000]
  rw [map_part _ _ 1100 100, readsAt_1100]
  rw [map_part _ _ 1200 33, readsAt_1200]
  rw [List.drop_eq_nil_of_le (show Tryz.prog.funcs.toList.length ≤ 1200 + 33 by rw [funcs_size]; exact Nat.le_refl _)]
  rfl
noncomputable def isLaw_0 : List (Bool) := [false, false, false, false, false, true, false, false, false, false, false, false, false, false, false, false, false, false, false, false, false, false, false, false, false, false, false, false, false, false, false, false, false, false, false, false, false, false, false, false, false, false, false, false, false, false, false, false, false, false, false, false, false, false, false, false, false, false, false, false, false, false, false, false, false, false, false, false, false, false, false, false, false, false, false, false, false, false, false, false, false, false, false, false, false, false, false, false, false, false, false, false, false, false, false, false, false, false, false, false]
theorem isLawAt_0 : ((Tryz.prog.funcs.toList.drop 0).take 100).map (fun fn => fn.name == Rows.shopWritesRow.func) = isLaw_0 := by kernel_rfl
noncomputable def isLaw_100 : List (Bool) := [false, false, false, false, false, false, false, false, false, false, false, false, false, false, false, false, false, false, false, false, false, false, false, false, false, false, false, false, false, false, false, false, false, false, false, false, false, false, false, false, false, false, false, false, false, false, false, false, false, false, false, false, false, false, false, false, false, false, false, false, false, false, false, false, false, false, false, false, false, false, false, false, false, false, false, false, false, false, false, false, false, false, false, false, false, false, false, false, false, false, false, false, false, false, false, false, false, false, false, false]
theorem isLawAt_100 : ((Tryz.prog.funcs.toList.drop 100).take 100).map (fun fn => fn.name == Rows.shopWritesRow.func) = isLaw_100 := by kernel_rfl
noncomputable def isLaw_200 : List (Bool) := [false, false, false, false, false, false, false, false, false, false, false, false, false, false, false, false, false, false, false, false, false, false, false, false, false, false, false, false, false, false, false, false, false, false, false, false, false, false, false, false, false, false, false, false, false, false, false, false, false, false, false, false, false, false, false, false, false, false, false, false, false, false, false, false, false, false, false, false, false, false, false, false, false, false, false, false, false, false, false, false, false, false, false, false, false, false, false, false, false, false, false, false, false, false, false, false, false, false, false, false]
theorem isLawAt_200 : ((Tryz.prog.funcs.toList.drop 200).take 100).map (fun fn => fn.name == Rows.shopWritesRow.func) = isLaw_200 := by kernel_rfl
noncomputable def isLaw_300 : List (Bool) := [false, false, false, false, false, false, false, false, false, false, false, false, false, false, false, false, false, false, false, false, false, false, false, false, false, false, false, false, false, false, false, false, false, false, false, false, false, false, false, false, false, false, false, false, false, false, false, false, false, false, false, false, false, false, false, false, false, false, false, false, false, false, false, false, false, false, false, false, false, false, false, false, false, false, false, false, false, false, false, false, false, false, false, false, false, false, false, false, false, false, false, false, false, false, false, false, false, false, false, false]
theorem isLawAt_300 : ((Tryz.prog.funcs.toList.drop 300).take 100).map (fun fn => fn.name == Rows.shopWritesRow.func) = isLaw_300 := by kernel_rfl
noncomputable def isLaw_400 : List (Bool) := [false, false, false, false, false, false, false, false, false, false, false, false, false, false, false, false, false, false, false, false, false, false, false, false, false, false, false, false, false, false, false, false, false, false, false, false, false, false, false, false, false, false, false, false, false, false, false, false, false, false, false, false, false, false, false, false, false, false, false, false, false, false, false, false, false, false, false, false, false, false, false, false, false, false, false, false, false, false, false, false, false, false, false, false, false, false, false, false, false, false, false, false, false, false, false, false, false, false, false, false]
theorem isLawAt_400 : ((Tryz.prog.funcs.toList.drop 400).take 100).map (fun fn => fn.name == Rows.shopWritesRow.func) = isLaw_400 := by kernel_rfl
noncomputable def isLaw_500 : List (Bool) := [false, false, false, false, false, false, false, false, false, false, false, false, false, false, false, false, false, false, false, false, false, false, false, false, false, false, false, false, false, false, false, false, false, false, false, false, false, false, false, false, false, false, false, false, false, false, false, false, false, false, false, false, false, false, false, false, false, false, false, false, false, false, false, false, false, false, false, false, false, false, false, false, false, false, false, false, false, false, false, false, false, false, false, false, false, false, false, false, false, false, false, false, false, false, false, false, false, false, false, false]
theorem isLawAt_500 : ((Tryz.prog.funcs.toList.drop 500).take 100).map (fun fn => fn.name == Rows.shopWritesRow.func) = isLaw_500 := by kernel_rfl
noncomputable def isLaw_600 : List (Bool) := [false, false, false, false, false, false, false, false, false, false, false, false, false, false, false, false, false, false, false, false, false, false, false, false, false, false, false, false, false, false, false, false, false, false, false, false, false, false, false, false, false, false, false, false, false, false, false, false, false, false, false, false, false, false, false, false, false, false, false, false, false, false, false, false, false, false, false, false, false, false, false, false, false, false, false, false, false, false, false, false, false, false, false, false, false, false, false, false, false, false, false, false, false, false, false, false, false, false, false, false]
theorem isLawAt_600 : ((Tryz.prog.funcs.toList.drop 600).take 100).map (fun fn => fn.name == Rows.shopWritesRow.func) = isLaw_600 := by kernel_rfl
noncomputable def isLaw_700 : List (Bool) := [false, false, false, false, false, false, false, false, false, false, false, false, false, false, false, false, false, false, false, false, false, false, false, false, false, false, false, false, false, false, false, false, false, false, false, false, false, false, false, false, false, false, false, false, false, false, false, false, false, false, false, false, false, false, false, false, false, false, false, false, false, false, false, false, false, false, false, false, false, false, false, false, false, false, false, false, false, false, false, false, false, false, false, false, false, false, false, false, false, false, false, false, false, false, false, false, false, false, false, false]
theorem isLawAt_700 : ((Tryz.prog.funcs.toList.drop 700).take 100).map (fun fn => fn.name == Rows.shopWritesRow.func) = isLaw_700 := by kernel_rfl
noncomputable def isLaw_800 : List (Bool) := [false, false, false, false, false, false, false, false, false, false, false, false, false, false, false, false, false, false, false, false, false, false, false, false, false, false, false, false, false, false, false, false, false, false, false, false, false, false, false, false, false, false, false, false, false, false, false, false, false, false, false, false, false, false, false, false, false, false, false, false, false, false, false, false, false, false, false, false, false, false, false, false, false, false, false, false, false, false, false, false, false, false, false, false, false, false, false, false, false, false, false, false, false, false, false, false, false, false, false, false]
theorem isLawAt_800 : ((Tryz.prog.funcs.toList.drop 800).take 100).map (fun fn => fn.name == Rows.shopWritesRow.func) = isLaw_800 := by kernel_rfl
noncomputable def isLaw_900 : List (Bool) := [false, false, false, false, false, false, false, false, false, false, false, false, false, false, false, false, false, false, false, false, false, false, false, false, false, false, false, false, false, false, false, false, false, false, false, false, false, false, false, false, false, false, false, false, false, false, false, false, false, false, false, false, false, false, false, false, false, false, false, false, false, false, false, false, false, false, false, false, false, false, false, false, false, false, false, false, false, false, false, false, false, false, false, false, false, false, false, false, false, false, false, false, false, false, false, false, false, false, false, false]
theorem isLawAt_900 : ((Tryz.prog.funcs.toList.drop 900).take 100).map (fun fn => fn.name == Rows.shopWritesRow.func) = isLaw_900 := by kernel_rfl
noncomputable def isLaw_1000 : List (Bool) := [false, false, false, false, false, false, false, false, false, false, false, false, false, false, false, false, false, false, false, false, false, false, false, false, false, false, false, false, false, false, false, false, false, false, false, false, false, false, false, false, false, false, false, false, false, false, false, false, false, false, false, false, false, false, false, false, false, false, false, false, false, false, false, false, false, false, false, false, false, false, false, false, false, false, false, false, false, false, false, false, false, false, false, false, false, false, false, false, false, false, false, false, false, false, false, false, false, false, false, false]
theorem isLawAt_1000 : ((Tryz.prog.funcs.toList.drop 1000).take 100).map (fun fn => fn.name == Rows.shopWritesRow.func) = isLaw_1000 := by kernel_rfl
noncomputable def isLaw_1100 : List (Bool) := [false, false, false, false, false, false, false, false, false, false, false, false, false, false, false, false, false, false, false, false, false, false, false, false, false, false, false, false, false, false, false, false, false, false, false, false, false, false, false, false, false, false, false, false, false, false, false, false, false, false, false, false, false, false, false, false, false, false, false, false, false, false, false, false, false, false, false, false, false, false, false, false, false, false, false, false, false, false, false, false, false, false, false, false, false, false, false, false, false, false, false, false, false, false, false, false, false, false, false, false]
theorem isLawAt_1100 : ((Tryz.prog.funcs.toList.drop 1100).take 100).map (fun fn => fn.name == Rows.shopWritesRow.func) = isLaw_1100 := by kernel_rfl
noncomputable def isLaw_1200 : List (Bool) := [false, false, false, false, false, false, false, false, false, false, false, false, false, false, false, false, false, false, false, false, false, false, false, false, false, false, false, false, false, false, false, false, false]
theorem isLawAt_1200 : ((Tryz.prog.funcs.toList.drop 1200).take 33).map (fun fn => fn.name == Rows.shopWritesRow.func) = isLaw_1200 := by kernel_rfl
noncomputable def isLaw : List (Bool) := isLaw_0 ++ (isLaw_100 ++ (isLaw_200 ++ (isLaw_300 ++ (isLaw_400 ++ (isLaw_500 ++ (isLaw_600 ++ (isLaw_700 ++ (isLaw_800 ++ (isLaw_900 ++ (isLaw_1000 ++ (isLaw_1100 ++ (isLaw_1200 ++ []))))))))))))
theorem isLaw_eq : Tryz.prog.funcs.toList.map (fun fn => fn.name == Rows.shopWritesRow.func) = isLaw := by
  have h0 : Tryz.prog.funcs.toList.map (fun fn => fn.name == Rows.shopWritesRow.func) = (Tryz.prog.funcs.toList.drop 0).map (fun fn => fn.name == Rows.shopWritesRow.func) := rfl
  rw [h0]
  rw [map_part _ _ 0 100, isLawAt_0]
  rw [map_part _ _ 100 100, isLawAt_100]
  rw [map_part _ _ 200 100, isLawAt_200]
  rw [map_part _ _ 300 100, isLawAt_300]
  rw [map_part _ _ 400 100, isLawAt_400]
  rw [map_part _ _ 500 100, isLawAt_500]
  rw [map_part _ _ 600 100, isLawAt_600]
  rw [map_part _ _ 700 100, isLawAt_700]
  rw [map_part _ _ 800 100, isLawAt_800]
  rw [map_part _ _ 900 100, isLawAt_900]
  rw [map_part _ _ 1000 100, isLawAt_1000]
  rw [map_part _ _ 1100 100, isLawAt_1100]
  rw [map_part _ _ 1200 33, isLawAt_1200]
  rw [List.drop_eq_nil_of_le (show Tryz.prog.funcs.toList.length ≤ 1200 + 33 by rw [funcs_size]; exact Nat.le_refl _)]
  rfl
noncomputable def goes_0 : List (Bool) := [false, false, false, false, false, false, false, false, false, false, false, false, false, false, false, false, false, false, false, false]
theorem goesAt_0 : ((Tryz.prog.funcs.toList.drop 0).take 20).map (Func.goes) = goes_0 := by kernel_rfl
noncomputable def goes_20 : List (Bool) := [false, false, false, false, false, false, false, false, false, false, false, false, false, false, false, false, false, false, false, false]
theorem goesAt_20 : ((Tryz.prog.funcs.toList.drop 20).take 20).map (Func.goes) = goes_20 := by kernel_rfl
noncomputable def goes_40 : List (Bool) := [false, false, false, false, false, false, false, false, false, false, false, false, false, false, false, false, false, false, false, false]
theorem goesAt_40 : ((Tryz.prog.funcs.toList.drop 40).take 20).map (Func.goes) = goes_40 := by kernel_rfl
noncomputable def goes_60 : List (Bool) := [false, false, false, false, false, false, false, false, false, false, false, false, false, false, false, false, false, false, false, false]
theorem goesAt_60 : ((Tryz.prog.funcs.toList.drop 60).take 20).map (Func.goes) = goes_60 := by kernel_rfl
noncomputable def goes_80 : List (Bool) := [false, false, false, false, false, false, false, false, false, false, false, false, false, false, false, false, false, false, false, false]
theorem goesAt_80 : ((Tryz.prog.funcs.toList.drop 80).take 20).map (Func.goes) = goes_80 := by kernel_rfl
noncomputable def goes_100 : List (Bool) := [false, false, false, false, false, false, false, false, false, false, false, false, false, false, false, false, false, false, false, false]
theorem goesAt_100 : ((Tryz.prog.funcs.toList.drop 100).take 20).map (Func.goes) = goes_100 := by kernel_rfl
noncomputable def goes_120 : List (Bool) := [false, false, false, false, false, false, false, false, false, false, false, false, false, false, false, false, false, false, false, false]
theorem goesAt_120 : ((Tryz.prog.funcs.toList.drop 120).take 20).map (Func.goes) = goes_120 := by kernel_rfl
noncomputable def goes_140 : List (Bool) := [false, false, false, false, false, false, false, false, false, false, false, false, false, false, false, false, false, false, false, false]
theorem goesAt_140 : ((Tryz.prog.funcs.toList.drop 140).take 20).map (Func.goes) = goes_140 := by kernel_rfl
noncomputable def goes_160 : List (Bool) := [false, false, false, false, false, false, false, false, false, false, false, false, false, false, false, false, false, false, false, false]
theorem goesAt_160 : ((Tryz.prog.funcs.toList.drop 160).take 20).map (Func.goes) = goes_160 := by kernel_rfl
noncomputable def goes_180 : List (Bool) := [false, false, false, false, false, false, false, false, false, false, false, false, false, false, false, false, false, false, false, false]
theorem goesAt_180 : ((Tryz.prog.funcs.toList.drop 180).take 20).map (Func.goes) = goes_180 := by kernel_rfl
noncomputable def goes_200 : List (Bool) := [false, false, false, false, false, false, false, false, false, false, false, false, false, false, false, false, false, false, false, false]
theorem goesAt_200 : ((Tryz.prog.funcs.toList.drop 200).take 20).map (Func.goes) = goes_200 := by kernel_rfl
noncomputable def goes_220 : List (Bool) := [false, false, false, false, false, false, false, false, false, false, false, false, false, false, false, false, false, false, false, false]
theorem goesAt_220 : ((Tryz.prog.funcs.toList.drop 220).take 20).map (Func.goes) = goes_220 := by kernel_rfl
noncomputable def goes_240 : List (Bool) := [false, false, false, false, false, false, false, false, false, false, false, false, false, false, false, false, false, false, false, false]
theorem goesAt_240 : ((Tryz.prog.funcs.toList.drop 240).take 20).map (Func.goes) = goes_240 := by kernel_rfl
noncomputable def goes_260 : List (Bool) := [false, false, false, false, false, false, false, false, false, false, false, false, false, false, false, false, false, false, false, false]
theorem goesAt_260 : ((Tryz.prog.funcs.toList.drop 260).take 20).map (Func.goes) = goes_260 := by kernel_rfl
noncomputable def goes_280 : List (Bool) := [false, false, false, false, false, false, false, false, false, false, false, false, false, false, false, false, false, false, false, false]
theorem goesAt_280 : ((Tryz.prog.funcs.toList.drop 280).take 20).map (Func.goes) = goes_280 := by kernel_rfl
noncomputable def goes_300 : List (Bool) := [false, false, false, false, false, false, false, false, false, false, false, false, false, false, false, false, false, false, false, false]
theorem goesAt_300 : ((Tryz.prog.funcs.toList.drop 300).take 20).map (Func.goes) = goes_300 := by kernel_rfl
noncomputable def goes_320 : List (Bool) := [false, false, false, false, false, false, false, false, false, false, false, false, false, false, false, false, false, false, false, false]
theorem goesAt_320 : ((Tryz.prog.funcs.toList.drop 320).take 20).map (Func.goes) = goes_320 := by kernel_rfl
noncomputable def goes_340 : List (Bool) := [false, false, false, false, false, false, false, false, false, false, false, false, false, false, false, false, false, false, false, false]
theorem goesAt_340 : ((Tryz.prog.funcs.toList.drop 340).take 20).map (Func.goes) = goes_340 := by kernel_rfl
noncomputable def goes_360 : List (Bool) := [false, false, false, false, false, false, false, false, false, false, false, false, false, false, false, false, false, false, false, false]
theorem goesAt_360 : ((Tryz.prog.funcs.toList.drop 360).take 20).map (Func.goes) = goes_360 := by kernel_rfl
noncomputable def goes_380 : List (Bool) := [false, false, false, false, false, false, false, false, false, false, false, false, false, false, false, false, false, false, false, false]
theorem goesAt_380 : ((Tryz.prog.funcs.toList.drop 380).take 20).map (Func.goes) = goes_380 := by kernel_rfl
noncomputable def goes_400 : List (Bool) := [false, false, false, false, false, false, false, false, false, false, false, false, false, false, false, false, false, false, false, false]
theorem goesAt_400 : ((Tryz.prog.funcs.toList.drop 400).take 20).map (Func.goes) = goes_400 := by kernel_rfl
noncomputable def goes_420 : List (Bool) := [false, false, false, false, false, false, false, false, false, false, false, false, false, false, false, false, false, false, false, false]
theorem goesAt_420 : ((Tryz.prog.funcs.toList.drop 420).take 20).map (Func.goes) = goes_420 := by kernel_rfl
noncomputable def goes_440 : List (Bool) := [false, false, false, false, false, false, false, false, false, false, false, false, false, false, false, false, false, false, false, false]
theorem goesAt_440 : ((Tryz.prog.funcs.toList.drop 440).take 20).map (Func.goes) = goes_440 := by kernel_rfl
noncomputable def goes_460 : List (Bool) := [false, false, false, false, false, false, false, false, false, false, false, false, false, false, false, false, false, false, false, false]
theorem goesAt_460 : ((Tryz.prog.funcs.toList.drop 460).take 20).map (Func.goes) = goes_460 := by kernel_rfl
noncomputable def goes_480 : List (Bool) := [false, false, false, false, false, false, false, false, false, false, false, false, false, false, false, false, false, false, false, false]
theorem goesAt_480 : ((Tryz.prog.funcs.toList.drop 480).take 20).map (Func.goes) = goes_480 := by kernel_rfl
noncomputable def goes_500 : List (Bool) := [false, false, false, false, false, false, false, false, false, false, false, false, false, false, false, false, false, false, false, false]
theorem goesAt_500 : ((Tryz.prog.funcs.toList.drop 500).take 20).map (Func.goes) = goes_500 := by kernel_rfl
noncomputable def goes_520 : List (Bool) := [false, false, false, false, false, false, false, false, false, false, false, false, false, false, false, false, false, false, false, false]
theorem goesAt_520 : ((Tryz.prog.funcs.toList.drop 520).take 20).map (Func.goes) = goes_520 := by kernel_rfl
noncomputable def goes_540 : List (Bool) := [false, false, false, false, false, false, false, false, false, false, false, false, false, false, false, false, false, false, false, false]
theorem goesAt_540 : ((Tryz.prog.funcs.toList.drop 540).take 20).map (Func.goes) = goes_540 := by kernel_rfl
noncomputable def goes_560 : List (Bool) := [false, false, false, false, false, false, false, false, false, false, false, false, false, false, false, false, false, false, false, false]
theorem goesAt_560 : ((Tryz.prog.funcs.toList.drop 560).take 20).map (Func.goes) = goes_560 := by kernel_rfl
noncomputable def goes_580 : List (Bool) := [false, false, false, false, false, false, false, false, false, false, false, false, false, false, false, false, false, false, false, false]
theorem goesAt_580 : ((Tryz.prog.funcs.toList.drop 580).take 20).map (Func.goes) = goes_580 := by kernel_rfl
noncomputable def goes_600 : List (Bool) := [false, false, false, false, false, false, false, false, false, false, false, false, false, false, false, false, false, false, false, false]
theorem goesAt_600 : ((Tryz.prog.funcs.toList.drop 600).take 20).map (Func.goes) = goes_600 := by kernel_rfl
noncomputable def goes_620 : List (Bool) := [false, false, false, false, false, false, false, false, false, false, false, false, false, false, false, false, false, false, false, false]
theorem goesAt_620 : ((Tryz.prog.funcs.toList.drop 620).take 20).map (Func.goes) = goes_620 := by kernel_rfl
noncomputable def goes_640 : List (Bool) := [false, false, false, false, false, false, false, false, false, false, false, false, false, false, false, false, false, false, false, false]
theorem goesAt_640 : ((Tryz.prog.funcs.toList.drop 640).take 20).map (Func.goes) = goes_640 := by kernel_rfl
noncomputable def goes_660 : List (Bool) := [false, false, false, false, false, false, false, false, false, false, false, false, false, false, false, false, false, false, false, false]
theorem goesAt_660 : ((Tryz.prog.funcs.toList.drop 660).take 20).map (Func.goes) = goes_660 := by kernel_rfl
noncomputable def goes_680 : List (Bool) := [false, false, false, false, false, false, false, false, false, false, false, false, false, false, false, false, false, false, false, false]
theorem goesAt_680 : ((Tryz.prog.funcs.toList.drop 680).take 20).map (Func.goes) = goes_680 := by kernel_rfl
noncomputable def goes_700 : List (Bool) := [false, false, false, false, false, false, false, false, false, false, false, false, false, false, false, false, false, false, false, false]
theorem goesAt_700 : ((Tryz.prog.funcs.toList.drop 700).take 20).map (Func.goes) = goes_700 := by kernel_rfl
noncomputable def goes_720 : List (Bool) := [false, false, false, false, false, false, false, false, false, false, false, false, false, false, false, false, false, false, false, false]
theorem goesAt_720 : ((Tryz.prog.funcs.toList.drop 720).take 20).map (Func.goes) = goes_720 := by kernel_rfl
noncomputable def goes_740 : List (Bool) := [false, false, false, false, false, false, false, false, false, false, false, false, false, false, false, false, false, false, false, false]
theorem goesAt_740 : ((Tryz.prog.funcs.toList.drop 740).take 20).map (Func.goes) = goes_740 := by kernel_rfl
noncomputable def goes_760 : List (Bool) := [false, false, false, false, false, false, false, false, false, false, false, false, false, false, false, false, false, false, false, false]
theorem goesAt_760 : ((Tryz.prog.funcs.toList.drop 760).take 20).map (Func.goes) = goes_760 := by kernel_rfl
noncomputable def goes_780 : List (Bool) := [false, false, false, false, false, false, false, false, false, false, false, false, false, false, false, false, false, false, false, false]
theorem goesAt_780 : ((Tryz.prog.funcs.toList.drop 780).take 20).map (Func.goes) = goes_780 := by kernel_rfl
noncomputable def goes_800 : List (Bool) := [false, false, false, false, false, false, false, false, false, false, false, false, false, false, false, false, false, false, false, false]
theorem goesAt_800 : ((Tryz.prog.funcs.toList.drop 800).take 20).map (Func.goes) = goes_800 := by kernel_rfl
noncomputable def goes_820 : List (Bool) := [false, false, false, false, false, false, false, false, false, false, false, false, false, false, false, false, false, false, false, false]
theorem goesAt_820 : ((Tryz.prog.funcs.toList.drop 820).take 20).map (Func.goes) = goes_820 := by kernel_rfl
noncomputable def goes_840 : List (Bool) := [false, false, false, false, false, false, false, false, false, false, false, false, false, false, false, false, false, false, false, false]
theorem goesAt_840 : ((Tryz.prog.funcs.toList.drop 840).take 20).map (Func.goes) = goes_840 := by kernel_rfl
noncomputable def goes_860 : List (Bool) := [false, false, false, false, false, false, false, false, false, false, false, false, false, false, false, false, false, false, false, false]
theorem goesAt_860 : ((Tryz.prog.funcs.toList.drop 860).take 20).map (Func.goes) = goes_860 := by kernel_rfl
noncomputable def goes_880 : List (Bool) := [false, false, false, false, false, false, false, false, false, false, false, false, false, false, false, false, false, false, false, false]
theorem goesAt_880 : ((Tryz.prog.funcs.toList.drop 880).take 20).map (Func.goes) = goes_880 := by kernel_rfl
noncomputable def goes_900 : List (Bool) := [false, false, false, false, false, false, false, false, false, false, false, false, false, false, false, false, false, false, false, false]
theorem goesAt_900 : ((Tryz.prog.funcs.toList.drop 900).take 20).map (Func.goes) = goes_900 := by kernel_rfl
noncomputable def goes_920 : List (Bool) := [false, false, false, false, false, false, false, false, false, false, false, false, false, false, false, false, false, false, false, false]
theorem goesAt_920 : ((Tryz.prog.funcs.toList.drop 920).take 20).map (Func.goes) = goes_920 := by kernel_rfl
noncomputable def goes_940 : List (Bool) := [false, false, false, false, false, false, false, false, false, false, false, false, false, false, false, false, false, false, false, false]
theorem goesAt_940 : ((Tryz.prog.funcs.toList.drop 940).take 20).map (Func.goes) = goes_940 := by kernel_rfl
noncomputable def goes_960 : List (Bool) := [false, false, false, false, false, false, false, false, false, false, false, false, false, false, false, false, false, false, false, false]
theorem goesAt_960 : ((Tryz.prog.funcs.toList.drop 960).take 20).map (Func.goes) = goes_960 := by kernel_rfl
noncomputable def goes_980 : List (Bool) := [false, false, false, false, false, false, false, false, false, false, false, false, false, false, false, false, false, false, false, false]
theorem goesAt_980 : ((Tryz.prog.funcs.toList.drop 980).take 20).map (Func.goes) = goes_980 := by kernel_rfl
noncomputable def goes_1000 : List (Bool) := [false, false, false, false, false, false, false, false, false, false, false, false, false, false, false, false, false, false, false, false]
theorem goesAt_1000 : ((Tryz.prog.funcs.toList.drop 1000).take 20).map (Func.goes) = goes_1000 := by kernel_rfl
noncomputable def goes_1020 : List (Bool) := [false, false, false, false, false, false, false, false, false, false, false, false, false, false, false, false, false, false, false, false]
theorem goesAt_1020 : ((Tryz.prog.funcs.toList.drop 1020).take 20).map (Func.goes) = goes_1020 := by kernel_rfl
noncomputable def goes_1040 : List (Bool) := [false, false, false, false, false, false, false, false, false, false, false, false, false, false, false, false, false, false, false, false]
theorem goesAt_1040 : ((Tryz.prog.funcs.toList.drop 1040).take 20).map (Func.goes) = goes_1040 := by kernel_rfl
noncomputable def goes_1060 : List (Bool) := [false, false, false, false, false, false, false, false, false, false, false, false, false, false, false, false, false, false, false, false]
theorem goesAt_1060 : ((Tryz.prog.funcs.toList.drop 1060).take 20).map (Func.goes) = goes_1060 := by kernel_rfl
noncomputable def goes_1080 : List (Bool) := [false, false, false, false, false, false, false, false, false, false, false, false, false, false, false, false, false, false, false, false]
theorem goesAt_1080 : ((Tryz.prog.funcs.toList.drop 1080).take 20).map (Func.goes) = goes_1080 := by kernel_rfl
noncomputable def goes_1100 : List (Bool) := [false, false, false, false, false, false, false, false, false, false, false, false, false, false, false, false, false, false, false, false]
theorem goesAt_1100 : ((Tryz.prog.funcs.toList.drop 1100).take 20).map (Func.goes) = goes_1100 := by kernel_rfl
noncomputable def goes_1120 : List (Bool) := [false, false, false, false, false, false, false, false, false, false, false, false, false, false, false, false, false, false, false, false]
theorem goesAt_1120 : ((Tryz.prog.funcs.toList.drop 1120).take 20).map (Func.goes) = goes_1120 := by kernel_rfl
noncomputable def goes_1140 : List (Bool) := [false, false, false, false, false, false, false, false, false, false, false, false, false, false, false, false, false, false, false, false]
theorem goesAt_1140 : ((Tryz.prog.funcs.toList.drop 1140).take 20).map (Func.goes) = goes_1140 := by kernel_rfl
noncomputable def goes_1160 : List (Bool) := [false, false, false, false, false, false, false, false, false, false, false, false, false, false, false, false, false, false, false, false]
theorem goesAt_1160 : ((Tryz.prog.funcs.toList.drop 1160).take 20).map (Func.goes) = goes_1160 := by kernel_rfl
noncomputable def goes_1180 : List (Bool) := [false, false, false, false, false, false, false, false, false, false, false, false, false, false, false, false, false, false, false, false]
theorem goesAt_1180 : ((Tryz.prog.funcs.toList.drop 1180).take 20).map (Func.goes) = goes_1180 := by kernel_rfl
noncomputable def goes_1200 : List (Bool) := [false, false, false, false, false, false, false, false, false, false, false, false, false, false, false, false, false, false, false, false]
theorem goesAt_1200 : ((Tryz.prog.funcs.toList.drop 1200).take 20).map (Func.goes) = goes_1200 := by kernel_rfl
noncomputable def goes_1220 : List (Bool) := [false, false, false, false, false, false, false, false, false, false, false, false, false]
theorem goesAt_1220 : ((Tryz.prog.funcs.toList.drop 1220).take 13).map (Func.goes) = goes_1220 := by kernel_rfl
noncomputable def goes : List (Bool) := goes_0 ++ (goes_20 ++ (goes_40 ++ (goes_60 ++ (goes_80 ++ (goes_100 ++ (goes_120 ++ (goes_140 ++ (goes_160 ++ (goes_180 ++ (goes_200 ++ (goes_220 ++ (goes_240 ++ (goes_260 ++ (goes_280 ++ (goes_300 ++ (goes_320 ++ (goes_340 ++ (goes_360 ++ (goes_380 ++ (goes_400 ++ (goes_420 ++ (goes_440 ++ (goes_460 ++ (goes_480 ++ (goes_500 ++ (goes_520 ++ (goes_540 ++ (goes_560 ++ (goes_580 ++ (goes_600 ++ (goes_620 ++ (goes_640 ++ (goes_660 ++ (goes_680 ++ (goes_700 ++ (goes_720 ++ (goes_740 ++ (goes_760 ++ (goes_780 ++ (goes_800 ++ (goes_820 ++ (goes_840 ++ (goes_860 ++ (goes_880 ++ (goes_900 ++ (goes_920 ++ (goes_940 ++ (goes_960 ++ (goes_980 ++ (goes_1000 ++ (goes_1020 ++ (goes_1040 ++ (goes_1060 ++ (goes_1080 ++ (goes_1100 ++ (goes_1120 ++ (goes_1140 ++ (goes_1160 ++ (goes_1180 ++ (goes_1200 ++ (goes_1220 ++ [])))))))))))))))))))))))))))))))))))))))))))))))))))))))))))))
theorem goes_eq : Tryz.prog.funcs.toList.map (Func.goes) = goes := by
  have h0 : Tryz.prog.funcs.toList.map (Func.goes) = (Tryz.prog.funcs.toList.drop 0).map (Func.goes) := rfl
  rw [h0]
  rw [map_part _ _ 0 20, goesAt_0]
  rw [map_part _ _ 20 20, goesAt_20]
  rw [map_part _ _ 40 20, goesAt_40]
  rw [map_part _ _ 60 20, goesAt_60]
  rw [map_part _ _ 80 20, goesAt_80]
  rw [map_part _ _ 100 20, goesAt_100]
  rw [map_part _ _ 120 20, goesAt_120]
  rw [map_part _ _ 140 20, goesAt_140]
  rw [map_part _ _ 160 20, goesAt_160]
  rw [map_part _ _ 180 20, goesAt_180]
  rw [map_part _ _ 200 20, goesAt_200]
  rw [map_part _ _ 220 20, goesAt_220]
  rw [map_part _ _ 240 20, goesAt_240]
  rw [map_part _ _ 260 20, goesAt_260]
  rw [map_part _ _ 280 20, goesAt_280]
  rw [map_part _ _ 300 20, goesAt_300]
  rw [map_part _ _ 320 20, goesAt_320]
  rw [map_part _ _ 340 20, goesAt_340]
  rw [map_part _ _ 360 20, goesAt_360]
  rw [map_part _ _ 380 20, goesAt_380]
  rw [map_part _ _ 400 20, goesAt_400]
  rw [map_part _ _ 420 20, goesAt_420]
  rw [map_part _ _ 440 20, goesAt_440]
  rw [map_part _ _ 460 20, goesAt_460]
  rw [map_part _ _ 480 20, goesAt_480]
  rw [map_part _ _ 500 20, goesAt_500]
  rw [map_part _ _ 520 20, goesAt_520]
  rw [map_part _ _ 540 20, goesAt_540]
  rw [map_part _ _ 560 20, goesAt_560]
  rw [map_part _ _ 580 20, goesAt_580]
  rw [map_part _ _ 600 20, goesAt_600]
  rw [map_part _ _ 620 20, goesAt_620]
  rw [map_part _ _ 640 20, goesAt_640]
  rw [map_part _ _ 660 20, goesAt_660]
  rw [map_part _ _ 680 20, goesAt_680]
  rw [map_part _ _ 700 20, goesAt_700]
  rw [map_part _ _ 720 20, goesAt_720]
  rw [map_part _ _ 740 20, goesAt_740]
  rw [map_part _ _ 760 20, goesAt_760]
  rw [map_part _ _ 780 20, goesAt_780]
  rw [map_part _ _ 800 20, goesAt_800]
  rw [map_part _ _ 820 20, goesAt_820]
  rw [map_part _ _ 840 20, goesAt_840]
  rw [map_part _ _ 860 20, goesAt_860]
  rw [map_part _ _ 880 20, goesAt_880]
  rw [map_part _ _ 900 20, goesAt_900]
  rw [map_part _ _ 920 20, goesAt_920]
  rw [map_part _ _ 940 20, goesAt_940]
  rw [map_part _ _ 960 20, goesAt_960]
  rw [map_part _ _ 980 20, goesAt_980]
  rw [map_part _ _ 1000 20, goesAt_1000]
  rw [map_part _ _ 1020 20, goesAt_1020]
  rw [map_part _ _ 1040 20, goesAt_1040]
  rw [map_part _ _ 1060 20, goesAt_1060]
  rw [map_part _ _ 1080 20, goesAt_1080]
  rw [map_part _ _ 1100 20, goesAt_1100]
  rw [map_part _ _ 1120 20, goesAt_1120]
  rw [map_part _ _ 1140 20, goesAt_1140]
  rw [map_part _ _ 1160 20, goesAt_1160]
  rw [map_part _ _ 1180 20, goesAt_1180]
  rw [map_part _ _ 1200 20, goesAt_1200]
  rw [map_part _ _ 1220 13, goesAt_1220]
  rw [List.drop_eq_nil_of_le (show Tryz.prog.funcs.toList.length ≤ 1220 + 13 by rw [funcs_size]; exact Nat.le_refl _)]
  rfl
noncomputable def clos : List Nat := [5, 12, 6, 17, 18, 28, 38, 50, 51, 52, 53, 54, 85, 86, 87, 88, 89, 56, 29, 39, 55, 57, 90, 91, 30, 20, 32, 46, 76, 131, 77, 78, 79, 132, 40, 58, 92, 138, 207, 228, 299, 229, 230, 335, 300, 231, 336, 496, 282, 409, 337, 497, 641, 642, 301, 93, 139, 208, 302, 209, 303, 47, 94, 140, 210, 304, 104, 163, 237, 343, 502, 645, 646, 238, 344, 503, 345, 346, 22, 34, 48, 80, 81, 134, 133, 135, 82, 83, 136, 137, 205, 206, 504, 347, 95, 141, 168, 142, 143, 211, 305, 306, 307, 157, 233, 193, 234, 340, 498, 499, 158, 235, 195, 49, 84, 281, 408, 36, 341, 37, 308, 434, 605, 309, 435, 334, 194, 279, 406, 407, 580, 280, 310, 436, 606, 311, 312, 155, 313, 314, 212, 144, 213, 96, 145, 152, 214, 153, 227, 102, 154, 156, 232, 338, 339, 146, 215, 216, 59, 97, 60, 98, 147, 149, 179, 217, 315, 99, 105, 164, 239, 241, 349, 350, 505, 647, 506, 507, 648, 508, 509, 649, 802, 803, 907, 908, 970, 1022, 909, 804, 910, 971, 1023, 1024, 650, 651, 652, 653, 805, 240, 348, 165, 243, 244, 355, 356, 513, 357, 657, 514, 658, 659, 807, 913, 972, 353, 973, 716, 413, 585, 587, 715, 1025, 385, 220, 974, 842, 1026, 1027, 586, 511, 656, 512, 354, 245, 242, 351, 352, 510, 654, 655, 806, 911, 912, 265, 374, 537, 383, 553, 559, 700, 554, 697, 555, 677, 678, 556, 698, 699, 828, 557, 558, 560, 561, 167, 246, 166, 148, 218, 316, 437, 607, 778, 608, 438, 609, 33, 416, 439, 610, 595, 417, 24, 35, 589, 219, 318, 317, 100, 101, 150, 221, 222, 319, 320, 223, 321, 224, 322, 323, 440, 441, 613, 784, 783, 614, 780, 785, 615, 616, 617, 611, 779, 781, 782, 612, 324, 442, 618, 786, 443, 619, 325, 225, 326, 444, 622, 621, 787, 788, 900, 968, 620, 626, 445, 623, 789, 901, 446, 624, 790, 791, 447, 625, 792, 448, 449, 450, 627, 451, 452, 628, 793, 453, 629, 454, 630, 455, 456, 457, 631, 458, 459, 632, 794, 460, 633, 125, 196, 461, 634, 795, 796, 902, 462, 635, 797, 463, 464, 465, 466, 467, 468, 469, 470, 471, 472, 473, 636, 474, 475, 476, 477, 478, 479, 480, 637, 481, 638, 482, 483, 484, 485, 639, 486, 487, 488, 122, 489, 327, 328, 329, 490, 640, 491, 492, 151, 226, 330, 331, 332, 333, 493, 494, 495, 103, 160, 161, 162, 159, 236, 252, 359, 516, 515, 517, 661, 808, 660, 360, 518, 662, 663, 809, 810, 664, 811, 812, 914, 975, 361, 519, 665, 666, 813, 667, 668, 814, 815, 915, 669, 670, 671, 672, 362, 364, 363, 365, 342, 263, 381, 551, 694, 552, 696, 695, 500, 523, 520, 643, 798, 903, 521, 673, 674, 816, 916, 917, 976, 1028, 675, 817, 818, 819, 918, 919, 977, 1029, 501, 644, 799, 800, 801, 904, 905, 969, 906, 61, 106, 169, 107, 108, 170, 247, 249, 248, 358, 62, 109, 110, 171, 63, 111, 172, 173, 250, 174, 64, 112, 175, 65, 113, 114, 176, 251, 177, 255, 254, 253, 366, 522, 66, 115, 178, 67, 116, 180, 256, 367, 257, 369, 524, 525, 123, 526, 368, 181, 258, 117, 183, 262, 375, 538, 681, 821, 822, 539, 527, 260, 376, 540, 682, 823, 31, 683, 684, 685, 377, 378, 541, 261, 373, 528, 534, 529, 676, 530, 531, 679, 680, 820, 532, 533, 535, 536, 686, 542, 687, 370, 371, 372, 688, 544, 545, 689, 543, 546, 690, 379, 547, 548, 380, 549, 691, 824, 825, 692, 184, 550, 693, 826, 827, 182, 259, 118, 68, 119, 185, 69, 120, 187, 266, 186, 264, 382, 121, 188, 267, 384, 386, 562, 564, 568, 711, 388, 565, 706, 831, 701, 707, 702, 569, 703, 829, 705, 830, 920, 563, 704, 566, 387, 567, 708, 709, 832, 833, 710, 570, 571, 268, 269, 389, 189, 270, 390, 572, 391, 393, 392, 394, 271, 395, 272, 396, 273, 274, 398, 399, 397, 573, 712, 713, 834, 921, 190, 191, 275, 400, 574, 575, 576, 401, 278, 276, 402, 577, 403, 404, 277, 405, 578, 579, 192, 70, 124, 71, 126, 197, 283, 284, 410, 582, 584, 718, 843, 844, 581, 583, 714, 835, 836, 922, 411, 412, 837, 838, 923, 839, 840, 841, 924, 925, 926, 927, 928, 929, 717, 414, 198, 199, 286, 415, 588, 719, 285, 127, 200, 287, 418, 590, 720, 591, 592, 721, 722, 845, 723, 724, 846, 847, 725, 726, 848, 727, 849, 850, 288, 419, 593, 594, 596, 728, 202, 291, 421, 422, 423, 424, 425, 597, 729, 851, 852, 930, 945, 931, 978, 946, 985, 986, 1036, 1035, 1030, 1066, 1104, 1067, 1105, 736, 853, 932, 933, 854, 872, 952, 962, 1021, 420, 934, 859, 979, 935, 936, 980, 981, 897, 863, 966, 937, 982, 950, 1031, 983, 1032, 1068, 951, 777, 984, 1034, 1033, 855, 856, 938, 857, 939, 940, 871, 949, 858, 862, 860, 865, 941, 942, 943, 944, 730, 861, 864, 947, 987, 1037, 1069, 1107, 1106, 1070, 1071, 1072, 1073, 1108, 1110, 1111, 1112, 1109, 1137, 988, 866, 948, 989, 731, 289, 867, 732, 868, 733, 869, 734, 870, 735, 737, 738, 739, 740, 741, 873, 953, 990, 1039, 1038, 1074, 991, 1040, 1075, 1113, 1139, 1138, 1141, 1140, 1143, 1076, 992, 1041, 1077, 1114, 1078, 1115, 1080, 1116, 1142, 1154, 1155, 1156, 1159, 1162, 1160, 1161, 1157, 1079, 993, 1042, 1081, 994, 1043, 1082, 1117, 1083, 995, 1044, 1084, 996, 1045, 1085, 997, 1046, 1086, 1087, 998, 1047, 999, 1048, 1088, 1000, 1049, 1089, 1090, 1118, 1001, 1050, 1091, 1092, 1120, 1119, 1121, 1144, 1002, 1051, 1093, 1122, 1145, 1123, 1132, 1124, 1146, 1158, 1147, 1125, 1148, 1126, 1149, 1003, 1052, 1094, 1128, 1129, 1127, 1150, 1151, 1133, 1004, 1053, 1095, 1130, 1152, 1153, 1096, 1005, 1054, 1097, 1131, 1006, 1055, 1098, 1134, 1135, 1007, 1056, 1099, 954, 955, 1008, 1057, 1058, 956, 201, 290, 72, 128, 203, 292, 426, 427, 598, 742, 743, 744, 745, 874, 875, 877, 957, 746, 876, 747, 878, 748, 749, 750, 751, 752, 879, 880, 958, 1009, 1012, 1059, 1060, 1100, 1010, 1011, 1013, 1014, 1015, 1016, 1061, 1062, 1063, 753, 881, 293, 294, 428, 295, 429, 599, 430, 204, 296, 431, 600, 601, 602, 754, 882, 883, 884, 885, 298, 432, 433, 603, 755, 756, 886, 959, 1017, 1018, 1019, 960, 1020, 1064, 889, 887, 888, 961, 963, 1065, 898, 967, 891, 964, 1101, 1102, 965, 890, 1103, 1136, 757, 758, 759, 760, 892, 893, 894, 895, 761, 896, 762, 763, 764, 765, 766, 767, 768, 770, 769, 771, 772, 899, 773, 774, 775, 776, 604, 297, 41, 42, 73, 129, 74, 43, 75, 130, 44, 45, 19, 9, 13, 25, 21, 26, 15, 14, 23, 27, 16, 7]
theorem some_map {α : Type} (l : List α) (g : Nat) : (trSome (l.map some) 0 .lf).get g = l[g]? := by
  rw [trSome_zero, List.getElem?_map]
  cases l[g]? <;> rfl
theorem at_map {α : Type} {P : Program} {f : Func → α} {l : List α} (h : P.funcs.toList.map f = l) (g : Nat) : (P.funcs[g]?).map f = l[g]? := by
  rw [← h, List.getElem?_map, Array.getElem?_toList]
noncomputable def leadT : Tr (List Nat) := trSome (lead.map some) 0 .lf
theorem lead_at (f : Nat) : (Tryz.prog.funcs[f]?).elim [] Tryz.prog.leadsTo = (leadT.get f).getD [] := by
  unfold leadT
  rw [some_map, ← at_map lead_eq f]
  cases Tryz.prog.funcs[f]? <;> rfl
theorem lead_sum0 : (lead.map fun l => l.length + 1).sum = 4158 := by kernel_rfl
theorem lead_sum : (Tryz.prog.funcs.toList.map fun g => (Tryz.prog.leadsTo g).length + 1).sum = 4158 := by
  have h : (Tryz.prog.funcs.toList.map fun g => (Tryz.prog.leadsTo g).length + 1) = (Tryz.prog.funcs.toList.map Tryz.prog.leadsTo).map fun l => l.length + 1 := by rw [List.map_map]; rfl
  rw [h, lead_eq]
  exact lead_sum0
theorem closW_clos : closW leadT (1 + 4158) [5] [] .lf = clos := by kernel_rfl
theorem clos_eq : Tryz.prog.closure 5 = clos := by
  unfold Program.closure
  rw [lead_sum, closW_eq lead_at _ _ _ .lf (fun f => by rw [Tr.get_lf]; rfl), closW_clos]
noncomputable def placeT : Tr String := trSome place 0 .lf
theorem place_run : clos.filterMap placeT.get = Rows.shopWritesRow.inPlace := by kernel_rfl
theorem fact_inPlace : Tryz.prog.inPlace 5 = Rows.shopWritesRow.inPlace := by
  unfold Program.inPlace
  rw [clos_eq]
  have h : (fun g : Nat => (Tryz.prog.funcs[g]?).bind fun fn => if fn.ours || fn.body.isNone || fn.name == "runtime.NumGoroutine" then some fn.name else none) = placeT.get := by
    funext g
    unfold placeT
    rw [trSome_zero, ← at_map place_eq g]
    cases Tryz.prog.funcs[g]? <;> rfl
  rw [h]
  exact place_run
theorem fact_unfollowed : Tryz.prog.unfollowed 5 = true := by
  unfold Program.unfollowed
  rw [clos_eq]
  refine List.any_eq_true.2 ⟨168, ?_, ?_⟩
  · exact List.contains_iff_mem.1 (show clos.contains 168 = true by kernel_rfl)
  · rw [Tryz.func168]
    kernel_rfl
theorem fact_recurses : Tryz.prog.recurses 5 = true := by
  unfold Program.recurses
  rw [fact_unfollowed, Bool.true_or]
noncomputable def namedT : Tr (List Nat) := trSome (named.map some) 0 .lf
noncomputable def readsT : Tr String := trSome reads 0 .lf
theorem named_run : (((clos.flatMap fun g => (namedT.get g).getD []).eraseDups).filterMap (fun g => (Tryz.prog.globals[g]?).map (·.name)) ++ clos.filterMap readsT.get).eraseDups = Rows.shopWritesRow.named := by kernel_rfl
theorem fact_named : Tryz.prog.varsNamed 5 = Rows.shopWritesRow.named := by
  unfold Program.varsNamed
  rw [clos_eq]
  have h1 : (fun g : Nat => ((Tryz.prog.funcs[g]?).bind (·.body)).elim [] Code.globalsNamed) = fun g => (namedT.get g).getD [] := by
    funext g
    unfold namedT
    rw [some_map, ← at_map named_eq g]
    cases Tryz.prog.funcs[g]? <;> rfl
  have h2 : (fun g : Nat => (Tryz.prog.funcs[g]?).bind fun fn => if fn.body.isNone then entryReads.lookup fn.name else none) = readsT.get := by
    funext g
    unfold readsT
    rw [trSome_zero, ← at_map reads_eq g]
    cases Tryz.prog.funcs[g]? <;> rfl
  rw [h1, h2]
  exact named_run
noncomputable def lawT : Tr Unit := trSome (isLaw.map fun b => bif b then some () else none) 0 .lf
theorem law_run : ((List.range 1233).filter fun i => (lawT.get i).isSome) = [5] := by kernel_rfl
theorem funcNamed_of {P : Program} {name : String} {n i : Nat} (T : Tr Unit) (hs : P.funcs.size = n) (h : ∀ j : Nat, (P.funcs[j]?).any (·.name == name) = (T.get j).isSome) (hr : ((List.range n).filter fun j => (T.get j).isSome) = [i]) : P.funcNamed name = some i := by
  subst hs
  unfold Program.funcNamed
  have e : (fun j : Nat => (P.funcs[j]?).any (·.name == name)) = fun j => (T.get j).isSome := funext h
  rw [e, hr]
theorem named_at {P : Program} {name : String} {l : List Bool} (h : P.funcs.toList.map (fun fn => fn.name == name) = l) (j : Nat) : (P.funcs[j]?).any (·.name == name) = ((trSome (l.map fun b => bif b then some () else none) 0 .lf).get j).isSome := by
  rw [trSome_zero, List.getElem?_map, ← at_map h j]
  cases P.funcs[j]? with
  | none => rfl
  | some fn =>
    simp only [Option.any_some, Option.map_some, Option.bind_some, id]
    cases fn.name == name <;> rfl
theorem size_eq : Tryz.prog.funcs.size = 1233 := by rw [← Array.length_toList]; exact funcs_size
theorem fact_func : Tryz.prog.funcNamed Rows.shopWritesRow.func = some 5 := funcNamed_of lawT size_eq (named_at isLaw_eq) law_run
theorem goes_run : goes.all (fun b => !b) = true := by kernel_rfl
theorem goes_no (g : Nat) : (Tryz.prog.funcs[g]?).any Func.goes = false := by
  have h := at_map goes_eq g
  cases hf : Tryz.prog.funcs[g]? with
  | none => rfl
  | some fn =>
    rw [hf, Option.map_some] at h
    have hm := List.mem_of_getElem? h.symm
    have := List.all_eq_true.1 goes_run _ hm
    simpa using this
theorem fact_goes : false = Rows.shopWritesRow.goesBy Tryz.prog := by
  unfold OpenClaim.goesBy Program.goesAt Program.goesFrom
  rw [fact_func]
  have h1 : Tryz.prog.goes 5 = false := by
    unfold Program.goes
    have h2 : (Tryz.prog.funcs.any Func.goes) = false := by
      rw [Array.any_eq_false]
      intro i hi hg
      have := goes_no i
      rw [Array.getElem?_eq_getElem hi] at this
      simp only [Option.any_some] at this
      rw [this] at hg
      cases hg
    rw [h2, Bool.and_false, Bool.or_false, List.any_eq_false]
    intro g _ hg
    rw [goes_no g] at hg
    cases hg
  rw [Option.any_some, h1, Bool.false_or]
  rfl
end Go.Proofs.YtopiclpameaglaaGreatDoor
end
