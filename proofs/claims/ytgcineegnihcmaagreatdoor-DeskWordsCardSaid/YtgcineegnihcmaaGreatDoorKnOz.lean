/-
  The statement DeskWords holds: the abstract machine AM, run symbolically over the program's own text, answers true; what it answers the model answers. No conditions.
-/
import Derived.Test.YtgcineegnihcmaaGreatDoorRows
import Derived.Test.YtgcineegnihcmaaGreatDoorDswA
import Derived.Test.YtgcineegnihcmaaGreatDoorKnCut0
import Derived.KernelRfl
import Derived.WalkKit
import Derived.Test.YtgcineegnihcmaaGreatDoorCards
import Derived.SevenTiedAt
import Derived.ProofKit
import Derived.OpenShut
import Derived.MakeChecks
import Derived.LaidMore
import Derived.Lay
import Derived.Stop.Joined
namespace Go.Proofs.YtgcineegnihcmaaGreatDoor.deskWords
open Go.ChangeShapes Go.WideMaps Go.WideElems Go.WideShapes Go.ChangeAt Go.RowKit Go.Am
set_option linter.unusedVariables false      -- a walk need not use every 'w<i>' (that an integer argument fits its kind)

/-- As Program.closureVia, with what was seen told by bits. -/
def cvB (P : Program) : Nat → List FuncId → List FuncId → Nat → List FuncId
  | 0, _, seen, _ => seen.reverse
  | _, [], seen, _ => seen.reverse
  | n + 1, f :: todo, seen, acc => bif Nat.beq (Nat.land 1 (Nat.shiftRight acc f)) 0 then cvB P n ((P.funcs[f]?).elim [] P.leadsTo ++ todo) (f :: seen) (Nat.lor acc (Nat.pow 2 f)) else cvB P n todo seen acc
theorem cvB_eq (P : Program) : ∀ (n : Nat) (todo seen : List FuncId) (acc : Nat), (∀ f : Nat, acc.testBit f = seen.contains f) → cvB P n todo seen acc = P.closureVia n todo seen
  | 0, _, _, _, _ => by simp [cvB, Program.closureVia]
  | _ + 1, [], _, _, _ => by simp [cvB, Program.closureVia]
  | n + 1, f :: todo, seen, acc, h => by
    have hb : Nat.beq (Nat.land 1 (Nat.shiftRight acc f)) 0 = !seen.contains f := by
      rw [← h f]
      unfold Nat.testBit
      show Nat.beq (1 &&& (acc >>> f)) 0 = !(1 &&& (acc >>> f) != 0)
      cases 1 &&& (acc >>> f) <;> rfl
    unfold cvB Program.closureVia
    rw [hb]
    cases hs : seen.contains f with
    | true => simpa using cvB_eq P n todo seen acc h
    | false =>
      refine (cvB_eq P n _ (f :: seen) _ fun g => ?_).trans (by simp)
      show (acc ||| 2 ^ f).testBit g = (f :: seen).contains g
      rw [Nat.testBit_or, Nat.testBit_two_pow, h g, List.contains_cons]
      rw [Bool.or_comm]
      congr 1
      by_cases e : f = g
      · subst e; simp
      · simp [e, Ne.symm e]
set_option maxRecDepth 100000 in
theorem clos : (Tryz.pinned.checked.prog).closure 3 = [3, 5, 9, 21, 11, 27, 28, 29, 49, 50, 51, 93, 7, 17, 33, 43, 86, 119, 87, 88, 89, 120, 18, 35, 34, 36, 38, 77, 37, 40, 79, 115, 78, 114, 30, 71, 107, 108, 39, 19, 41, 80, 81, 42, 82, 116, 83, 84, 118, 142, 162, 73, 74, 110, 109, 111, 75, 76, 112, 113, 140, 141, 117, 85, 52, 53, 15, 32, 54, 55, 94, 95, 96, 123, 143, 163, 164, 165, 166, 205, 206, 124, 222, 276, 277, 125, 144, 223, 147, 180, 181, 229, 255, 327, 406, 407, 470, 471, 472, 523, 572, 522, 570, 589, 571, 249, 321, 590, 599, 605, 615, 600, 612, 601, 393, 394, 602, 613, 614, 616, 603, 604, 606, 607, 215, 245, 230, 182, 231, 250, 251, 252, 322, 398, 345, 415, 399, 457, 344, 414, 482, 529, 530, 323, 311, 217, 266, 267, 324, 400, 127, 25, 31, 72, 48, 92, 14, 16, 401, 102, 129, 148, 137, 158, 203, 157, 201, 247, 202, 248, 312, 318, 397, 313, 392, 314, 315, 395, 396, 466, 316, 317, 319, 320, 159, 204, 130, 138, 131, 402, 467, 160, 387, 462, 298, 386, 308, 326, 404, 469, 335, 410, 150, 183, 185, 184, 151, 243, 309, 152, 186, 136, 156, 200, 325, 403, 468, 405, 237, 294, 254, 241, 301, 302, 161, 253, 207, 167, 168, 169, 170, 171, 208, 172, 209, 210, 211, 145, 256, 328, 329, 331, 332, 408, 473, 524, 496, 474, 475, 476, 506, 526, 477, 527, 573, 13, 525, 409, 478, 528, 479, 480, 333, 289, 376, 435, 371, 436, 437, 501, 500, 554, 553, 502, 556, 385, 461, 557, 555, 503, 558, 377, 438, 439, 504, 505, 440, 441, 507, 559, 583, 584, 595, 585, 597, 596, 508, 509, 442, 443, 510, 511, 444, 445, 446, 512, 513, 514, 515, 560, 516, 517, 334, 336, 337, 338, 330, 270, 212, 213, 257, 339, 340, 341, 342, 411, 214, 258, 343, 412, 413, 481, 259, 346, 261, 348, 349, 416, 260, 347, 262, 350, 263, 264, 351, 352, 417, 265, 353, 418, 216, 218, 173, 219, 220, 269, 268, 355, 419, 420, 483, 484, 485, 486, 354, 356, 272, 357, 421, 422, 487, 531, 574, 591, 608, 609, 282, 610, 592, 423, 179, 225, 281, 226, 227, 228, 358, 424, 273, 274, 275, 359, 360, 271, 174, 221, 133, 153, 188, 232, 189, 190, 233, 283, 284, 372, 431, 47, 373, 432, 498, 374, 433, 434, 499, 285, 375, 238, 295, 286, 287, 234, 288, 290, 378, 291, 191, 192, 235, 292, 379, 447, 518, 561, 380, 448, 519, 562, 381, 450, 563, 586, 564, 565, 587, 588, 598, 566, 567, 568, 569, 449, 293, 382, 236, 239, 296, 383, 384, 453, 452, 520, 454, 455, 456, 458, 459, 460, 451, 297, 193, 194, 240, 299, 300, 388, 195, 196, 242, 304, 305, 306, 390, 463, 464, 465, 521, 303, 389, 307, 187, 197, 244, 310, 391, 246, 175, 176, 177, 178, 224, 278, 361, 362, 425, 488, 489, 532, 533, 534, 535, 542, 579, 575, 593, 611, 543, 536, 537, 538, 577, 576, 540, 578, 541, 539, 490, 491, 280, 367, 430, 368, 369, 370, 279, 363, 426, 364, 365, 427, 366, 428, 492, 544, 545, 580, 546, 547, 581, 582, 594, 548, 549, 550, 551, 429, 494, 495, 552, 497, 493, 99, 6, 12, 66, 105, 134, 154, 198, 199, 100, 56, 97, 57, 98, 126, 146, 58, 101, 128, 59, 60, 61, 62, 103, 132, 149, 104, 63, 64, 65, 67, 68, 69, 70, 106, 135, 155, 139, 22, 44, 90, 121, 91, 122, 20, 8] := by
  unfold Program.closure
  rw [← cvB_eq _ _ _ _ 0 (fun f => by simp)]
  kernel_rfl
end Go.Proofs.YtgcineegnihcmaaGreatDoor.deskWords
