/- What the functions of the blocks compute, printed by this repo's hand printer. -/
import Derived.Test.YtcmphfcpiciehaaPrintx0
import Derived.Test.YtcmphfcpiciehaaPrintx1
import Derived.Test.YtcmphfcpiciehaaPrintx5
import Derived.Test.YtcmphfcpiciehaaPrintx12
import Derived.Test.YtcmphfcpiciehaaPrintx13
import Derived.Test.YtcmphfcpiciehaaPrintx14
import Derived.Test.YtcmphfcpiciehaaPrintx21
import Derived.Test.YtcmphfcpiciehaaPrintx24
import Derived.Test.YtcmphfcpiciehaaPrintx28
namespace Go.Proofs.Ytcmphfcpiciehaa.Print
open Go.RowKit Go.Proofs.YtcmphfcpiciehaaW.PrintWords Go.Proofs.YtcmphfcpiciehaaW.PrintLast Go.Proofs.YtcmphfcpiciehaaW.PrintMore
attribute [local go_sem] max2_int min2_int max_two min_two max_three min_three max_four min_four   -- for this text's walks alone
set_option linter.unusedVariables false
set_option linter.unusedSimpArgs false

/-! ### clochelaw04_BlocksTurned: function 9 -/
mutual
def clochelaw04_BlocksTurned.j0 : Nat → List Int → Int → Bool → Option (Bool)
  | 0, _, _, _ => none
  | k + 1, x0, x1, x33 => if x33 = true then ((clochelaw04_alive.f k).bind fun t655 => (some t655)) else ((clochelaw04_wires.f x1).bind fun t656 => ((blocks_Turned.f k x0).bind fun bt657 => (if bt657.2 = 0 then ((clocheref04_IsShape.f k bt657.1).bind fun t663 => (if t663 = true then ((blocks_Turned.f k bt657.1).bind fun bt664 => ((blocks_Hooks.f k x0).bind fun bt668 => ((blocks_Hooks.f k bt657.1).bind fun bt672 => ((blocks_Core.f k x0 t656).bind fun bt676 => ((blocks_Core.f k bt657.1 t656).bind fun bt681 => ((blocks_Quotient.f k x0 t656).bind fun bt686 => ((blocks_Quotient.f k bt657.1 t656).bind fun bt690 => (if bt664.2 = 0 then (if bt668.2 = 0 then (if bt672.2 = 0 then (if bt676.2.2 = 0 then (if bt681.2.2 = 0 then (if bt686.2 = 0 then (if bt690.2 = 0 then ((clochelaw04_same.f k bt664.1 x0).bind fun t694 => (if t694 = true then ((clocheref04_Columns.f k bt676.1).bind fun t695 => ((clochelaw04_same.f k bt681.1 t695).bind fun t698 => (if t698 = true then (if bt676.2.1 = bt681.2.1 then (if (bt686.1.length : Int) = t656 then (if (bt690.1.length : Int) = t656 then (if (bt668.1.length : Int) = (x0.length : Int) then (clochelaw04_BlocksTurned.j1 k x0 t656 bt668.1 bt672.1 bt686.1 bt690.1 ((bt672.1.length : Int) != (bt657.1.length : Int))) else (none)) else (none)) else (none)) else (none)) else (none)))) else (none))) else (none)) else (none)) else (none)) else (none)) else (none)) else (none)) else (none))))))))) else (none))) else (if bt657.2 = 8 then (if (x0.length : Int) > 0 then (if 0 < (x0.length : Int) then (if (rd x0 0) > 12 then ((clochelaw04_alive.f k).bind fun t662 => (some t662)) else (none)) else (none)) else (none)) else (none)))))
def clochelaw04_BlocksTurned.j1 : Nat → List Int → Int → List (List Int) → List (List Int) → List (List Int) → List (List Int) → Bool → Option (Bool)
  | 0, _, _, _, _, _, _, _ => none
  | k + 1, x0, x5, x9, x11, x19, x21, x173 => if x173 = true then (none) else (clochelaw04_BlocksTurned.l0 k x0 x5 x9 x11 x19 x21 0)
def clochelaw04_BlocksTurned.l0 : Nat → List Int → Int → List (List Int) → List (List Int) → List (List Int) → List (List Int) → Int → Option (Bool)
  | 0, _, _, _, _, _, _, _ => none
  | k + 1, x0, x5, x9, x11, x19, x21, x23 => if x23 < (x9.length : Int) then (if 0 ≤ x23 then (if x23 < (x0.length : Int) then (if ((rd_L1 x9 x23).length : Int) = (rd x0 x23) then (clochelaw04_BlocksTurned.l1 k x0 x5 x9 x11 x19 x21 x23 0) else (none)) else (none)) else (none)) else (clochelaw04_BlocksTurned.l2 k x5 x19 x21 0)
def clochelaw04_BlocksTurned.l1 : Nat → List Int → Int → List (List Int) → List (List Int) → List (List Int) → List (List Int) → Int → Int → Option (Bool)
  | 0, _, _, _, _, _, _, _, _ => none
  | k + 1, x0, x5, x9, x11, x19, x21, x23, x24 => if 0 ≤ x23 then (if x23 < (x9.length : Int) then (if x24 < ((rd_L1 x9 x23).length : Int) then (if x24 ≥ (x11.length : Int) then (none) else (if 0 ≤ x24 then (if x24 < (x11.length : Int) then (if x23 ≥ ((rd_L1 x11 x24).length : Int) then (none) else (if x23 < ((rd_L1 x11 x24).length : Int) then (if (rd (rd_L1 x11 x24) x23) = (rd (rd_L1 x9 x23) x24) then (clochelaw04_BlocksTurned.l1 k x0 x5 x9 x11 x19 x21 x23 (wrap64 (x24 + 1))) else (none)) else (none))) else (none)) else (none))) else (clochelaw04_BlocksTurned.l0 k x0 x5 x9 x11 x19 x21 (wrap64 (x23 + 1)))) else (none)) else (none)
def clochelaw04_BlocksTurned.l2 : Nat → Int → List (List Int) → List (List Int) → Int → Option (Bool)
  | 0, _, _, _, _ => none
  | k + 1, x5, x19, x21, x25 => if x25 < x5 then (if 0 ≤ x25 then (if x25 < (x19.length : Int) then ((clocheref04_IsShape.f k (rd_L1 x19 x25)).bind fun t709 => (if t709 = true then (if 0 ≤ (wrap64 ((wrap64 (x5 - 1)) - x25)) then (if (wrap64 ((wrap64 (x5 - 1)) - x25)) < (x21.length : Int) then ((clocheref04_Columns.f k (rd_L1 x19 x25)).bind fun t712 => ((clochelaw04_same.f k (rd_L1 x21 (wrap64 ((wrap64 (x5 - 1)) - x25))) t712).bind fun t715 => (if t715 = true then (clochelaw04_BlocksTurned.l2 k x5 x19 x21 (wrap64 (x25 + 1))) else (none)))) else (none)) else (none)) else (none))) else (none)) else (none)) else ((clochelaw04_alive.f k).bind fun t707 => (some t707))
end
def clochelaw04_BlocksTurned.f (k : Nat) (l0 : List Int) (a1 : Int) : Option (Bool) := (clochelaw04_few.f k l0 ([] : List (List Int))).bind fun t653 => (if t653 = true then ((clocheref04_IsShape.f k l0).bind fun t654 => (clochelaw04_BlocksTurned.j0 k l0 a1 (!t654))) else (clochelaw04_BlocksTurned.j0 k l0 a1 true))
theorem clochelaw04_BlocksTurned.mono_l : ∀ k, (∀ y0 y1 y2, LeO (clochelaw04_BlocksTurned.j0 k y0 y1 y2) (clochelaw04_BlocksTurned.j0 (k + 1) y0 y1 y2)) ∧ (∀ y0 y1 y2 y3 y4 y5 y6, LeO (clochelaw04_BlocksTurned.j1 k y0 y1 y2 y3 y4 y5 y6) (clochelaw04_BlocksTurned.j1 (k + 1) y0 y1 y2 y3 y4 y5 y6)) ∧ (∀ y0 y1 y2 y3 y4 y5 y6, LeO (clochelaw04_BlocksTurned.l0 k y0 y1 y2 y3 y4 y5 y6) (clochelaw04_BlocksTurned.l0 (k + 1) y0 y1 y2 y3 y4 y5 y6)) ∧ (∀ y0 y1 y2 y3 y4 y5 y6 y7, LeO (clochelaw04_BlocksTurned.l1 k y0 y1 y2 y3 y4 y5 y6 y7) (clochelaw04_BlocksTurned.l1 (k + 1) y0 y1 y2 y3 y4 y5 y6 y7)) ∧ (∀ y0 y1 y2 y3, LeO (clochelaw04_BlocksTurned.l2 k y0 y1 y2 y3) (clochelaw04_BlocksTurned.l2 (k + 1) y0 y1 y2 y3))
  | 0 => ⟨fun _ _ _ r h => by simp [clochelaw04_BlocksTurned.j0] at h, fun _ _ _ _ _ _ _ r h => by simp [clochelaw04_BlocksTurned.j1] at h, fun _ _ _ _ _ _ _ r h => by simp [clochelaw04_BlocksTurned.l0] at h, fun _ _ _ _ _ _ _ _ r h => by simp [clochelaw04_BlocksTurned.l1] at h, fun _ _ _ _ r h => by simp [clochelaw04_BlocksTurned.l2] at h⟩
  | k + 1 => by
    obtain ⟨ih0, ih1, ih2, ih3, ih4⟩ := clochelaw04_BlocksTurned.mono_l k
    refine ⟨?_, ?_, ?_, ?_, ?_⟩
    · intro y0 y1 y2
      unfold clochelaw04_BlocksTurned.j0
      repeat' first
      | (with_reducible exact ih0 _ _ _)
      | (with_reducible exact ih1 _ _ _ _ _ _ _)
      | (with_reducible exact ih2 _ _ _ _ _ _ _)
      | (with_reducible exact ih3 _ _ _ _ _ _ _ _)
      | (with_reducible exact ih4 _ _ _ _)
      | (with_reducible exact blocks_Core.mono _ _ _)
      | (with_reducible exact blocks_Hooks.mono _ _)
      | (with_reducible exact blocks_Quotient.mono _ _ _)
      | (with_reducible exact blocks_Turned.mono _ _)
      | (with_reducible exact clochelaw04_alive.mono _)
      | (with_reducible exact clochelaw04_few.mono _ _ _)
      | (with_reducible exact clochelaw04_same.mono _ _ _)
      | (with_reducible exact clocheref04_Columns.mono _ _)
      | (with_reducible exact clocheref04_IsShape.mono _ _)
      | (with_reducible exact LeO.refl _)
      | (with_reducible exact LeO.none _)
      | (with_reducible refine LeO.ite ?_ ?_)
      | (with_reducible refine LeO.bind ?_ (fun _ => ?_))
      | exact ih0 _ _ _
      | exact ih1 _ _ _ _ _ _ _
      | exact ih2 _ _ _ _ _ _ _
      | exact ih3 _ _ _ _ _ _ _ _
      | exact ih4 _ _ _ _
      | exact blocks_Core.mono _ _ _
      | exact blocks_Hooks.mono _ _
      | exact blocks_Quotient.mono _ _ _
      | exact blocks_Turned.mono _ _
      | exact clochelaw04_alive.mono _
      | exact clochelaw04_few.mono _ _ _
      | exact clochelaw04_same.mono _ _ _
      | exact clocheref04_Columns.mono _ _
      | exact clocheref04_IsShape.mono _ _
      | exact LeO.none _
      | refine LeO.ite ?_ ?_
      | refine LeO.bind ?_ (fun _ => ?_)
    · intro y0 y1 y2 y3 y4 y5 y6
      unfold clochelaw04_BlocksTurned.j1
      repeat' first
      | (with_reducible exact ih0 _ _ _)
      | (with_reducible exact ih1 _ _ _ _ _ _ _)
      | (with_reducible exact ih2 _ _ _ _ _ _ _)
      | (with_reducible exact ih3 _ _ _ _ _ _ _ _)
      | (with_reducible exact ih4 _ _ _ _)
      | (with_reducible exact blocks_Core.mono _ _ _)
      | (with_reducible exact blocks_Hooks.mono _ _)
      | (with_reducible exact blocks_Quotient.mono _ _ _)
      | (with_reducible exact blocks_Turned.mono _ _)
      | (with_reducible exact clochelaw04_alive.mono _)
      | (with_reducible exact clochelaw04_few.mono _ _ _)
      | (with_reducible exact clochelaw04_same.mono _ _ _)
      | (with_reducible exact clocheref04_Columns.mono _ _)
      | (with_reducible exact clocheref04_IsShape.mono _ _)
      | (with_reducible exact LeO.refl _)
      | (with_reducible exact LeO.none _)
      | (with_reducible refine LeO.ite ?_ ?_)
      | (with_reducible refine LeO.bind ?_ (fun _ => ?_))
      | exact ih0 _ _ _
      | exact ih1 _ _ _ _ _ _ _
      | exact ih2 _ _ _ _ _ _ _
      | exact ih3 _ _ _ _ _ _ _ _
      | exact ih4 _ _ _ _
      | exact blocks_Core.mono _ _ _
      | exact blocks_Hooks.mono _ _
      | exact blocks_Quotient.mono _ _ _
      | exact blocks_Turned.mono _ _
      | exact clochelaw04_alive.mono _
      | exact clochelaw04_few.mono _ _ _
      | exact clochelaw04_same.mono _ _ _
      | exact clocheref04_Columns.mono _ _
      | exact clocheref04_IsShape.mono _ _
      | exact LeO.none _
      | refine LeO.ite ?_ ?_
      | refine LeO.bind ?_ (fun _ => ?_)
    · intro y0 y1 y2 y3 y4 y5 y6
      unfold clochelaw04_BlocksTurned.l0
      repeat' first
      | (with_reducible exact ih0 _ _ _)
      | (with_reducible exact ih1 _ _ _ _ _ _ _)
      | (with_reducible exact ih2 _ _ _ _ _ _ _)
      | (with_reducible exact ih3 _ _ _ _ _ _ _ _)
      | (with_reducible exact ih4 _ _ _ _)
      | (with_reducible exact blocks_Core.mono _ _ _)
      | (with_reducible exact blocks_Hooks.mono _ _)
      | (with_reducible exact blocks_Quotient.mono _ _ _)
      | (with_reducible exact blocks_Turned.mono _ _)
      | (with_reducible exact clochelaw04_alive.mono _)
      | (with_reducible exact clochelaw04_few.mono _ _ _)
      | (with_reducible exact clochelaw04_same.mono _ _ _)
      | (with_reducible exact clocheref04_Columns.mono _ _)
      | (with_reducible exact clocheref04_IsShape.mono _ _)
      | (with_reducible exact LeO.refl _)
      | (with_reducible exact LeO.none _)
      | (with_reducible refine LeO.ite ?_ ?_)
      | (with_reducible refine LeO.bind ?_ (fun _ => ?_))
      | exact ih0 _ _ _
      | exact ih1 _ _ _ _ _ _ _
      | exact ih2 _ _ _ _ _ _ _
      | exact ih3 _ _ _ _ _ _ _ _
      | exact ih4 _ _ _ _
      | exact blocks_Core.mono _ _ _
      | exact blocks_Hooks.mono _ _
      | exact blocks_Quotient.mono _ _ _
      | exact blocks_Turned.mono _ _
      | exact clochelaw04_alive.mono _
      | exact clochelaw04_few.mono _ _ _
      | exact clochelaw04_same.mono _ _ _
      | exact clocheref04_Columns.mono _ _
      | exact clocheref04_IsShape.mono _ _
      | exact LeO.none _
      | refine LeO.ite ?_ ?_
      | refine LeO.bind ?_ (fun _ => ?_)
    · intro y0 y1 y2 y3 y4 y5 y6 y7
      unfold clochelaw04_BlocksTurned.l1
      repeat' first
      | (with_reducible exact ih0 _ _ _)
      | (with_reducible exact ih1 _ _ _ _ _ _ _)
      | (with_reducible exact ih2 _ _ _ _ _ _ _)
      | (with_reducible exact ih3 _ _ _ _ _ _ _ _)
      | (with_reducible exact ih4 _ _ _ _)
      | (with_reducible exact blocks_Core.mono _ _ _)
      | (with_reducible exact blocks_Hooks.mono _ _)
      | (with_reducible exact blocks_Quotient.mono _ _ _)
      | (with_reducible exact blocks_Turned.mono _ _)
      | (with_reducible exact clochelaw04_alive.mono _)
      | (with_reducible exact clochelaw04_few.mono _ _ _)
      | (with_reducible exact clochelaw04_same.mono _ _ _)
      | (with_reducible exact clocheref04_Columns.mono _ _)
      | (with_reducible exact clocheref04_IsShape.mono _ _)
      | (with_reducible exact LeO.refl _)
      | (with_reducible exact LeO.none _)
      | (with_reducible refine LeO.ite ?_ ?_)
      | (with_reducible refine LeO.bind ?_ (fun _ => ?_))
      | exact ih0 _ _ _
      | exact ih1 _ _ _ _ _ _ _
      | exact ih2 _ _ _ _ _ _ _
      | exact ih3 _ _ _ _ _ _ _ _
      | exact ih4 _ _ _ _
      | exact blocks_Core.mono _ _ _
      | exact blocks_Hooks.mono _ _
      | exact blocks_Quotient.mono _ _ _
      | exact blocks_Turned.mono _ _
      | exact clochelaw04_alive.mono _
      | exact clochelaw04_few.mono _ _ _
      | exact clochelaw04_same.mono _ _ _
      | exact clocheref04_Columns.mono _ _
      | exact clocheref04_IsShape.mono _ _
      | exact LeO.none _
      | refine LeO.ite ?_ ?_
      | refine LeO.bind ?_ (fun _ => ?_)
    · intro y0 y1 y2 y3
      unfold clochelaw04_BlocksTurned.l2
      repeat' first
      | (with_reducible exact ih0 _ _ _)
      | (with_reducible exact ih1 _ _ _ _ _ _ _)
      | (with_reducible exact ih2 _ _ _ _ _ _ _)
      | (with_reducible exact ih3 _ _ _ _ _ _ _ _)
      | (with_reducible exact ih4 _ _ _ _)
      | (with_reducible exact blocks_Core.mono _ _ _)
      | (with_reducible exact blocks_Hooks.mono _ _)
      | (with_reducible exact blocks_Quotient.mono _ _ _)
      | (with_reducible exact blocks_Turned.mono _ _)
      | (with_reducible exact clochelaw04_alive.mono _)
      | (with_reducible exact clochelaw04_few.mono _ _ _)
      | (with_reducible exact clochelaw04_same.mono _ _ _)
      | (with_reducible exact clocheref04_Columns.mono _ _)
      | (with_reducible exact clocheref04_IsShape.mono _ _)
      | (with_reducible exact LeO.refl _)
      | (with_reducible exact LeO.none _)
      | (with_reducible refine LeO.ite ?_ ?_)
      | (with_reducible refine LeO.bind ?_ (fun _ => ?_))
      | exact ih0 _ _ _
      | exact ih1 _ _ _ _ _ _ _
      | exact ih2 _ _ _ _ _ _ _
      | exact ih3 _ _ _ _ _ _ _ _
      | exact ih4 _ _ _ _
      | exact blocks_Core.mono _ _ _
      | exact blocks_Hooks.mono _ _
      | exact blocks_Quotient.mono _ _ _
      | exact blocks_Turned.mono _ _
      | exact clochelaw04_alive.mono _
      | exact clochelaw04_few.mono _ _ _
      | exact clochelaw04_same.mono _ _ _
      | exact clocheref04_Columns.mono _ _
      | exact clocheref04_IsShape.mono _ _
      | exact LeO.none _
      | refine LeO.ite ?_ ?_
      | refine LeO.bind ?_ (fun _ => ?_)
theorem clochelaw04_BlocksTurned.mono : ∀ a0 a1 k, LeO (clochelaw04_BlocksTurned.f k a0 a1) (clochelaw04_BlocksTurned.f (k + 1) a0 a1) := by
  intro a0 a1 k
  obtain ⟨ih0, ih1, ih2, ih3, ih4⟩ := clochelaw04_BlocksTurned.mono_l k
  unfold clochelaw04_BlocksTurned.f
  repeat' first
      | (with_reducible exact ih0 _ _ _)
      | (with_reducible exact ih1 _ _ _ _ _ _ _)
      | (with_reducible exact ih2 _ _ _ _ _ _ _)
      | (with_reducible exact ih3 _ _ _ _ _ _ _ _)
      | (with_reducible exact ih4 _ _ _ _)
      | (with_reducible exact blocks_Core.mono _ _ _)
      | (with_reducible exact blocks_Hooks.mono _ _)
      | (with_reducible exact blocks_Quotient.mono _ _ _)
      | (with_reducible exact blocks_Turned.mono _ _)
      | (with_reducible exact clochelaw04_alive.mono _)
      | (with_reducible exact clochelaw04_few.mono _ _ _)
      | (with_reducible exact clochelaw04_same.mono _ _ _)
      | (with_reducible exact clocheref04_Columns.mono _ _)
      | (with_reducible exact clocheref04_IsShape.mono _ _)
      | (with_reducible exact LeO.refl _)
      | (with_reducible exact LeO.none _)
      | (with_reducible refine LeO.ite ?_ ?_)
      | (with_reducible refine LeO.bind ?_ (fun _ => ?_))
      | exact ih0 _ _ _
      | exact ih1 _ _ _ _ _ _ _
      | exact ih2 _ _ _ _ _ _ _
      | exact ih3 _ _ _ _ _ _ _ _
      | exact ih4 _ _ _ _
      | exact blocks_Core.mono _ _ _
      | exact blocks_Hooks.mono _ _
      | exact blocks_Quotient.mono _ _ _
      | exact blocks_Turned.mono _ _
      | exact clochelaw04_alive.mono _
      | exact clochelaw04_few.mono _ _ _
      | exact clochelaw04_same.mono _ _ _
      | exact clocheref04_Columns.mono _ _
      | exact clocheref04_IsShape.mono _ _
      | exact LeO.none _
      | refine LeO.ite ?_ ?_
      | refine LeO.bind ?_ (fun _ => ?_)
def clochelaw04_BlocksTurned.T21 : Bool × List (List Nat × List Nat) := (true, [([], []), ([], []), ([0, 1], [0, 1]), ([2], [2]), ([3], [3]), ([], []), ([], []), ([5, 6], [5, 6]), ([7], [7]), ([4, 8], [4, 8])])
def clochelaw04_BlocksTurned.B21 : List Nat := [0, 0, 3, 7, 15, 0, 0, 96, 224, 511]
theorem clochelaw04_BlocksTurned.tab21 : rtab .any (opsOf Try.f9 21) = clochelaw04_BlocksTurned.T21 := by kernel_rfl
theorem clochelaw04_BlocksTurned.bits21 : waitsOk clochelaw04_BlocksTurned.T21.2 clochelaw04_BlocksTurned.B21 = true := by kernel_rfl
def clochelaw04_BlocksTurned.T26 : Bool × List (List Nat × List Nat) := (true, [([], []), ([], []), ([1], [1]), ([0, 2], [0, 2]), ([3], [3]), ([4], [4]), ([4], [4]), ([4], [4]), ([6, 7, 4], [4, 6, 7]), ([8, 4], [4, 8]), ([9, 4], [4, 9]), ([5, 10, 4], [4, 5, 10]), ([4, 11], [4, 11]), ([12, 4], [12]), ([13], [13]), ([13], [13]), ([14, 15, 13], [13, 14, 15]), ([16, 13], [13, 16]), ([13], [13]), ([17, 18, 13], [13, 17, 18]), ([19, 13], [13, 19]), ([13], [13]), ([13], [13]), ([21, 22, 13], [13, 21, 22]), ([23, 13], [13, 23]), ([13], [13]), ([24, 25, 13], [13, 24, 25]), ([26, 13], [13, 26]), ([20, 27, 13], [13, 20, 27]), ([13, 28], [13, 28])])
def clochelaw04_BlocksTurned.B26 : List Nat := [0, 0, 2, 7, 15, 31, 31, 31, 223, 479, 991, 2047, 4095, 8191, 16383, 16383, 65535, 131071, 16383, 524287, 1048575, 16383, 16383, 6307839, 14696447, 16383, 65028095, 132136959, 268435455, 536870911]
theorem clochelaw04_BlocksTurned.tab26 : rtab .any (opsOf Try.f9 26) = clochelaw04_BlocksTurned.T26 := by kernel_rfl
theorem clochelaw04_BlocksTurned.bits26 : waitsOk clochelaw04_BlocksTurned.T26.2 clochelaw04_BlocksTurned.B26 = true := by kernel_rfl
def clochelaw04_BlocksTurned.T31 : Bool × List (List Nat × List Nat) := (true, [([], []), ([], []), ([0, 1], [0, 1]), ([2], [2]), ([3], [3]), ([4], [4]), ([5, 4], [5]), ([6], [6]), ([6], [6]), ([8, 6], [6, 8]), ([6], [6]), ([9, 10, 6], [6, 9, 10]), ([7, 11, 6], [6, 7, 11]), ([12, 6], [6, 12]), ([6], [6]), ([6], [6]), ([14, 15, 6], [6, 14, 15]), ([16, 6], [6, 16]), ([17, 6, 6], [6, 17]), ([13, 18, 18, 6], [6, 13, 18]), ([19, 6], [6, 19]), ([6, 20], [6, 20])])
def clochelaw04_BlocksTurned.B31 : List Nat := [0, 0, 3, 7, 15, 31, 63, 127, 127, 383, 127, 1919, 4095, 8191, 127, 127, 49279, 114815, 245887, 524287, 1048575, 2097151]
theorem clochelaw04_BlocksTurned.tab31 : rtab .any (opsOf Try.f9 31) = clochelaw04_BlocksTurned.T31 := by kernel_rfl
theorem clochelaw04_BlocksTurned.bits31 : waitsOk clochelaw04_BlocksTurned.T31.2 clochelaw04_BlocksTurned.B31 = true := by kernel_rfl
set_option maxHeartbeats 8000000 in
set_option maxRecDepth 100000 in
theorem clochelaw04_BlocksTurned.calls (k : Nat) (A0 : Option Addr) (c0 : Nat) (l0 : List Int) (a1 : Int) (r : Bool) (w : World) (hr0 : Kd.C (Kd.int .i64) w A0 l0.length l0) (hc0 : l0.length ≤ c0) (h : clochelaw04_BlocksTurned.f k l0 a1 = some r) :
    Calls Try.prog 9 #[.slice A0 l0.length c0, .int .u8 a1] w fun e w' => e = .returned (.bool r) ∧ Below w.heap.size w w' := by
  have HR0 := Aside0.mk hr0
  have HC0 := Aside0.mk hc0
  clear hr0 hc0
  have HB := Aside0.mk (Below.refl w.heap.size w)
  have H : ((clochelaw04_few.f k l0 ([] : List (List Int))).bind fun t653 => (if t653 = true then ((clocheref04_IsShape.f k l0).bind fun t654 => (clochelaw04_BlocksTurned.j0 k l0 a1 (!t654))) else (clochelaw04_BlocksTurned.j0 k l0 a1 true))) = some r := h
  clear h
  have HC3 := Aside0.mk H
  clear H
  go_enter Try.func9, Try.ntmps9
  go_upto_region 1 with (fail)
  go_cut [33] (fun v33 wc => ∃ (kq : Nat) (x33_2 : Bool), v33 = .bool x33_2 ∧ Aside0 (clochelaw04_BlocksTurned.j0 kq l0 a1 x33_2 = some r) ∧ Aside0 (kq ≤ k) ∧ Aside0 (Below w.heap.size w wc))
  case first =>
    have H := HC3.out
    clear HC3
    replace H := Option.bind_eq_some_iff.mp H
    obtain ⟨t653, A40, H⟩ := H
    replace H : (if t653 = true then ((clocheref04_IsShape.f k l0).bind fun t654 => (clochelaw04_BlocksTurned.j0 k l0 a1 (!t654))) else (clochelaw04_BlocksTurned.j0 k l0 a1 true)) = some r := H
    have A4 := Aside0.mk A40
    clear A40
    by_cases c5 : t653 = true
    · subst c5
      have H1 : ((clocheref04_IsShape.f k l0).bind fun t654 => (clochelaw04_BlocksTurned.j0 k l0 a1 (!t654))) = some r := by rw [if_pos rfl] at H; exact H
      clear H
      have H := H1
      clear H1
      replace H := Option.bind_eq_some_iff.mp H
      obtain ⟨t654, A60, H⟩ := H
      replace H : (clochelaw04_BlocksTurned.j0 k l0 a1 (!t654)) = some r := H
      have A6 := Aside0.mk A60
      clear A60
      have H' := Aside0.mk H
      clear H
      go_wp2_with (first | ((with_reducible refine gate_callee (f := 15) rfl ?_); refine goesL_ (some 27) rfl rfl Try.func15 (by kernel_rfl) rfl #[.slice A0 l0.length c0, .slice none 0 0] rfl (by (try simp only [List.map_toArray, List.map_cons, List.map_nil]); first | done | rfl | (simp only [List.length_drop, List.length_take]; rfl)) ?_; (refine (clochelaw04_few.calls k _ _ l0 _ _ ([] : List (List Int)) true _ ?side1 ?side2 ?side3 ?side4 A4.out).mono ?_); (case side1 => repeat (first | exact (Kd.C_below HR0.out HB.out) | (with_reducible refine Kd.C_alloc ?_ _) | (with_reducible refine Kd.C_drewN ?_ _) | (with_reducible refine Kd.C_drew ?_))); (case side2 => exact HC0.out); (case side3 => exact Kd.C_nil _ _); (case side4 => exact Nat.le_refl _); rintro e w' ⟨rfl, ⟨nd, rfl⟩⟩; refine ⟨_, rfl, ?_⟩) | (go_at_call 25; (with_reducible refine (clocheref04_IsShape.calls k _ _ l0 t654 _ ?side1 ?side2 A6.out).mono ?_); (case side1 => repeat (first | exact (Kd.C_below HR0.out (by repeat (first | (with_reducible first | exact HB.out | apply below_alloc | apply pw_below_drewN | apply below_drew1) | exact HB.out))) | (with_reducible refine Kd.C_alloc ?_ _) | (with_reducible refine Kd.C_drewN ?_ _) | (with_reducible refine Kd.C_drew ?_))); (case side2 => exact HC0.out); rintro e w' ⟨rfl, ⟨nd, rfl⟩⟩))
      go_meet
      case rel => exact ⟨_, (!t654), (by first | rfl | (simp; done) | (simp [*]; done)), H', ⟨by first | omega | exact Nat.le_refl _⟩, ⟨by repeat (first | (with_reducible first | exact HB.out | apply below_alloc | apply pw_below_drewN | apply below_drew1) | exact HB.out)⟩⟩
    · replace c5 := Bool.eq_false_iff.mpr c5
      subst c5
      have H1 : (clochelaw04_BlocksTurned.j0 k l0 a1 true) = some r := by rw [if_neg (show ¬ (false = true) by decide)] at H; exact H
      clear H
      have H := H1
      clear H1
      have H' := Aside0.mk H
      clear H
      go_wp2_with (first | ((with_reducible refine gate_callee (f := 15) rfl ?_); refine goesL_ (some 27) rfl rfl Try.func15 (by kernel_rfl) rfl #[.slice A0 l0.length c0, .slice none 0 0] rfl (by (try simp only [List.map_toArray, List.map_cons, List.map_nil]); first | done | rfl | (simp only [List.length_drop, List.length_take]; rfl)) ?_; (refine (clochelaw04_few.calls k _ _ l0 _ _ ([] : List (List Int)) false _ ?side1 ?side2 ?side3 ?side4 A4.out).mono ?_); (case side1 => repeat (first | exact (Kd.C_below HR0.out HB.out) | (with_reducible refine Kd.C_alloc ?_ _) | (with_reducible refine Kd.C_drewN ?_ _) | (with_reducible refine Kd.C_drew ?_))); (case side2 => exact HC0.out); (case side3 => exact Kd.C_nil _ _); (case side4 => exact Nat.le_refl _); rintro e w' ⟨rfl, ⟨nd, rfl⟩⟩; refine ⟨_, rfl, ?_⟩))
      go_meet
      case rel => exact ⟨_, (true), (by first | rfl | (simp; done) | (simp [*]; done)), H', ⟨by first | omega | exact Nat.le_refl _⟩, ⟨by repeat (first | (with_reducible first | exact HB.out | apply below_alloc | apply pw_below_drewN | apply below_drew1) | exact HB.out)⟩⟩
  case rest =>
    clear HC3
    try clear c1
    try clear p2
    try clear c5
    obtain ⟨kq, x33_2, rfl, HA, HJ2, HB⟩ := hcut
    cases kq with
    | zero => exact absurd HA.out (by simp [clochelaw04_BlocksTurned.j0])
    | succ kj2 =>
      have H := HA.out
      clear HA
      simp only [clochelaw04_BlocksTurned.j0] at H
      by_cases c7 : x33_2 = true
      · subst c7
        have H1 : ((clochelaw04_alive.f kj2).bind fun t655 => (some t655)) = some r := by rw [if_pos rfl] at H; exact H
        clear H
        have H := H1
        clear H1
        replace H := Option.bind_eq_some_iff.mp H
        obtain ⟨t655, A80, H⟩ := H
        replace H : (some t655) = some r := H
        have A8 := Aside0.mk A80
        clear A80
        obtain rfl := Option.some.inj H
        go_wp2_with (first | ((with_reducible refine gate_callee (f := 16) rfl ?_); refine goesL_ (some 34) rfl rfl Try.func16 (by kernel_rfl) rfl #[] rfl (by (try simp only [List.map_toArray, List.map_cons, List.map_nil]); first | done | rfl | (simp only [List.length_drop, List.length_take]; rfl)) ?_; (with_reducible refine (clochelaw04_alive.calls kj2  t655 _ A8.out).mono ?_); rintro e w9 ⟨rfl, hb⟩; refine ⟨_, rfl, ?_⟩; have n0_ := Aside0.mk (below_step (by repeat (first | (with_reducible first | exact HB.out | apply below_alloc | apply pw_below_drewN | apply below_drew1) | exact HB.out)) hb); clear HB; have HB := n0_; clear n0_; (try clear hb); (try clear hb2); (try clear hk); (try clear hi)))
        go_ret
        exact ⟨by first | rfl | (simp [errW_none, errW_some] <;> rfl) | (simp [*, errW_none, errW_some] <;> rfl), by repeat (first | (with_reducible first | exact HB.out | apply below_alloc | apply pw_below_drewN | apply below_drew1) | exact HB.out)⟩
      · replace c7 := Bool.eq_false_iff.mpr c7
        subst c7
        have H1 : ((clochelaw04_wires.f a1).bind fun t656 => ((blocks_Turned.f kj2 l0).bind fun bt657 => (if bt657.2 = 0 then ((clocheref04_IsShape.f kj2 bt657.1).bind fun t663 => (if t663 = true then ((blocks_Turned.f kj2 bt657.1).bind fun bt664 => ((blocks_Hooks.f kj2 l0).bind fun bt668 => ((blocks_Hooks.f kj2 bt657.1).bind fun bt672 => ((blocks_Core.f kj2 l0 t656).bind fun bt676 => ((blocks_Core.f kj2 bt657.1 t656).bind fun bt681 => ((blocks_Quotient.f kj2 l0 t656).bind fun bt686 => ((blocks_Quotient.f kj2 bt657.1 t656).bind fun bt690 => (if bt664.2 = 0 then (if bt668.2 = 0 then (if bt672.2 = 0 then (if bt676.2.2 = 0 then (if bt681.2.2 = 0 then (if bt686.2 = 0 then (if bt690.2 = 0 then ((clochelaw04_same.f kj2 bt664.1 l0).bind fun t694 => (if t694 = true then ((clocheref04_Columns.f kj2 bt676.1).bind fun t695 => ((clochelaw04_same.f kj2 bt681.1 t695).bind fun t698 => (if t698 = true then (if bt676.2.1 = bt681.2.1 then (if (bt686.1.length : Int) = t656 then (if (bt690.1.length : Int) = t656 then (if (bt668.1.length : Int) = (l0.length : Int) then (clochelaw04_BlocksTurned.j1 kj2 l0 t656 bt668.1 bt672.1 bt686.1 bt690.1 ((bt672.1.length : Int) != (bt657.1.length : Int))) else (none)) else (none)) else (none)) else (none)) else (none)))) else (none))) else (none)) else (none)) else (none)) else (none)) else (none)) else (none)) else (none))))))))) else (none))) else (if bt657.2 = 8 then (if (l0.length : Int) > 0 then (if 0 < (l0.length : Int) then (if (rd l0 0) > 12 then ((clochelaw04_alive.f kj2).bind fun t662 => (some t662)) else (none)) else (none)) else (none)) else (none))))) = some r := by rw [if_neg (show ¬ (false = true) by decide)] at H; exact H
        clear H
        have H := H1
        clear H1
        replace H := Option.bind_eq_some_iff.mp H
        obtain ⟨t656, A100, H⟩ := H
        replace H : ((blocks_Turned.f kj2 l0).bind fun bt657 => (if bt657.2 = 0 then ((clocheref04_IsShape.f kj2 bt657.1).bind fun t663 => (if t663 = true then ((blocks_Turned.f kj2 bt657.1).bind fun bt664 => ((blocks_Hooks.f kj2 l0).bind fun bt668 => ((blocks_Hooks.f kj2 bt657.1).bind fun bt672 => ((blocks_Core.f kj2 l0 t656).bind fun bt676 => ((blocks_Core.f kj2 bt657.1 t656).bind fun bt681 => ((blocks_Quotient.f kj2 l0 t656).bind fun bt686 => ((blocks_Quotient.f kj2 bt657.1 t656).bind fun bt690 => (if bt664.2 = 0 then (if bt668.2 = 0 then (if bt672.2 = 0 then (if bt676.2.2 = 0 then (if bt681.2.2 = 0 then (if bt686.2 = 0 then (if bt690.2 = 0 then ((clochelaw04_same.f kj2 bt664.1 l0).bind fun t694 => (if t694 = true then ((clocheref04_Columns.f kj2 bt676.1).bind fun t695 => ((clochelaw04_same.f kj2 bt681.1 t695).bind fun t698 => (if t698 = true then (if bt676.2.1 = bt681.2.1 then (if (bt686.1.length : Int) = t656 then (if (bt690.1.length : Int) = t656 then (if (bt668.1.length : Int) = (l0.length : Int) then (clochelaw04_BlocksTurned.j1 kj2 l0 t656 bt668.1 bt672.1 bt686.1 bt690.1 ((bt672.1.length : Int) != (bt657.1.length : Int))) else (none)) else (none)) else (none)) else (none)) else (none)))) else (none))) else (none)) else (none)) else (none)) else (none)) else (none)) else (none)) else (none))))))))) else (none))) else (if bt657.2 = 8 then (if (l0.length : Int) > 0 then (if 0 < (l0.length : Int) then (if (rd l0 0) > 12 then ((clochelaw04_alive.f kj2).bind fun t662 => (some t662)) else (none)) else (none)) else (none)) else (none)))) = some r := H
        have A10 := Aside0.mk A100
        clear A100
        replace H := Option.bind_eq_some_iff.mp H
        obtain ⟨⟨t657, t658⟩, A110, H⟩ := H
        replace H : (if t658 = 0 then ((clocheref04_IsShape.f kj2 t657).bind fun t663 => (if t663 = true then ((blocks_Turned.f kj2 t657).bind fun bt664 => ((blocks_Hooks.f kj2 l0).bind fun bt668 => ((blocks_Hooks.f kj2 t657).bind fun bt672 => ((blocks_Core.f kj2 l0 t656).bind fun bt676 => ((blocks_Core.f kj2 t657 t656).bind fun bt681 => ((blocks_Quotient.f kj2 l0 t656).bind fun bt686 => ((blocks_Quotient.f kj2 t657 t656).bind fun bt690 => (if bt664.2 = 0 then (if bt668.2 = 0 then (if bt672.2 = 0 then (if bt676.2.2 = 0 then (if bt681.2.2 = 0 then (if bt686.2 = 0 then (if bt690.2 = 0 then ((clochelaw04_same.f kj2 bt664.1 l0).bind fun t694 => (if t694 = true then ((clocheref04_Columns.f kj2 bt676.1).bind fun t695 => ((clochelaw04_same.f kj2 bt681.1 t695).bind fun t698 => (if t698 = true then (if bt676.2.1 = bt681.2.1 then (if (bt686.1.length : Int) = t656 then (if (bt690.1.length : Int) = t656 then (if (bt668.1.length : Int) = (l0.length : Int) then (clochelaw04_BlocksTurned.j1 kj2 l0 t656 bt668.1 bt672.1 bt686.1 bt690.1 ((bt672.1.length : Int) != (t657.length : Int))) else (none)) else (none)) else (none)) else (none)) else (none)))) else (none))) else (none)) else (none)) else (none)) else (none)) else (none)) else (none)) else (none))))))))) else (none))) else (if t658 = 8 then (if (l0.length : Int) > 0 then (if 0 < (l0.length : Int) then (if (rd l0 0) > 12 then ((clochelaw04_alive.f kj2).bind fun t662 => (some t662)) else (none)) else (none)) else (none)) else (none))) = some r := H
        have A11 := Aside0.mk A110
        clear A110
        by_cases c12 : t658 = 0
        · rw [if_pos c12] at H
          have c12b0 : (t658 == 0) = true := beq_iff_eq.mpr c12
          have c12b1 : (t658 != 0) = false := bne_eq_false_iff_eq.mpr c12
          clear c12
          replace H := Option.bind_eq_some_iff.mp H
          obtain ⟨t663, A130, H⟩ := H
          replace H : (if t663 = true then ((blocks_Turned.f kj2 t657).bind fun bt664 => ((blocks_Hooks.f kj2 l0).bind fun bt668 => ((blocks_Hooks.f kj2 t657).bind fun bt672 => ((blocks_Core.f kj2 l0 t656).bind fun bt676 => ((blocks_Core.f kj2 t657 t656).bind fun bt681 => ((blocks_Quotient.f kj2 l0 t656).bind fun bt686 => ((blocks_Quotient.f kj2 t657 t656).bind fun bt690 => (if bt664.2 = 0 then (if bt668.2 = 0 then (if bt672.2 = 0 then (if bt676.2.2 = 0 then (if bt681.2.2 = 0 then (if bt686.2 = 0 then (if bt690.2 = 0 then ((clochelaw04_same.f kj2 bt664.1 l0).bind fun t694 => (if t694 = true then ((clocheref04_Columns.f kj2 bt676.1).bind fun t695 => ((clochelaw04_same.f kj2 bt681.1 t695).bind fun t698 => (if t698 = true then (if bt676.2.1 = bt681.2.1 then (if (bt686.1.length : Int) = t656 then (if (bt690.1.length : Int) = t656 then (if (bt668.1.length : Int) = (l0.length : Int) then (clochelaw04_BlocksTurned.j1 kj2 l0 t656 bt668.1 bt672.1 bt686.1 bt690.1 ((bt672.1.length : Int) != (t657.length : Int))) else (none)) else (none)) else (none)) else (none)) else (none)))) else (none))) else (none)) else (none)) else (none)) else (none)) else (none)) else (none)) else (none))))))))) else (none)) = some r := H
          have A13 := Aside0.mk A130
          clear A130
          by_cases c14 : t663 = true
          · subst c14
            have H1 : ((blocks_Turned.f kj2 t657).bind fun bt664 => ((blocks_Hooks.f kj2 l0).bind fun bt668 => ((blocks_Hooks.f kj2 t657).bind fun bt672 => ((blocks_Core.f kj2 l0 t656).bind fun bt676 => ((blocks_Core.f kj2 t657 t656).bind fun bt681 => ((blocks_Quotient.f kj2 l0 t656).bind fun bt686 => ((blocks_Quotient.f kj2 t657 t656).bind fun bt690 => (if bt664.2 = 0 then (if bt668.2 = 0 then (if bt672.2 = 0 then (if bt676.2.2 = 0 then (if bt681.2.2 = 0 then (if bt686.2 = 0 then (if bt690.2 = 0 then ((clochelaw04_same.f kj2 bt664.1 l0).bind fun t694 => (if t694 = true then ((clocheref04_Columns.f kj2 bt676.1).bind fun t695 => ((clochelaw04_same.f kj2 bt681.1 t695).bind fun t698 => (if t698 = true then (if bt676.2.1 = bt681.2.1 then (if (bt686.1.length : Int) = t656 then (if (bt690.1.length : Int) = t656 then (if (bt668.1.length : Int) = (l0.length : Int) then (clochelaw04_BlocksTurned.j1 kj2 l0 t656 bt668.1 bt672.1 bt686.1 bt690.1 ((bt672.1.length : Int) != (t657.length : Int))) else (none)) else (none)) else (none)) else (none)) else (none)))) else (none))) else (none)) else (none)) else (none)) else (none)) else (none)) else (none)) else (none))))))))) = some r := by rw [if_pos rfl] at H; exact H
            clear H
            have H := H1
            clear H1
            replace H := Option.bind_eq_some_iff.mp H
            obtain ⟨⟨t664, t665⟩, A150, H⟩ := H
            replace H : ((blocks_Hooks.f kj2 l0).bind fun bt668 => ((blocks_Hooks.f kj2 t657).bind fun bt672 => ((blocks_Core.f kj2 l0 t656).bind fun bt676 => ((blocks_Core.f kj2 t657 t656).bind fun bt681 => ((blocks_Quotient.f kj2 l0 t656).bind fun bt686 => ((blocks_Quotient.f kj2 t657 t656).bind fun bt690 => (if t665 = 0 then (if bt668.2 = 0 then (if bt672.2 = 0 then (if bt676.2.2 = 0 then (if bt681.2.2 = 0 then (if bt686.2 = 0 then (if bt690.2 = 0 then ((clochelaw04_same.f kj2 t664 l0).bind fun t694 => (if t694 = true then ((clocheref04_Columns.f kj2 bt676.1).bind fun t695 => ((clochelaw04_same.f kj2 bt681.1 t695).bind fun t698 => (if t698 = true then (if bt676.2.1 = bt681.2.1 then (if (bt686.1.length : Int) = t656 then (if (bt690.1.length : Int) = t656 then (if (bt668.1.length : Int) = (l0.length : Int) then (clochelaw04_BlocksTurned.j1 kj2 l0 t656 bt668.1 bt672.1 bt686.1 bt690.1 ((bt672.1.length : Int) != (t657.length : Int))) else (none)) else (none)) else (none)) else (none)) else (none)))) else (none))) else (none)) else (none)) else (none)) else (none)) else (none)) else (none)) else (none)))))))) = some r := H
            have A15 := Aside0.mk A150
            clear A150
            replace H := Option.bind_eq_some_iff.mp H
            obtain ⟨⟨t668, t669⟩, A160, H⟩ := H
            replace H : ((blocks_Hooks.f kj2 t657).bind fun bt672 => ((blocks_Core.f kj2 l0 t656).bind fun bt676 => ((blocks_Core.f kj2 t657 t656).bind fun bt681 => ((blocks_Quotient.f kj2 l0 t656).bind fun bt686 => ((blocks_Quotient.f kj2 t657 t656).bind fun bt690 => (if t665 = 0 then (if t669 = 0 then (if bt672.2 = 0 then (if bt676.2.2 = 0 then (if bt681.2.2 = 0 then (if bt686.2 = 0 then (if bt690.2 = 0 then ((clochelaw04_same.f kj2 t664 l0).bind fun t694 => (if t694 = true then ((clocheref04_Columns.f kj2 bt676.1).bind fun t695 => ((clochelaw04_same.f kj2 bt681.1 t695).bind fun t698 => (if t698 = true then (if bt676.2.1 = bt681.2.1 then (if (bt686.1.length : Int) = t656 then (if (bt690.1.length : Int) = t656 then (if (t668.length : Int) = (l0.length : Int) then (clochelaw04_BlocksTurned.j1 kj2 l0 t656 t668 bt672.1 bt686.1 bt690.1 ((bt672.1.length : Int) != (t657.length : Int))) else (none)) else (none)) else (none)) else (none)) else (none)))) else (none))) else (none)) else (none)) else (none)) else (none)) else (none)) else (none)) else (none))))))) = some r := H
            have A16 := Aside0.mk A160
            clear A160
            replace H := Option.bind_eq_some_iff.mp H
            obtain ⟨⟨t672, t673⟩, A170, H⟩ := H
            replace H : ((blocks_Core.f kj2 l0 t656).bind fun bt676 => ((blocks_Core.f kj2 t657 t656).bind fun bt681 => ((blocks_Quotient.f kj2 l0 t656).bind fun bt686 => ((blocks_Quotient.f kj2 t657 t656).bind fun bt690 => (if t665 = 0 then (if t669 = 0 then (if t673 = 0 then (if bt676.2.2 = 0 then (if bt681.2.2 = 0 then (if bt686.2 = 0 then (if bt690.2 = 0 then ((clochelaw04_same.f kj2 t664 l0).bind fun t694 => (if t694 = true then ((clocheref04_Columns.f kj2 bt676.1).bind fun t695 => ((clochelaw04_same.f kj2 bt681.1 t695).bind fun t698 => (if t698 = true then (if bt676.2.1 = bt681.2.1 then (if (bt686.1.length : Int) = t656 then (if (bt690.1.length : Int) = t656 then (if (t668.length : Int) = (l0.length : Int) then (clochelaw04_BlocksTurned.j1 kj2 l0 t656 t668 t672 bt686.1 bt690.1 ((t672.length : Int) != (t657.length : Int))) else (none)) else (none)) else (none)) else (none)) else (none)))) else (none))) else (none)) else (none)) else (none)) else (none)) else (none)) else (none)) else (none)))))) = some r := H
            have A17 := Aside0.mk A170
            clear A170
            replace H := Option.bind_eq_some_iff.mp H
            obtain ⟨⟨t676, t677, t678⟩, A180, H⟩ := H
            replace H : ((blocks_Core.f kj2 t657 t656).bind fun bt681 => ((blocks_Quotient.f kj2 l0 t656).bind fun bt686 => ((blocks_Quotient.f kj2 t657 t656).bind fun bt690 => (if t665 = 0 then (if t669 = 0 then (if t673 = 0 then (if t678 = 0 then (if bt681.2.2 = 0 then (if bt686.2 = 0 then (if bt690.2 = 0 then ((clochelaw04_same.f kj2 t664 l0).bind fun t694 => (if t694 = true then ((clocheref04_Columns.f kj2 t676).bind fun t695 => ((clochelaw04_same.f kj2 bt681.1 t695).bind fun t698 => (if t698 = true then (if t677 = bt681.2.1 then (if (bt686.1.length : Int) = t656 then (if (bt690.1.length : Int) = t656 then (if (t668.length : Int) = (l0.length : Int) then (clochelaw04_BlocksTurned.j1 kj2 l0 t656 t668 t672 bt686.1 bt690.1 ((t672.length : Int) != (t657.length : Int))) else (none)) else (none)) else (none)) else (none)) else (none)))) else (none))) else (none)) else (none)) else (none)) else (none)) else (none)) else (none)) else (none))))) = some r := H
            have A18 := Aside0.mk A180
            clear A180
            replace H := Option.bind_eq_some_iff.mp H
            obtain ⟨⟨t681, t682, t683⟩, A190, H⟩ := H
            replace H : ((blocks_Quotient.f kj2 l0 t656).bind fun bt686 => ((blocks_Quotient.f kj2 t657 t656).bind fun bt690 => (if t665 = 0 then (if t669 = 0 then (if t673 = 0 then (if t678 = 0 then (if t683 = 0 then (if bt686.2 = 0 then (if bt690.2 = 0 then ((clochelaw04_same.f kj2 t664 l0).bind fun t694 => (if t694 = true then ((clocheref04_Columns.f kj2 t676).bind fun t695 => ((clochelaw04_same.f kj2 t681 t695).bind fun t698 => (if t698 = true then (if t677 = t682 then (if (bt686.1.length : Int) = t656 then (if (bt690.1.length : Int) = t656 then (if (t668.length : Int) = (l0.length : Int) then (clochelaw04_BlocksTurned.j1 kj2 l0 t656 t668 t672 bt686.1 bt690.1 ((t672.length : Int) != (t657.length : Int))) else (none)) else (none)) else (none)) else (none)) else (none)))) else (none))) else (none)) else (none)) else (none)) else (none)) else (none)) else (none)) else (none)))) = some r := H
            have A19 := Aside0.mk A190
            clear A190
            replace H := Option.bind_eq_some_iff.mp H
            obtain ⟨⟨t686, t687⟩, A200, H⟩ := H
            replace H : ((blocks_Quotient.f kj2 t657 t656).bind fun bt690 => (if t665 = 0 then (if t669 = 0 then (if t673 = 0 then (if t678 = 0 then (if t683 = 0 then (if t687 = 0 then (if bt690.2 = 0 then ((clochelaw04_same.f kj2 t664 l0).bind fun t694 => (if t694 = true then ((clocheref04_Columns.f kj2 t676).bind fun t695 => ((clochelaw04_same.f kj2 t681 t695).bind fun t698 => (if t698 = true then (if t677 = t682 then (if (t686.length : Int) = t656 then (if (bt690.1.length : Int) = t656 then (if (t668.length : Int) = (l0.length : Int) then (clochelaw04_BlocksTurned.j1 kj2 l0 t656 t668 t672 t686 bt690.1 ((t672.length : Int) != (t657.length : Int))) else (none)) else (none)) else (none)) else (none)) else (none)))) else (none))) else (none)) else (none)) else (none)) else (none)) else (none)) else (none)) else (none))) = some r := H
            have A20 := Aside0.mk A200
            clear A200
            replace H := Option.bind_eq_some_iff.mp H
            obtain ⟨⟨t690, t691⟩, A210, H⟩ := H
            replace H : (if t665 = 0 then (if t669 = 0 then (if t673 = 0 then (if t678 = 0 then (if t683 = 0 then (if t687 = 0 then (if t691 = 0 then ((clochelaw04_same.f kj2 t664 l0).bind fun t694 => (if t694 = true then ((clocheref04_Columns.f kj2 t676).bind fun t695 => ((clochelaw04_same.f kj2 t681 t695).bind fun t698 => (if t698 = true then (if t677 = t682 then (if (t686.length : Int) = t656 then (if (t690.length : Int) = t656 then (if (t668.length : Int) = (l0.length : Int) then (clochelaw04_BlocksTurned.j1 kj2 l0 t656 t668 t672 t686 t690 ((t672.length : Int) != (t657.length : Int))) else (none)) else (none)) else (none)) else (none)) else (none)))) else (none))) else (none)) else (none)) else (none)) else (none)) else (none)) else (none)) else (none)) = some r := H
            have A21 := Aside0.mk A210
            clear A210
            have HC22 := Aside0.mk H
            clear H
            go_upto_region 16 with (first | ((with_reducible refine gate_callee (f := 26) rfl ?_); refine goesL_ (some 36) rfl rfl Try.func26 (by kernel_rfl) rfl #[.int .u8 a1] rfl (by (try simp only [List.map_toArray, List.map_cons, List.map_nil]); first | done | rfl | (simp only [List.length_drop, List.length_take]; rfl)) ?_; (with_reducible refine (clochelaw04_wires.calls a1 t656 _ A10.out).mono ?_); rintro e w' ⟨rfl, ⟨nd, rfl⟩⟩; refine ⟨_, rfl, ?_⟩) | ((with_reducible refine gate_callee (f := 35) rfl ?_); refine goesL_ (some 39) rfl rfl Try.func35 (by kernel_rfl) rfl #[.slice A0 l0.length c0] rfl (by (try simp only [List.map_toArray, List.map_cons, List.map_nil]); first | done | rfl | (simp only [List.length_drop, List.length_take]; rfl)) ?_; (with_reducible refine (blocks_Turned.calls kj2 _ _ l0 t657 t658 _ ?side1 ?side2 A11.out).mono ?_); (case side1 => repeat (first | exact (Kd.C_below HR0.out (by repeat (first | (with_reducible first | exact HB.out | apply below_alloc | apply pw_below_drewN | apply below_drew1) | exact HB.out))) | (with_reducible refine Kd.C_alloc ?_ _) | (with_reducible refine Kd.C_drewN ?_ _) | (with_reducible refine Kd.C_drew ?_))); (case side2 => exact HC0.out); rintro e w23 ⟨v659, rfl, ho0, hb⟩; refine ⟨_, rfl, ?_⟩; have n0_ := Aside0.mk (Kd.R_lower ho0 (below_size (by repeat (first | (with_reducible first | exact HB.out | apply below_alloc | apply pw_below_drewN | apply below_drew1) | exact HB.out)))); have n1_ := Aside0.mk (below_step (by repeat (first | (with_reducible first | exact HB.out | apply below_alloc | apply pw_below_drewN | apply below_drew1) | exact HB.out)) hb); clear HB; have HO660 := n0_; have HB := n1_; clear n0_ n1_; (try clear hb); (try clear hb2); (try clear hk); (try clear hi); (try clear ho0); obtain ⟨Ao24, co24, eo24⟩ := Kd.R_slice HO660.out; subst eo24) | ((with_reducible refine gate_callee (f := 25) rfl ?_); refine goesL_ (some 61) rfl rfl Try.func25 (by kernel_rfl) rfl #[.slice Ao24 t657.length co24] rfl (by (try simp only [List.map_toArray, List.map_cons, List.map_nil]); first | done | rfl | (simp only [List.length_drop, List.length_take]; rfl)) ?_; (with_reducible refine (clocheref04_IsShape.calls kj2 _ _ t657 true _ ?side1 ?side2 A13.out).mono ?_); (case side1 => repeat (first | exact (Kd.R_reads' HO660.out).2.2 | (with_reducible refine Kd.C_alloc ?_ _) | (with_reducible refine Kd.C_drewN ?_ _) | (with_reducible refine Kd.C_drew ?_))); (case side2 => exact (Kd.R_reads' HO660.out).2.1); rintro e w' ⟨rfl, ⟨nd, rfl⟩⟩; refine ⟨_, rfl, ?_⟩) | ((with_reducible refine gate_callee (f := 35) rfl ?_); refine goesL_ (some 65) rfl rfl Try.func35 (by kernel_rfl) rfl #[.slice Ao24 t657.length co24] rfl (by (try simp only [List.map_toArray, List.map_cons, List.map_nil]); first | done | rfl | (simp only [List.length_drop, List.length_take]; rfl)) ?_; (with_reducible refine (blocks_Turned.calls kj2 _ _ t657 t664 t665 _ ?side1 ?side2 A15.out).mono ?_); (case side1 => repeat (first | exact (Kd.R_reads' HO660.out).2.2 | (with_reducible refine Kd.C_alloc ?_ _) | (with_reducible refine Kd.C_drewN ?_ _) | (with_reducible refine Kd.C_drew ?_))); (case side2 => exact (Kd.R_reads' HO660.out).2.1); rintro e w25 ⟨v666, rfl, ho0, hb⟩; refine ⟨_, rfl, ?_⟩; have n0_ := Aside0.mk (Kd.R_elder' (by (with_reducible repeat (first | apply Kd.R_alloc | apply Kd.R_drewN | apply Kd.R_drew)); exact HO660.out) (Kd.R_base ho0) hb); have n1_ := Aside0.mk (Kd.R_lower (Kd.R_new' ho0 (Kd.R_lt (by (with_reducible repeat (first | apply Kd.R_alloc | apply Kd.R_drewN | apply Kd.R_drew)); exact HO660.out))) (below_size (by repeat (first | (with_reducible first | exact HB.out | apply below_alloc | apply pw_below_drewN | apply below_drew1) | exact HB.out)))); have n2_ := Aside0.mk (below_step (by repeat (first | (with_reducible first | exact HB.out | apply below_alloc | apply pw_below_drewN | apply below_drew1) | exact HB.out)) hb); clear HO660; clear HB; have HO660 := n0_; have HO667 := n1_; have HB := n2_; clear n0_ n1_ n2_; (try clear hb); (try clear hb2); (try clear hk); (try clear hi); (try clear ho0)) | ((with_reducible refine gate_callee (f := 30) rfl ?_); refine goesL_ (some 70) rfl rfl Try.func30 (by kernel_rfl) rfl #[.slice A0 l0.length c0] rfl (by (try simp only [List.map_toArray, List.map_cons, List.map_nil]); first | done | rfl | (simp only [List.length_drop, List.length_take]; rfl)) ?_; (with_reducible refine (blocks_Hooks.calls kj2 _ _ l0 t668 t669 _ ?side1 ?side2 A16.out).mono ?_); (case side1 => repeat (first | exact (Kd.C_below HR0.out HB.out) | (with_reducible refine Kd.C_alloc ?_ _) | (with_reducible refine Kd.C_drewN ?_ _) | (with_reducible refine Kd.C_drew ?_))); (case side2 => exact HC0.out); rintro e w26 ⟨v670, rfl, ho0, hb⟩; refine ⟨_, rfl, ?_⟩; have n0_ := Aside0.mk (Kd.R_below (by (with_reducible repeat (first | apply Kd.R_alloc | apply Kd.R_drewN | apply Kd.R_drew)); exact HO660.out) hb); have n1_ := Aside0.mk (Kd.R_below (by (with_reducible repeat (first | apply Kd.R_alloc | apply Kd.R_drewN | apply Kd.R_drew)); exact HO667.out) hb); have n2_ := Aside0.mk (Kd.S_lower (Kd.S_new' (Kd.S_new' ho0 (Kd.R_lt (by (with_reducible repeat (first | apply Kd.R_alloc | apply Kd.R_drewN | apply Kd.R_drew)); exact HO660.out))) (Kd.R_lt (by (with_reducible repeat (first | apply Kd.R_alloc | apply Kd.R_drewN | apply Kd.R_drew)); exact HO667.out))) (below_size (by repeat (first | (with_reducible first | exact HB.out | apply below_alloc | apply pw_below_drewN | apply below_drew1) | exact HB.out)))); have n3_ := Aside0.mk (below_step (by repeat (first | (with_reducible first | exact HB.out | apply below_alloc | apply pw_below_drewN | apply below_drew1) | exact HB.out)) hb); clear HO660; clear HO667; clear HB; have HO660 := n0_; have HO667 := n1_; have HO671 := n2_; have HB := n3_; clear n0_ n1_ n2_ n3_; (try clear hb); (try clear hb2); (try clear hk); (try clear hi); (try clear ho0)) | ((with_reducible refine gate_callee (f := 30) rfl ?_); refine goesL_ (some 75) rfl rfl Try.func30 (by kernel_rfl) rfl #[.slice Ao24 t657.length co24] rfl (by (try simp only [List.map_toArray, List.map_cons, List.map_nil]); first | done | rfl | (simp only [List.length_drop, List.length_take]; rfl)) ?_; (with_reducible refine (blocks_Hooks.calls kj2 _ _ t657 t672 t673 _ ?side1 ?side2 A17.out).mono ?_); (case side1 => repeat (first | exact (Kd.R_reads' HO660.out).2.2 | (with_reducible refine Kd.C_alloc ?_ _) | (with_reducible refine Kd.C_drewN ?_ _) | (with_reducible refine Kd.C_drew ?_))); (case side2 => exact (Kd.R_reads' HO660.out).2.1); rintro e w27 ⟨v674, rfl, ho0, hb⟩; refine ⟨_, rfl, ?_⟩; have n0_ := Aside0.mk (Kd.R_below (by (with_reducible repeat (first | apply Kd.R_alloc | apply Kd.R_drewN | apply Kd.R_drew)); exact HO660.out) hb); have n1_ := Aside0.mk (Kd.R_below (by (with_reducible repeat (first | apply Kd.R_alloc | apply Kd.R_drewN | apply Kd.R_drew)); exact HO667.out) hb); have n2_ := Aside0.mk (Kd.S_elder' (by (with_reducible repeat (first | apply Kd.S_alloc | apply Kd.S_drewN | apply Kd.S_drew)); exact HO671.out) (Kd.S_base ho0) hb); have n3_ := Aside0.mk (Kd.S_lower (Kd.S_new' (Kd.S_new' (Kd.S_new' ho0 (Kd.R_lt (by (with_reducible repeat (first | apply Kd.R_alloc | apply Kd.R_drewN | apply Kd.R_drew)); exact HO660.out))) (Kd.R_lt (by (with_reducible repeat (first | apply Kd.R_alloc | apply Kd.R_drewN | apply Kd.R_drew)); exact HO667.out))) (Kd.S_lt (by (with_reducible repeat (first | apply Kd.S_alloc | apply Kd.S_drewN | apply Kd.S_drew)); exact HO671.out))) (below_size (by repeat (first | (with_reducible first | exact HB.out | apply below_alloc | apply pw_below_drewN | apply below_drew1) | exact HB.out)))); have n4_ := Aside0.mk (below_step (by repeat (first | (with_reducible first | exact HB.out | apply below_alloc | apply pw_below_drewN | apply below_drew1) | exact HB.out)) hb); clear HO660; clear HO667; clear HO671; clear HB; have HO660 := n0_; have HO667 := n1_; have HO671 := n2_; have HO675 := n3_; have HB := n4_; clear n0_ n1_ n2_ n3_ n4_; (try clear hb); (try clear hb2); (try clear hk); (try clear hi); (try clear ho0)) | ((with_reducible refine gate_callee (f := 27) rfl ?_); refine goesL_ (some 81) rfl rfl Try.func27 (by kernel_rfl) rfl #[.slice A0 l0.length c0, .int .i64 t656] rfl (by (try simp only [List.map_toArray, List.map_cons, List.map_nil]); first | done | rfl | (simp only [List.length_drop, List.length_take]; rfl)) ?_; (with_reducible refine (blocks_Core.calls kj2 _ _ l0 t656 t676 t677 t678 _ ?side1 ?side2 A18.out).mono ?_); (case side1 => repeat (first | exact (Kd.C_below HR0.out HB.out) | (with_reducible refine Kd.C_alloc ?_ _) | (with_reducible refine Kd.C_drewN ?_ _) | (with_reducible refine Kd.C_drew ?_))); (case side2 => exact HC0.out); rintro e w28 ⟨v679, rfl, ho0, hb⟩; refine ⟨_, rfl, ?_⟩; have n0_ := Aside0.mk (Kd.R_elder' (by (with_reducible repeat (first | apply Kd.R_alloc | apply Kd.R_drewN | apply Kd.R_drew)); exact HO660.out) (Kd.R_base ho0) hb); have n1_ := Aside0.mk (Kd.R_elder' (by (with_reducible repeat (first | apply Kd.R_alloc | apply Kd.R_drewN | apply Kd.R_drew)); exact HO667.out) (Kd.R_base ho0) hb); have n2_ := Aside0.mk (Kd.S_elder' (by (with_reducible repeat (first | apply Kd.S_alloc | apply Kd.S_drewN | apply Kd.S_drew)); exact HO671.out) (Kd.R_base ho0) hb); have n3_ := Aside0.mk (Kd.S_elder' (by (with_reducible repeat (first | apply Kd.S_alloc | apply Kd.S_drewN | apply Kd.S_drew)); exact HO675.out) (Kd.R_base ho0) hb); have n4_ := Aside0.mk (Kd.R_lower (Kd.R_new' (Kd.R_new' ho0 (Kd.R_lt (by (with_reducible repeat (first | apply Kd.R_alloc | apply Kd.R_drewN | apply Kd.R_drew)); exact HO660.out))) (Kd.R_lt (by (with_reducible repeat (first | apply Kd.R_alloc | apply Kd.R_drewN | apply Kd.R_drew)); exact HO667.out))) (below_size (by repeat (first | (with_reducible first | exact HB.out | apply below_alloc | apply pw_below_drewN | apply below_drew1) | exact HB.out)))); have n5_ := Aside0.mk (below_step (by repeat (first | (with_reducible first | exact HB.out | apply below_alloc | apply pw_below_drewN | apply below_drew1) | exact HB.out)) hb); clear HO660; clear HO667; clear HO671; clear HO675; clear HB; have HO660 := n0_; have HO667 := n1_; have HO671 := n2_; have HO675 := n3_; have HO680 := n4_; have HB := n5_; clear n0_ n1_ n2_ n3_ n4_ n5_; (try clear hb); (try clear hb2); (try clear hk); (try clear hi); (try clear ho0)) | ((with_reducible refine gate_callee (f := 27) rfl ?_); refine goesL_ (some 88) rfl rfl Try.func27 (by kernel_rfl) rfl #[.slice Ao24 t657.length co24, .int .i64 t656] rfl (by (try simp only [List.map_toArray, List.map_cons, List.map_nil]); first | done | rfl | (simp only [List.length_drop, List.length_take]; rfl)) ?_; (with_reducible refine (blocks_Core.calls kj2 _ _ t657 t656 t681 t682 t683 _ ?side1 ?side2 A19.out).mono ?_); (case side1 => repeat (first | exact (Kd.R_reads' HO660.out).2.2 | (with_reducible refine Kd.C_alloc ?_ _) | (with_reducible refine Kd.C_drewN ?_ _) | (with_reducible refine Kd.C_drew ?_))); (case side2 => exact (Kd.R_reads' HO660.out).2.1); rintro e w29 ⟨v684, rfl, ho0, hb⟩; refine ⟨_, rfl, ?_⟩; have n0_ := Aside0.mk (Kd.R_elder' (by (with_reducible repeat (first | apply Kd.R_alloc | apply Kd.R_drewN | apply Kd.R_drew)); exact HO660.out) (Kd.R_base ho0) hb); have n1_ := Aside0.mk (Kd.R_elder' (by (with_reducible repeat (first | apply Kd.R_alloc | apply Kd.R_drewN | apply Kd.R_drew)); exact HO667.out) (Kd.R_base ho0) hb); have n2_ := Aside0.mk (Kd.S_elder' (by (with_reducible repeat (first | apply Kd.S_alloc | apply Kd.S_drewN | apply Kd.S_drew)); exact HO671.out) (Kd.R_base ho0) hb); have n3_ := Aside0.mk (Kd.S_elder' (by (with_reducible repeat (first | apply Kd.S_alloc | apply Kd.S_drewN | apply Kd.S_drew)); exact HO675.out) (Kd.R_base ho0) hb); have n4_ := Aside0.mk (Kd.R_elder' (by (with_reducible repeat (first | apply Kd.R_alloc | apply Kd.R_drewN | apply Kd.R_drew)); exact HO680.out) (Kd.R_base ho0) hb); have n5_ := Aside0.mk (Kd.R_lower (Kd.R_new' (Kd.R_new' (Kd.R_new' ho0 (Kd.R_lt (by (with_reducible repeat (first | apply Kd.R_alloc | apply Kd.R_drewN | apply Kd.R_drew)); exact HO660.out))) (Kd.R_lt (by (with_reducible repeat (first | apply Kd.R_alloc | apply Kd.R_drewN | apply Kd.R_drew)); exact HO667.out))) (Kd.R_lt (by (with_reducible repeat (first | apply Kd.R_alloc | apply Kd.R_drewN | apply Kd.R_drew)); exact HO680.out))) (below_size (by repeat (first | (with_reducible first | exact HB.out | apply below_alloc | apply pw_below_drewN | apply below_drew1) | exact HB.out)))); have n6_ := Aside0.mk (below_step (by repeat (first | (with_reducible first | exact HB.out | apply below_alloc | apply pw_below_drewN | apply below_drew1) | exact HB.out)) hb); clear HO660; clear HO667; clear HO671; clear HO675; clear HO680; clear HB; have HO660 := n0_; have HO667 := n1_; have HO671 := n2_; have HO675 := n3_; have HO680 := n4_; have HO685 := n5_; have HB := n6_; clear n0_ n1_ n2_ n3_ n4_ n5_ n6_; (try clear hb); (try clear hb2); (try clear hk); (try clear hi); (try clear ho0)) | ((with_reducible refine gate_callee (f := 17) rfl ?_); refine goesL_ (some 95) rfl rfl Try.func17 (by kernel_rfl) rfl #[.slice A0 l0.length c0, .int .i64 t656] rfl (by (try simp only [List.map_toArray, List.map_cons, List.map_nil]); first | done | rfl | (simp only [List.length_drop, List.length_take]; rfl)) ?_; (with_reducible refine (blocks_Quotient.calls kj2 _ _ l0 t656 t686 t687 _ ?side1 ?side2 A20.out).mono ?_); (case side1 => repeat (first | exact (Kd.C_below HR0.out HB.out) | (with_reducible refine Kd.C_alloc ?_ _) | (with_reducible refine Kd.C_drewN ?_ _) | (with_reducible refine Kd.C_drew ?_))); (case side2 => exact HC0.out); rintro e w30 ⟨v688, rfl, ho0, hb⟩; refine ⟨_, rfl, ?_⟩; have n0_ := Aside0.mk (Kd.R_below (by (with_reducible repeat (first | apply Kd.R_alloc | apply Kd.R_drewN | apply Kd.R_drew)); exact HO660.out) hb); have n1_ := Aside0.mk (Kd.R_below (by (with_reducible repeat (first | apply Kd.R_alloc | apply Kd.R_drewN | apply Kd.R_drew)); exact HO667.out) hb); have n2_ := Aside0.mk (Kd.S_elder' (by (with_reducible repeat (first | apply Kd.S_alloc | apply Kd.S_drewN | apply Kd.S_drew)); exact HO671.out) (Kd.S_base ho0) hb); have n3_ := Aside0.mk (Kd.S_elder' (by (with_reducible repeat (first | apply Kd.S_alloc | apply Kd.S_drewN | apply Kd.S_drew)); exact HO675.out) (Kd.S_base ho0) hb); have n4_ := Aside0.mk (Kd.R_below (by (with_reducible repeat (first | apply Kd.R_alloc | apply Kd.R_drewN | apply Kd.R_drew)); exact HO680.out) hb); have n5_ := Aside0.mk (Kd.R_below (by (with_reducible repeat (first | apply Kd.R_alloc | apply Kd.R_drewN | apply Kd.R_drew)); exact HO685.out) hb); have n6_ := Aside0.mk (Kd.S_lower (Kd.S_new' (Kd.S_new' (Kd.S_new' (Kd.S_new' (Kd.S_new' (Kd.S_new' ho0 (Kd.R_lt (by (with_reducible repeat (first | apply Kd.R_alloc | apply Kd.R_drewN | apply Kd.R_drew)); exact HO660.out))) (Kd.R_lt (by (with_reducible repeat (first | apply Kd.R_alloc | apply Kd.R_drewN | apply Kd.R_drew)); exact HO667.out))) (Kd.S_lt (by (with_reducible repeat (first | apply Kd.S_alloc | apply Kd.S_drewN | apply Kd.S_drew)); exact HO671.out))) (Kd.S_lt (by (with_reducible repeat (first | apply Kd.S_alloc | apply Kd.S_drewN | apply Kd.S_drew)); exact HO675.out))) (Kd.R_lt (by (with_reducible repeat (first | apply Kd.R_alloc | apply Kd.R_drewN | apply Kd.R_drew)); exact HO680.out))) (Kd.R_lt (by (with_reducible repeat (first | apply Kd.R_alloc | apply Kd.R_drewN | apply Kd.R_drew)); exact HO685.out))) (below_size (by repeat (first | (with_reducible first | exact HB.out | apply below_alloc | apply pw_below_drewN | apply below_drew1) | exact HB.out)))); have n7_ := Aside0.mk (below_step (by repeat (first | (with_reducible first | exact HB.out | apply below_alloc | apply pw_below_drewN | apply below_drew1) | exact HB.out)) hb); clear HO660; clear HO667; clear HO671; clear HO675; clear HO680; clear HO685; clear HB; have HO660 := n0_; have HO667 := n1_; have HO671 := n2_; have HO675 := n3_; have HO680 := n4_; have HO685 := n5_; have HO689 := n6_; have HB := n7_; clear n0_ n1_ n2_ n3_ n4_ n5_ n6_ n7_; (try clear hb); (try clear hb2); (try clear hk); (try clear hi); (try clear ho0)) | ((with_reducible refine gate_callee (f := 17) rfl ?_); refine goesL_ (some 101) rfl rfl Try.func17 (by kernel_rfl) rfl #[.slice Ao24 t657.length co24, .int .i64 t656] rfl (by (try simp only [List.map_toArray, List.map_cons, List.map_nil]); first | done | rfl | (simp only [List.length_drop, List.length_take]; rfl)) ?_; (with_reducible refine (blocks_Quotient.calls kj2 _ _ t657 t656 t690 t691 _ ?side1 ?side2 A21.out).mono ?_); (case side1 => repeat (first | exact (Kd.R_reads' HO660.out).2.2 | (with_reducible refine Kd.C_alloc ?_ _) | (with_reducible refine Kd.C_drewN ?_ _) | (with_reducible refine Kd.C_drew ?_))); (case side2 => exact (Kd.R_reads' HO660.out).2.1); rintro e w31 ⟨v692, rfl, ho0, hb⟩; refine ⟨_, rfl, ?_⟩; have n0_ := Aside0.mk (Kd.R_below (by (with_reducible repeat (first | apply Kd.R_alloc | apply Kd.R_drewN | apply Kd.R_drew)); exact HO660.out) hb); have n1_ := Aside0.mk (Kd.R_below (by (with_reducible repeat (first | apply Kd.R_alloc | apply Kd.R_drewN | apply Kd.R_drew)); exact HO667.out) hb); have n2_ := Aside0.mk (Kd.S_elder' (by (with_reducible repeat (first | apply Kd.S_alloc | apply Kd.S_drewN | apply Kd.S_drew)); exact HO671.out) (Kd.S_base ho0) hb); have n3_ := Aside0.mk (Kd.S_elder' (by (with_reducible repeat (first | apply Kd.S_alloc | apply Kd.S_drewN | apply Kd.S_drew)); exact HO675.out) (Kd.S_base ho0) hb); have n4_ := Aside0.mk (Kd.R_below (by (with_reducible repeat (first | apply Kd.R_alloc | apply Kd.R_drewN | apply Kd.R_drew)); exact HO680.out) hb); have n5_ := Aside0.mk (Kd.R_below (by (with_reducible repeat (first | apply Kd.R_alloc | apply Kd.R_drewN | apply Kd.R_drew)); exact HO685.out) hb); have n6_ := Aside0.mk (Kd.S_elder' (by (with_reducible repeat (first | apply Kd.S_alloc | apply Kd.S_drewN | apply Kd.S_drew)); exact HO689.out) (Kd.S_base ho0) hb); have n7_ := Aside0.mk (Kd.S_lower (Kd.S_new' (Kd.S_new' (Kd.S_new' (Kd.S_new' (Kd.S_new' (Kd.S_new' (Kd.S_new' ho0 (Kd.R_lt (by (with_reducible repeat (first | apply Kd.R_alloc | apply Kd.R_drewN | apply Kd.R_drew)); exact HO660.out))) (Kd.R_lt (by (with_reducible repeat (first | apply Kd.R_alloc | apply Kd.R_drewN | apply Kd.R_drew)); exact HO667.out))) (Kd.S_lt (by (with_reducible repeat (first | apply Kd.S_alloc | apply Kd.S_drewN | apply Kd.S_drew)); exact HO671.out))) (Kd.S_lt (by (with_reducible repeat (first | apply Kd.S_alloc | apply Kd.S_drewN | apply Kd.S_drew)); exact HO675.out))) (Kd.R_lt (by (with_reducible repeat (first | apply Kd.R_alloc | apply Kd.R_drewN | apply Kd.R_drew)); exact HO680.out))) (Kd.R_lt (by (with_reducible repeat (first | apply Kd.R_alloc | apply Kd.R_drewN | apply Kd.R_drew)); exact HO685.out))) (Kd.S_lt (by (with_reducible repeat (first | apply Kd.S_alloc | apply Kd.S_drewN | apply Kd.S_drew)); exact HO689.out))) (below_size (by repeat (first | (with_reducible first | exact HB.out | apply below_alloc | apply pw_below_drewN | apply below_drew1) | exact HB.out)))); have n8_ := Aside0.mk (below_step (by repeat (first | (with_reducible first | exact HB.out | apply below_alloc | apply pw_below_drewN | apply below_drew1) | exact HB.out)) hb); clear HO660; clear HO667; clear HO671; clear HO675; clear HO680; clear HO685; clear HO689; clear HB; have HO660 := n0_; have HO667 := n1_; have HO671 := n2_; have HO675 := n3_; have HO680 := n4_; have HO685 := n5_; have HO689 := n6_; have HO693 := n7_; have HB := n8_; clear n0_ n1_ n2_ n3_ n4_ n5_ n6_ n7_ n8_; (try clear hb); (try clear hb2); (try clear hk); (try clear hi); (try clear ho0)))
            (try simp only [Act.put, List.setIfInBounds_toArray, List.set_cons_zero, List.set_cons_succ])
            go_cut [173] (fun v173 wc => ∃ (kq : Nat) (x173_21 : Bool), v173 = .bool x173_21 ∧ Aside0 (clochelaw04_BlocksTurned.j1 kq l0 t656 t668 t672 t686 t690 x173_21 = some r) ∧ Aside0 (kq ≤ kj2) ∧ Aside0 (Kd.S (Kd.slice 3 (Kd.int .i64)) 22 wc w.heap.size (fun k_ => some k_ ≠ (v674 : Value).ownBlock ∧ some k_ ≠ (v688 : Value).ownBlock ∧ some k_ ≠ (v692 : Value).ownBlock) v670 t668) ∧ Aside0 (Kd.S (Kd.slice 3 (Kd.int .i64)) 22 wc w.heap.size (fun k_ => some k_ ≠ (v670 : Value).ownBlock ∧ some k_ ≠ (v688 : Value).ownBlock ∧ some k_ ≠ (v692 : Value).ownBlock) v674 t672) ∧ Aside0 (Kd.S (Kd.slice 3 (Kd.int .i64)) 22 wc w.heap.size (fun k_ => some k_ ≠ (v670 : Value).ownBlock ∧ some k_ ≠ (v674 : Value).ownBlock ∧ some k_ ≠ (v692 : Value).ownBlock) v688 t686) ∧ Aside0 (Kd.S (Kd.slice 3 (Kd.int .i64)) 22 wc w.heap.size (fun k_ => some k_ ≠ (v670 : Value).ownBlock ∧ some k_ ≠ (v674 : Value).ownBlock ∧ some k_ ≠ (v688 : Value).ownBlock) v692 t690) ∧ Aside0 (Below w.heap.size w wc))
            case first =>
              have H := HC22.out
              clear HC22
              by_cases c32 : t665 = 0
              · rw [if_pos c32] at H
                have c32b0 : (t665 == 0) = true := beq_iff_eq.mpr c32
                have c32b1 : (t665 != 0) = false := bne_eq_false_iff_eq.mpr c32
                clear c32
                (first | rw [c32b0] | (simp only [i64_w, i32_w]; rw [c32b0]) | skip)
                by_cases c33 : t669 = 0
                · rw [if_pos c33] at H
                  have c33b0 : (t669 == 0) = true := beq_iff_eq.mpr c33
                  have c33b1 : (t669 != 0) = false := bne_eq_false_iff_eq.mpr c33
                  clear c33
                  by_cases c34 : t673 = 0
                  · rw [if_pos c34] at H
                    have c34b0 : (t673 == 0) = true := beq_iff_eq.mpr c34
                    have c34b1 : (t673 != 0) = false := bne_eq_false_iff_eq.mpr c34
                    clear c34
                    by_cases c35 : t678 = 0
                    · rw [if_pos c35] at H
                      have c35b0 : (t678 == 0) = true := beq_iff_eq.mpr c35
                      have c35b1 : (t678 != 0) = false := bne_eq_false_iff_eq.mpr c35
                      clear c35
                      by_cases c36 : t683 = 0
                      · rw [if_pos c36] at H
                        have c36b0 : (t683 == 0) = true := beq_iff_eq.mpr c36
                        have c36b1 : (t683 != 0) = false := bne_eq_false_iff_eq.mpr c36
                        clear c36
                        by_cases c37 : t687 = 0
                        · rw [if_pos c37] at H
                          have c37b0 : (t687 == 0) = true := beq_iff_eq.mpr c37
                          have c37b1 : (t687 != 0) = false := bne_eq_false_iff_eq.mpr c37
                          clear c37
                          by_cases c38 : t691 = 0
                          · rw [if_pos c38] at H
                            have c38b0 : (t691 == 0) = true := beq_iff_eq.mpr c38
                            have c38b1 : (t691 != 0) = false := bne_eq_false_iff_eq.mpr c38
                            clear c38
                            replace H := Option.bind_eq_some_iff.mp H
                            obtain ⟨t694, A390, H⟩ := H
                            replace H : (if t694 = true then ((clocheref04_Columns.f kj2 t676).bind fun t695 => ((clochelaw04_same.f kj2 t681 t695).bind fun t698 => (if t698 = true then (if t677 = t682 then (if (t686.length : Int) = t656 then (if (t690.length : Int) = t656 then (if (t668.length : Int) = (l0.length : Int) then (clochelaw04_BlocksTurned.j1 kj2 l0 t656 t668 t672 t686 t690 ((t672.length : Int) != (t657.length : Int))) else (none)) else (none)) else (none)) else (none)) else (none)))) else (none)) = some r := H
                            have A39 := Aside0.mk A390
                            clear A390
                            by_cases c40 : t694 = true
                            · subst c40
                              have H1 : ((clocheref04_Columns.f kj2 t676).bind fun t695 => ((clochelaw04_same.f kj2 t681 t695).bind fun t698 => (if t698 = true then (if t677 = t682 then (if (t686.length : Int) = t656 then (if (t690.length : Int) = t656 then (if (t668.length : Int) = (l0.length : Int) then (clochelaw04_BlocksTurned.j1 kj2 l0 t656 t668 t672 t686 t690 ((t672.length : Int) != (t657.length : Int))) else (none)) else (none)) else (none)) else (none)) else (none)))) = some r := by rw [if_pos rfl] at H; exact H
                              clear H
                              have H := H1
                              clear H1
                              replace H := Option.bind_eq_some_iff.mp H
                              obtain ⟨t695, A410, H⟩ := H
                              replace H : ((clochelaw04_same.f kj2 t681 t695).bind fun t698 => (if t698 = true then (if t677 = t682 then (if (t686.length : Int) = t656 then (if (t690.length : Int) = t656 then (if (t668.length : Int) = (l0.length : Int) then (clochelaw04_BlocksTurned.j1 kj2 l0 t656 t668 t672 t686 t690 ((t672.length : Int) != (t657.length : Int))) else (none)) else (none)) else (none)) else (none)) else (none))) = some r := H
                              have A41 := Aside0.mk A410
                              clear A410
                              replace H := Option.bind_eq_some_iff.mp H
                              obtain ⟨t698, A420, H⟩ := H
                              replace H : (if t698 = true then (if t677 = t682 then (if (t686.length : Int) = t656 then (if (t690.length : Int) = t656 then (if (t668.length : Int) = (l0.length : Int) then (clochelaw04_BlocksTurned.j1 kj2 l0 t656 t668 t672 t686 t690 ((t672.length : Int) != (t657.length : Int))) else (none)) else (none)) else (none)) else (none)) else (none)) = some r := H
                              have A42 := Aside0.mk A420
                              clear A420
                              by_cases c43 : t698 = true
                              · subst c43
                                have H1 : (if t677 = t682 then (if (t686.length : Int) = t656 then (if (t690.length : Int) = t656 then (if (t668.length : Int) = (l0.length : Int) then (clochelaw04_BlocksTurned.j1 kj2 l0 t656 t668 t672 t686 t690 ((t672.length : Int) != (t657.length : Int))) else (none)) else (none)) else (none)) else (none)) = some r := by rw [if_pos rfl] at H; exact H
                                clear H
                                have H := H1
                                clear H1
                                by_cases c44 : t677 = t682
                                · rw [if_pos c44] at H
                                  have c44b0 : (t677 == t682) = true := beq_iff_eq.mpr c44
                                  have c44b1 : (t677 != t682) = false := bne_eq_false_iff_eq.mpr c44
                                  clear c44
                                  by_cases c45 : (t686.length : Int) = t656
                                  · rw [if_pos c45] at H
                                    have c45b0 : ((t686.length : Int) == t656) = true := beq_iff_eq.mpr c45
                                    have c45b1 : ((t686.length : Int) != t656) = false := bne_eq_false_iff_eq.mpr c45
                                    clear c45
                                    by_cases c46 : (t690.length : Int) = t656
                                    · rw [if_pos c46] at H
                                      have c46b0 : ((t690.length : Int) == t656) = true := beq_iff_eq.mpr c46
                                      have c46b1 : ((t690.length : Int) != t656) = false := bne_eq_false_iff_eq.mpr c46
                                      clear c46
                                      by_cases c47 : (t668.length : Int) = (l0.length : Int)
                                      · rw [if_pos c47] at H
                                        have c47b0 : ((t668.length : Int) == (l0.length : Int)) = true := beq_iff_eq.mpr c47
                                        have c47b1 : ((t668.length : Int) != (l0.length : Int)) = false := bne_eq_false_iff_eq.mpr c47
                                        have c47b2 : (t668.length == l0.length) = true := by first | simpa using c47 | (simp at c47 ⊢; omega)
                                        clear c47
                                        have H' := Aside0.mk H
                                        clear H
                                        obtain ⟨Ao48, co48, eo48⟩ := Kd.R_slice HO667.out
                                        subst eo48
                                        go_wp2_with (first | (go_at_call 22; (with_reducible refine (clochelaw04_same.calls kj2 _ _ t664 _ _ l0 true _ ?side1 ?side2 ?side3 ?side4 A39.out).mono ?_); (case side1 => repeat (first | exact (Kd.R_reads' HO667.out).2.2 | (with_reducible refine Kd.C_alloc ?_ _) | (with_reducible refine Kd.C_drewN ?_ _) | (with_reducible refine Kd.C_drew ?_))); (case side2 => exact (Kd.R_reads' HO667.out).2.1); (case side3 => repeat (first | exact (Kd.C_below HR0.out HB.out) | (with_reducible refine Kd.C_alloc ?_ _) | (with_reducible refine Kd.C_drewN ?_ _) | (with_reducible refine Kd.C_drew ?_))); (case side4 => exact HC0.out); rintro e w' ⟨rfl, ⟨nd, rfl⟩⟩; obtain ⟨Ao49, co49, eo49⟩ := Kd.R_slice HO680.out; subst eo49) | (go_at_call 37; (with_reducible refine (clocheref04_Columns.calls kj2 _ _ t676 t695 _ ?side1 ?side2 A41.out).mono ?_); (case side1 => repeat (first | exact (Kd.R_reads' HO680.out).2.2 | (with_reducible refine Kd.C_alloc ?_ _) | (with_reducible refine Kd.C_drewN ?_ _) | (with_reducible refine Kd.C_drew ?_))); (case side2 => exact (Kd.R_reads' HO680.out).2.1); rintro e w50 ⟨v696, rfl, ho0, hb⟩; have n0_ := Aside0.mk (Kd.R_elder' (by (with_reducible repeat (first | apply Kd.R_alloc | apply Kd.R_drewN | apply Kd.R_drew)); exact HO660.out) (Kd.R_base ho0) hb); have n1_ := Aside0.mk (Kd.R_elder' (by (with_reducible repeat (first | apply Kd.R_alloc | apply Kd.R_drewN | apply Kd.R_drew)); exact HO667.out) (Kd.R_base ho0) hb); have n2_ := Aside0.mk (Kd.S_elder' (by (with_reducible repeat (first | apply Kd.S_alloc | apply Kd.S_drewN | apply Kd.S_drew)); exact HO671.out) (Kd.R_base ho0) hb); have n3_ := Aside0.mk (Kd.S_elder' (by (with_reducible repeat (first | apply Kd.S_alloc | apply Kd.S_drewN | apply Kd.S_drew)); exact HO675.out) (Kd.R_base ho0) hb); have n4_ := Aside0.mk (Kd.R_elder' (by (with_reducible repeat (first | apply Kd.R_alloc | apply Kd.R_drewN | apply Kd.R_drew)); exact HO680.out) (Kd.R_base ho0) hb); have n5_ := Aside0.mk (Kd.R_elder' (by (with_reducible repeat (first | apply Kd.R_alloc | apply Kd.R_drewN | apply Kd.R_drew)); exact HO685.out) (Kd.R_base ho0) hb); have n6_ := Aside0.mk (Kd.S_elder' (by (with_reducible repeat (first | apply Kd.S_alloc | apply Kd.S_drewN | apply Kd.S_drew)); exact HO689.out) (Kd.R_base ho0) hb); have n7_ := Aside0.mk (Kd.S_elder' (by (with_reducible repeat (first | apply Kd.S_alloc | apply Kd.S_drewN | apply Kd.S_drew)); exact HO693.out) (Kd.R_base ho0) hb); have n8_ := Aside0.mk (Kd.R_lower (Kd.R_new' (Kd.R_new' (Kd.R_new' (Kd.R_new' ho0 (Kd.R_lt (by (with_reducible repeat (first | apply Kd.R_alloc | apply Kd.R_drewN | apply Kd.R_drew)); exact HO660.out))) (Kd.R_lt (by (with_reducible repeat (first | apply Kd.R_alloc | apply Kd.R_drewN | apply Kd.R_drew)); exact HO667.out))) (Kd.R_lt (by (with_reducible repeat (first | apply Kd.R_alloc | apply Kd.R_drewN | apply Kd.R_drew)); exact HO680.out))) (Kd.R_lt (by (with_reducible repeat (first | apply Kd.R_alloc | apply Kd.R_drewN | apply Kd.R_drew)); exact HO685.out))) (below_size (by repeat (first | (with_reducible first | exact HB.out | apply below_alloc | apply pw_below_drewN | apply below_drew1) | exact HB.out)))); have n9_ := Aside0.mk (below_step (by repeat (first | (with_reducible first | exact HB.out | apply below_alloc | apply pw_below_drewN | apply below_drew1) | exact HB.out)) hb); clear HO660; clear HO667; clear HO671; clear HO675; clear HO680; clear HO685; clear HO689; clear HO693; clear HB; have HO660 := n0_; have HO667 := n1_; have HO671 := n2_; have HO675 := n3_; have HO680 := n4_; have HO685 := n5_; have HO689 := n6_; have HO693 := n7_; have HO697 := n8_; have HB := n9_; clear n0_ n1_ n2_ n3_ n4_ n5_ n6_ n7_ n8_ n9_; (try clear hb); (try clear hb2); (try clear hk); (try clear hi); (try clear ho0); obtain ⟨Ao51, co51, eo51⟩ := Kd.R_slice HO685.out; subst eo51; obtain ⟨Ao52, co52, eo52⟩ := Kd.R_slice HO697.out; subst eo52) | (go_at_call 22; (with_reducible refine (clochelaw04_same.calls kj2 _ _ t681 _ _ t695 true _ ?side1 ?side2 ?side3 ?side4 A42.out).mono ?_); (case side1 => repeat (first | exact (Kd.R_reads' HO685.out).2.2 | (with_reducible refine Kd.C_alloc ?_ _) | (with_reducible refine Kd.C_drewN ?_ _) | (with_reducible refine Kd.C_drew ?_))); (case side2 => exact (Kd.R_reads' HO685.out).2.1); (case side3 => repeat (first | exact (Kd.R_reads' HO697.out).2.2 | (with_reducible refine Kd.C_alloc ?_ _) | (with_reducible refine Kd.C_drewN ?_ _) | (with_reducible refine Kd.C_drew ?_))); (case side4 => exact (Kd.R_reads' HO697.out).2.1); rintro e w' ⟨rfl, ⟨nd, rfl⟩⟩; obtain ⟨Ao53, co53, eo53⟩ := Kd.S_slice HO689.out; subst eo53; obtain ⟨Ao54, co54, eo54⟩ := Kd.S_slice HO693.out; subst eo54; obtain ⟨Ao55, co55, eo55⟩ := Kd.S_slice HO671.out; subst eo55; obtain ⟨Ao56, co56, eo56⟩ := Kd.S_slice HO675.out; subst eo56))
                                        go_meet
                                        case rel => exact ⟨_, (((t672.length : Int) != (t657.length : Int))), (by first | rfl | (simp; done) | (simp [*]; done)), H', ⟨by have := HJ2.out; first | omega | exact Nat.le_refl _⟩, ⟨by (with_reducible repeat (first | apply Kd.S_alloc | apply Kd.S_drewN | apply Kd.S_drew)); exact Kd.S_mono HO671.out (fun _ hk => ⟨hk.1.1.1.1.1.2, ⟨hk.1.1.2, hk.1.2⟩⟩)⟩, ⟨by (with_reducible repeat (first | apply Kd.S_alloc | apply Kd.S_drewN | apply Kd.S_drew)); exact Kd.S_mono HO675.out (fun _ hk => ⟨hk.1.1.1.1.1.2, ⟨hk.1.1.2, hk.1.2⟩⟩)⟩, ⟨by (with_reducible repeat (first | apply Kd.S_alloc | apply Kd.S_drewN | apply Kd.S_drew)); exact Kd.S_mono HO689.out (fun _ hk => ⟨hk.1.1.1.1.1.2, ⟨hk.1.1.1.1.2, hk.1.2⟩⟩)⟩, ⟨by (with_reducible repeat (first | apply Kd.S_alloc | apply Kd.S_drewN | apply Kd.S_drew)); exact Kd.S_mono HO693.out (fun _ hk => ⟨hk.1.1.1.1.1.2, ⟨hk.1.1.1.1.2, hk.1.2⟩⟩)⟩, ⟨by repeat (first | (with_reducible first | exact HB.out | apply below_alloc | apply pw_below_drewN | apply below_drew1) | exact HB.out)⟩⟩
                                      · rw [if_neg c47] at H
                                        exact absurd H (by simp)
                                    · rw [if_neg c46] at H
                                      exact absurd H (by simp)
                                  · rw [if_neg c45] at H
                                    exact absurd H (by simp)
                                · rw [if_neg c44] at H
                                  exact absurd H (by simp)
                              · replace c43 := Bool.eq_false_iff.mpr c43
                                subst c43
                                have H1 : (none) = some r := by rw [if_neg (show ¬ (false = true) by decide)] at H; exact H
                                clear H
                                have H := H1
                                clear H1
                                exact absurd H (by simp)
                            · replace c40 := Bool.eq_false_iff.mpr c40
                              subst c40
                              have H1 : (none) = some r := by rw [if_neg (show ¬ (false = true) by decide)] at H; exact H
                              clear H
                              have H := H1
                              clear H1
                              exact absurd H (by simp)
                          · rw [if_neg c38] at H
                            exact absurd H (by simp)
                        · rw [if_neg c37] at H
                          exact absurd H (by simp)
                      · rw [if_neg c36] at H
                        exact absurd H (by simp)
                    · rw [if_neg c35] at H
                      exact absurd H (by simp)
                  · rw [if_neg c34] at H
                    exact absurd H (by simp)
                · rw [if_neg c33] at H
                  exact absurd H (by simp)
              · rw [if_neg c32] at H
                exact absurd H (by simp)
            case rest =>
              clear HC22
              try clear c1
              try clear c2
              try clear p2
              try clear c3
              try clear c4
              try clear c5
              try clear c7
              try clear c9
              try clear c12
              try clear c12b0
              try clear c12b1
              try clear c14
              try clear c15
              try clear c16
              try clear c17
              try clear c25
              try clear c26
              try clear c27
              try clear c30
              try clear c32
              try clear c32b0
              try clear c32b1
              try clear c33
              try clear c33b0
              try clear c33b1
              try clear c34
              try clear c34b0
              try clear c34b1
              try clear c35
              try clear c35b0
              try clear c35b1
              try clear c36
              try clear c36b0
              try clear c36b1
              try clear c37
              try clear c37b0
              try clear c37b1
              try clear c38
              try clear c38b0
              try clear c38b1
              try clear c40
              try clear c43
              try clear c44
              try clear c44b0
              try clear c44b1
              try clear c45
              try clear c45b0
              try clear c45b1
              try clear c46
              try clear c46b0
              try clear c46b1
              try clear c47
              try clear c47b0
              try clear c47b1
              try clear c47b2
              try clear p2
              obtain ⟨kq, x173_21, rfl, HA, HJ21, HO_9, HO_11, HO_19, HO_21, HB⟩ := hcut
              cases kq with
              | zero => exact absurd HA.out (by simp [clochelaw04_BlocksTurned.j1])
              | succ kj21 =>
                have H := HA.out
                clear HA
                simp only [clochelaw04_BlocksTurned.j1] at H
                by_cases c57 : x173_21 = true
                · subst c57
                  have H1 : (none) = some r := by rw [if_pos rfl] at H; exact H
                  clear H
                  have H := H1
                  clear H1
                  exact absurd H (by simp)
                · replace c57 := Bool.eq_false_iff.mpr c57
                  subst c57
                  have H1 : (clochelaw04_BlocksTurned.l0 kj21 l0 t656 t668 t672 t686 t690 0) = some r := by rw [if_neg (show ¬ (false = true) by decide)] at H; exact H
                  clear H
                  have H := H1
                  clear H1
                  have H' := Aside0.mk H
                  clear H
                  go_wp2
                  go_loopg [23] kj21 (fun kq v23 w' => ∃ (x23_3 : Int), v23 = .int .i64 x23_3 ∧ Aside0 (clochelaw04_BlocksTurned.l0 kq l0 t656 t668 t672 t686 t690 x23_3 = some r) ∧ Aside0 (kq ≤ kj21) ∧ Aside0 (Kd.S (Kd.slice 3 (Kd.int .i64)) 22 w' w.heap.size (fun k_ => some k_ ≠ (v674 : Value).ownBlock ∧ some k_ ≠ (v688 : Value).ownBlock ∧ some k_ ≠ (v692 : Value).ownBlock) v670 t668) ∧ Aside0 (Kd.S (Kd.slice 3 (Kd.int .i64)) 22 w' w.heap.size (fun k_ => some k_ ≠ (v670 : Value).ownBlock ∧ some k_ ≠ (v688 : Value).ownBlock ∧ some k_ ≠ (v692 : Value).ownBlock) v674 t672) ∧ Aside0 (Kd.S (Kd.slice 3 (Kd.int .i64)) 22 w' w.heap.size (fun k_ => some k_ ≠ (v670 : Value).ownBlock ∧ some k_ ≠ (v674 : Value).ownBlock ∧ some k_ ≠ (v692 : Value).ownBlock) v688 t686) ∧ Aside0 (Kd.S (Kd.slice 3 (Kd.int .i64)) 22 w' w.heap.size (fun k_ => some k_ ≠ (v670 : Value).ownBlock ∧ some k_ ≠ (v674 : Value).ownBlock ∧ some k_ ≠ (v688 : Value).ownBlock) v692 t690) ∧ Aside0 (Below w.heap.size w w'))
                  case atStart => exact ⟨(0), (by first | rfl | (simp; done) | (simp [*]; done)), H', ⟨Nat.le_refl _⟩, ⟨by (with_reducible repeat (first | apply Kd.S_alloc | apply Kd.S_drewN | apply Kd.S_drew)); exact HO_9.out⟩, ⟨by (with_reducible repeat (first | apply Kd.S_alloc | apply Kd.S_drewN | apply Kd.S_drew)); exact HO_11.out⟩, ⟨by (with_reducible repeat (first | apply Kd.S_alloc | apply Kd.S_drewN | apply Kd.S_drew)); exact HO_19.out⟩, ⟨by (with_reducible repeat (first | apply Kd.S_alloc | apply Kd.S_drewN | apply Kd.S_drew)); exact HO_21.out⟩, ⟨by repeat (first | (with_reducible first | exact HB.out | apply below_alloc | apply pw_below_drewN | apply below_drew1) | exact HB.out)⟩⟩
                  case round =>
                    as_aux_lemma =>
                    clear H'
                    try clear c1
                    try clear c2
                    try clear p2
                    try clear c3
                    try clear c4
                    try clear c5
                    try clear c7
                    try clear c9
                    try clear c12
                    try clear c12b0
                    try clear c12b1
                    try clear c14
                    try clear c15
                    try clear c16
                    try clear c17
                    try clear c25
                    try clear c26
                    try clear c27
                    try clear c30
                    try clear c32
                    try clear c32b0
                    try clear c32b1
                    try clear c33
                    try clear c33b0
                    try clear c33b1
                    try clear c34
                    try clear c34b0
                    try clear c34b1
                    try clear c35
                    try clear c35b0
                    try clear c35b1
                    try clear c36
                    try clear c36b0
                    try clear c36b1
                    try clear c37
                    try clear c37b0
                    try clear c37b1
                    try clear c38
                    try clear c38b0
                    try clear c38b1
                    try clear c40
                    try clear c43
                    try clear c44
                    try clear c44b0
                    try clear c44b1
                    try clear c45
                    try clear c45b0
                    try clear c45b1
                    try clear c46
                    try clear c46b0
                    try clear c46b1
                    try clear c47
                    try clear c47b0
                    try clear c47b1
                    try clear c47b2
                    try clear c57
                    try clear p2
                    obtain ⟨x23_3, rfl, HA, HK3, HO_9, HO_11, HO_19, HO_21, HB⟩ := hrel
                    cases gk with
                    | zero => exact absurd HA.out (by simp [clochelaw04_BlocksTurned.l0])
                    | succ k3 =>
                      have H := HA.out
                      clear HA
                      simp only [clochelaw04_BlocksTurned.l0] at H
                      by_cases c58 : x23_3 < (t668.length : Int)
                      · rw [if_pos c58] at H
                        have c58b0 : decide (x23_3 < (t668.length : Int)) = true := decide_eq_true c58
                        clear c58
                        by_cases c59 : 0 ≤ x23_3
                        · rw [if_pos c59] at H
                          have c59b0 : decide (0 ≤ x23_3) = true := decide_eq_true c59
                          clear c59
                          by_cases c60 : x23_3 < (l0.length : Int)
                          · rw [if_pos c60] at H
                            have c60b0 : decide (x23_3 < (l0.length : Int)) = true := decide_eq_true c60
                            clear c60
                            by_cases c61 : ((rd_L1 t668 x23_3).length : Int) = (rd l0 x23_3)
                            · rw [if_pos c61] at H
                              have c61b0 : (((rd_L1 t668 x23_3).length : Int) == (rd l0 x23_3)) = true := beq_iff_eq.mpr c61
                              have c61b1 : (((rd_L1 t668 x23_3).length : Int) != (rd l0 x23_3)) = false := bne_eq_false_iff_eq.mpr c61
                              clear c61
                              have H' := Aside0.mk H
                              clear H
                              obtain ⟨Ao62, co62, eo62⟩ := Kd.S_slice HO_9.out
                              subst eo62
                              try go_wp2
                              have n0_ := Aside0.mk (Kd.S_drew HO_9.out)
                              have n1_ := Aside0.mk (Kd.S_drew HO_11.out)
                              have n2_ := Aside0.mk (Kd.S_drew HO_19.out)
                              have n3_ := Aside0.mk (Kd.S_drew HO_21.out)
                              have n4_ := Aside0.mk (below_drew1 HB.out)
                              clear HO_9
                              clear HO_11
                              clear HO_19
                              clear HO_21
                              clear HB
                              have HO_9 := n0_
                              have HO_11 := n1_
                              have HO_19 := n2_
                              have HO_21 := n3_
                              have HB := n4_
                              clear n0_ n1_ n2_ n3_ n4_
                              have p699 : 0 ≤ (x23_3 : Int) := of_decide_eq_true (by first | (with_reducible assumption) | assumption)
                              have q699 : x23_3 < (t668.length : Int) := of_decide_eq_true (by first | (with_reducible assumption) | assumption)
                              obtain ⟨ad699, A699_0, c699_0, e699, hx699_0, hl699_0, hi699_0⟩ := at_L1 (Kd.S_reads' HO_9.out).2.2 x23_3 p699 q699
                              cases e699
                              obtain ⟨ce699, hce699, hMe699, hcc699⟩ := Kd.S_get HO_9.out [] x23_3 p699 (by first | exact q699 | exact of_decide_eq_true (by first | (with_reducible assumption) | assumption) | (have e_ := (Kd.S_reads' HO_9.out).1; omega))
                              obtain ⟨ve699_0, rfl, ge699_0⟩ := hMe699
                              have hv699_0 := hcc699 0 _ rfl
                              rw [Nat.add_zero, show ((Kd.slice 3 (Kd.int .i64))).sz = 1 from rfl, Nat.mul_one] at hv699_0
                              replace hv699_0 := Option.some.inj (hv699_0.symm.trans hx699_0)
                              rw [hv699_0] at ge699_0
                              have HL699_0 := Aside0.mk (show Kd.R (Kd.int .i64) 3 _ _ _ _ (rd_L1 t668 x23_3) from ge699_0)
                              clear hv699_0 ge699_0
                              clear hcc699 hce699
                              have HR699_0 := Aside0.mk hi699_0
                              have HC699_0 := Aside0.mk hl699_0
                              clear hi699_0 hl699_0
                              replace p699 := eq_true p699
                              replace q699 := eq_true q699
                              have p700 : 0 ≤ (x23_3 : Int) := of_decide_eq_true (by first | (with_reducible assumption) | assumption)
                              have q700 : x23_3 < (l0.length : Int) := of_decide_eq_true (by first | (with_reducible assumption) | assumption)
                              obtain ⟨ad700, e700, hx700_0⟩ := Kd.at_int HR0.out x23_3 p700 q700
                              have hw700_0 := hx700_0
                              cases e700
                              replace hx700_0 := (HB.out.cell (World.block_lt_of_cell? w _ hx700_0)).trans hx700_0
                              replace p700 := eq_true p700
                              replace q700 := eq_true q700
                              refine start_ (n := 10) (S := fun w' => w'.cell? (ad699.add (x23_3).toNat) = some (.slice A699_0 (rd_L1 t668 x23_3).length c699_0) ∧ w'.cell? (ad700.add (x23_3).toNat) = some (.int .i64 (rd l0 x23_3))) (ds := []) #[false, false, false, false, false, false, false, false, false, false] (by kernel_rfl) rfl rfl ⟨hx699_0, ((HB.out.cell (World.block_lt_of_cell? w _ hw700_0)).trans hw700_0)⟩ (fun hHeld => ?_); refine with_tabW clochelaw04_BlocksTurned.tab21 clochelaw04_BlocksTurned.bits21 (fun HT_ HW_ => ?_)
                              generalize wr.drew = w63 at HO_9 HO_11 HO_19 HO_21 HB HL699_0 HR699_0 hx699_0 hx700_0 hHeld ⊢
                              refine pure_ (i := 0) (N := some 180) (v := ?_) (a' := ?_) #[true, false, false, false, false, false, false, false, false, false] rfl rfl (any_of HT_.out (by kernel_rfl)) (fun _ _ _ h => h) (Or.inl ⟨by rfl, ?_⟩) ?_ ?_
                              rotate_left
                              · intro w'
                                go_simp
                                with_reducible rfl
                              rotate_left
                              · simp only [Act.put, List.setIfInBounds_toArray, List.set_cons_zero, List.set_cons_succ, i64_w, i32_w]
                                rfl
                              refine pure_ (i := 1) (N := some 181) (v := ?_) (a' := ?_) #[true, true, false, false, false, false, false, false, false, false] rfl rfl (any_of HT_.out (by kernel_rfl)) (fun _ _ _ h => h) (Or.inl ⟨by rfl, ?_⟩) ?_ ?_
                              rotate_left
                              · intro w'
                                go_simp
                                with_reducible rfl
                              rotate_left
                              · simp only [Act.put, List.setIfInBounds_toArray, List.set_cons_zero, List.set_cons_succ, i64_w, i32_w]
                                rfl
                              refine pure_ (i := 2) (N := some 182) (v := ?_) (a' := ?_) #[true, true, true, false, false, false, false, false, false, false] rfl rfl (any_of HT_.out (by kernel_rfl)) (fun _ _ _ h => h) (Or.inl ⟨by rfl, ?_⟩) ?_ ?_
                              rotate_left
                              · intro w'
                                go_simp
                                with_reducible rfl
                              rotate_left
                              · simp only [Act.put, List.setIfInBounds_toArray, List.set_cons_zero, List.set_cons_succ, i64_w, i32_w]
                                rfl
                              refine pure_ (i := 5) (N := some 185) (v := ?_) (a' := ?_) #[true, true, true, false, false, true, false, false, false, false] rfl rfl (any_of HT_.out (by kernel_rfl)) (fun _ _ _ h => h) (Or.inl ⟨by rfl, ?_⟩) ?_ ?_
                              rotate_left
                              · intro w'
                                go_simp
                                with_reducible rfl
                              rotate_left
                              · simp only [Act.put, List.setIfInBounds_toArray, List.set_cons_zero, List.set_cons_succ, i64_w, i32_w]
                                rfl
                              refine pure_ (i := 6) (N := some 186) (v := ?_) (a' := ?_) #[true, true, true, false, false, true, true, false, false, false] rfl rfl (any_of HT_.out (by kernel_rfl)) (fun _ _ _ h => h) (Or.inl ⟨by rfl, ?_⟩) ?_ ?_
                              rotate_left
                              · intro w'
                                go_simp
                                with_reducible rfl
                              rotate_left
                              · simp only [Act.put, List.setIfInBounds_toArray, List.set_cons_zero, List.set_cons_succ, i64_w, i32_w]
                                rfl
                              refine pure_ (i := 7) (N := some 187) (v := ?_) (a' := ?_) #[true, true, true, false, false, true, true, true, false, false] rfl rfl (any_of HT_.out (by kernel_rfl)) (fun _ _ _ h => h) (Or.inl ⟨by rfl, ?_⟩) ?_ ?_
                              rotate_left
                              · intro w'
                                go_simp
                                with_reducible rfl
                              rotate_left
                              · simp only [Act.put, List.setIfInBounds_toArray, List.set_cons_zero, List.set_cons_succ, i64_w, i32_w]
                                rfl
                              refine take_ (i := 3) (N := some 183) (v := ?_) (a' := ?_) #[true, true, true, true, false, true, true, true, false, false] rfl rfl (take_ofW HT_.out HW_.out (by kernel_rfl)) (fun _ _ _ h => h) (Or.inl ⟨by rfl, ?_⟩) hHeld ?_ ?_
                              rotate_left
                              · rintro w' ⟨s0, s1⟩
                                go_simp
                                with_reducible rfl
                              rotate_left
                              · simp only [Act.put, List.setIfInBounds_toArray, List.set_cons_zero, List.set_cons_succ, i64_w, i32_w]
                                rfl
                              refine pure_ (i := 4) (N := some 184) (v := ?_) (a' := ?_) #[true, true, true, true, true, true, true, true, false, false] rfl rfl (any_of HT_.out (by kernel_rfl)) (fun _ _ _ h => h) (Or.inl ⟨by rfl, ?_⟩) ?_ ?_
                              rotate_left
                              · intro w'
                                go_simp
                                with_reducible rfl
                              rotate_left
                              · simp only [Act.put, List.setIfInBounds_toArray, List.set_cons_zero, List.set_cons_succ, i64_w, i32_w]
                                rfl
                              refine take_ (i := 8) (N := some 188) (v := ?_) (a' := ?_) #[true, true, true, true, true, true, true, true, true, false] rfl rfl (take_ofW HT_.out HW_.out (by kernel_rfl)) (fun _ _ _ h => h) (Or.inl ⟨by rfl, ?_⟩) hHeld ?_ ?_
                              rotate_left
                              · rintro w' ⟨s0, s1⟩
                                go_simp
                                with_reducible rfl
                              rotate_left
                              · simp only [Act.put, List.setIfInBounds_toArray, List.set_cons_zero, List.set_cons_succ, i64_w, i32_w]
                                rfl
                              refine pure_ (i := 9) (N := some 189) (v := ?_) (a' := ?_) #[true, true, true, true, true, true, true, true, true, true] rfl rfl (any_of HT_.out (by kernel_rfl)) (fun _ _ _ h => h) (Or.inl ⟨by rfl, ?_⟩) ?_ ?_
                              rotate_left
                              · intro w'
                                go_simp
                                with_reducible rfl
                              rotate_left
                              · simp only [Act.put, List.setIfInBounds_toArray, List.set_cons_zero, List.set_cons_succ, i64_w, i32_w]
                                rfl
                              refine done_ (done_of HT_.out (by kernel_rfl)) ?_
                              try go_wp2
                              go_loopg [24] k3 (fun kq v24 w' => ∃ (x24_4 : Int), v24 = .int .i64 x24_4 ∧ Aside0 (clochelaw04_BlocksTurned.l1 kq l0 t656 t668 t672 t686 t690 x23_3 x24_4 = some r) ∧ Aside0 (kq ≤ k3) ∧ Aside0 (Kd.S (Kd.slice 3 (Kd.int .i64)) 22 w' w.heap.size (fun k_ => some k_ ≠ (v674 : Value).ownBlock ∧ some k_ ≠ (v688 : Value).ownBlock ∧ some k_ ≠ (v692 : Value).ownBlock) (.slice (some ad699) t668.length co62) t668) ∧ Aside0 (Kd.S (Kd.slice 3 (Kd.int .i64)) 22 w' w.heap.size (fun k_ => some k_ ≠ ((.slice (some ad699) t668.length co62) : Value).ownBlock ∧ some k_ ≠ (v688 : Value).ownBlock ∧ some k_ ≠ (v692 : Value).ownBlock) v674 t672) ∧ Aside0 (Kd.S (Kd.slice 3 (Kd.int .i64)) 22 w' w.heap.size (fun k_ => some k_ ≠ ((.slice (some ad699) t668.length co62) : Value).ownBlock ∧ some k_ ≠ (v674 : Value).ownBlock ∧ some k_ ≠ (v692 : Value).ownBlock) v688 t686) ∧ Aside0 (Kd.S (Kd.slice 3 (Kd.int .i64)) 22 w' w.heap.size (fun k_ => some k_ ≠ ((.slice (some ad699) t668.length co62) : Value).ownBlock ∧ some k_ ≠ (v674 : Value).ownBlock ∧ some k_ ≠ (v688 : Value).ownBlock) v692 t690) ∧ Aside0 (Kd.C (Kd.int .i64) w' A699_0 (rd_L1 t668 x23_3).length (rd_L1 t668 x23_3)) ∧ Aside0 (Below w.heap.size w w'))
                              case atStart => exact ⟨(0), (by first | rfl | (simp; done) | (simp [*]; done)), H', ⟨Nat.le_refl _⟩, ⟨by (with_reducible repeat (first | apply Kd.S_alloc | apply Kd.S_drewN | apply Kd.S_drew)); exact HO_9.out⟩, ⟨by (with_reducible repeat (first | apply Kd.S_alloc | apply Kd.S_drewN | apply Kd.S_drew)); exact HO_11.out⟩, ⟨by (with_reducible repeat (first | apply Kd.S_alloc | apply Kd.S_drewN | apply Kd.S_drew)); exact HO_19.out⟩, ⟨by (with_reducible repeat (first | apply Kd.S_alloc | apply Kd.S_drewN | apply Kd.S_drew)); exact HO_21.out⟩, ⟨by repeat (first | (with_reducible exact HR699_0.out) | (with_reducible exact Kd.C_drewN HR699_0.out _) | (with_reducible exact Kd.C_drew HR699_0.out) | (with_reducible refine Kd.C_alloc ?_ _) | (with_reducible refine Kd.C_drewN ?_ _) | (with_reducible refine Kd.C_drew ?_) | exact HR699_0.out)⟩, ⟨by repeat (first | (with_reducible first | exact HB.out | apply below_alloc | apply pw_below_drewN | apply below_drew1) | exact HB.out)⟩⟩
                              case round =>
                                as_aux_lemma =>
                                clear H'
                                try clear c1
                                try clear c2
                                try clear p2
                                try clear c3
                                try clear c4
                                try clear c5
                                try clear c6
                                try clear p6
                                try clear q6
                                try clear hx6
                                try clear c7
                                try clear p7
                                try clear q7
                                try clear hx7
                                try clear c9
                                try clear c12
                                try clear c12b0
                                try clear c12b1
                                try clear c14
                                try clear c15
                                try clear c16
                                try clear c17
                                try clear c25
                                try clear c26
                                try clear c27
                                try clear c30
                                try clear c32
                                try clear c32b0
                                try clear c32b1
                                try clear c33
                                try clear c33b0
                                try clear c33b1
                                try clear c34
                                try clear c34b0
                                try clear c34b1
                                try clear c35
                                try clear c35b0
                                try clear c35b1
                                try clear c36
                                try clear c36b0
                                try clear c36b1
                                try clear c37
                                try clear c37b0
                                try clear c37b1
                                try clear c38
                                try clear c38b0
                                try clear c38b1
                                try clear c40
                                try clear c43
                                try clear c44
                                try clear c44b0
                                try clear c44b1
                                try clear c45
                                try clear c45b0
                                try clear c45b1
                                try clear c46
                                try clear c46b0
                                try clear c46b1
                                try clear c47
                                try clear c47b0
                                try clear c47b1
                                try clear c47b2
                                try clear c57
                                try clear c58
                                try clear c58b0
                                try clear c59
                                try clear c59b0
                                try clear c60
                                try clear c60b0
                                try clear c61
                                try clear c61b0
                                try clear c61b1
                                try clear hx699_0
                                try clear hx700_0
                                try clear p2
                                try clear p699
                                try clear p700
                                try clear q699
                                try clear q700
                                obtain ⟨x24_4, rfl, HA, HK4, HO_9, HO_11, HO_19, HO_21, HR699_0, HB⟩ := hrel
                                cases gk with
                                | zero => exact absurd HA.out (by simp [clochelaw04_BlocksTurned.l1])
                                | succ k4 =>
                                  have H := HA.out
                                  clear HA
                                  simp only [clochelaw04_BlocksTurned.l1] at H
                                  by_cases c64 : 0 ≤ x23_3
                                  · rw [if_pos c64] at H
                                    have c64b0 : decide (0 ≤ x23_3) = true := decide_eq_true c64
                                    clear c64
                                    by_cases c65 : x23_3 < (t668.length : Int)
                                    · rw [if_pos c65] at H
                                      have c65b0 : decide (x23_3 < (t668.length : Int)) = true := decide_eq_true c65
                                      clear c65
                                      by_cases c66 : x24_4 < ((rd_L1 t668 x23_3).length : Int)
                                      · rw [if_pos c66] at H
                                        have c66b0 : decide (x24_4 < ((rd_L1 t668 x23_3).length : Int)) = true := decide_eq_true c66
                                        clear c66
                                        by_cases c67 : x24_4 ≥ (t672.length : Int)
                                        · rw [if_pos c67] at H
                                          exact absurd H (by simp)
                                        · rw [if_neg c67] at H
                                          have c67b0 : decide ((t672.length : Int) ≤ x24_4) = false := decide_eq_false c67
                                          clear c67
                                          by_cases c68 : 0 ≤ x24_4
                                          · rw [if_pos c68] at H
                                            have c68b0 : decide (0 ≤ x24_4) = true := decide_eq_true c68
                                            clear c68
                                            by_cases c69 : x24_4 < (t672.length : Int)
                                            · rw [if_pos c69] at H
                                              have c69b0 : decide (x24_4 < (t672.length : Int)) = true := decide_eq_true c69
                                              clear c69
                                              by_cases c70 : x23_3 ≥ ((rd_L1 t672 x24_4).length : Int)
                                              · rw [if_pos c70] at H
                                                exact absurd H (by simp)
                                              · rw [if_neg c70] at H
                                                have c70b0 : decide (((rd_L1 t672 x24_4).length : Int) ≤ x23_3) = false := decide_eq_false c70
                                                clear c70
                                                by_cases c71 : x23_3 < ((rd_L1 t672 x24_4).length : Int)
                                                · rw [if_pos c71] at H
                                                  have c71b0 : decide (x23_3 < ((rd_L1 t672 x24_4).length : Int)) = true := decide_eq_true c71
                                                  clear c71
                                                  by_cases c72 : (rd (rd_L1 t672 x24_4) x23_3) = (rd (rd_L1 t668 x23_3) x24_4)
                                                  · rw [if_pos c72] at H
                                                    have c72b0 : ((rd (rd_L1 t672 x24_4) x23_3) == (rd (rd_L1 t668 x23_3) x24_4)) = true := beq_iff_eq.mpr c72
                                                    have c72b1 : ((rd (rd_L1 t672 x24_4) x23_3) != (rd (rd_L1 t668 x23_3) x24_4)) = false := bne_eq_false_iff_eq.mpr c72
                                                    clear c72
                                                    have H' := Aside0.mk H
                                                    clear H
                                                    have p701 : 0 ≤ (x23_3 : Int) := of_decide_eq_true (by first | (with_reducible assumption) | assumption)
                                                    have q701 : x23_3 < (t668.length : Int) := of_decide_eq_true (by first | (with_reducible assumption) | assumption)
                                                    obtain ⟨ad701, A701_0, c701_0, e701, hx701_0, hl701_0, hi701_0⟩ := at_L1 (Kd.S_reads' HO_9.out).2.2 x23_3 p701 q701
                                                    obtain rfl : ad699 = ad701 := (by injection e701)
                                                    obtain ⟨ce701, hce701, hMe701, hcc701⟩ := Kd.S_get HO_9.out [] x23_3 p701 (by first | exact q701 | exact of_decide_eq_true (by first | (with_reducible assumption) | assumption) | (have e_ := (Kd.S_reads' HO_9.out).1; omega))
                                                    obtain ⟨ve701_0, rfl, ge701_0⟩ := hMe701
                                                    have hv701_0 := hcc701 0 _ rfl
                                                    rw [Nat.add_zero, show ((Kd.slice 3 (Kd.int .i64))).sz = 1 from rfl, Nat.mul_one] at hv701_0
                                                    replace hv701_0 := Option.some.inj (hv701_0.symm.trans hx701_0)
                                                    rw [hv701_0] at ge701_0
                                                    have HL701_0 := Aside0.mk (show Kd.R (Kd.int .i64) 3 _ _ _ _ (rd_L1 t668 x23_3) from ge701_0)
                                                    clear hv701_0 ge701_0
                                                    clear hcc701 hce701
                                                    have HR701_0 := Aside0.mk hi701_0
                                                    have HC701_0 := Aside0.mk hl701_0
                                                    clear hi701_0 hl701_0
                                                    replace p701 := eq_true p701
                                                    replace q701 := eq_true q701
                                                    try go_wp2
                                                    have n0_ := Aside0.mk (Kd.S_drew HO_9.out)
                                                    have n1_ := Aside0.mk (Kd.S_drew HO_11.out)
                                                    have n2_ := Aside0.mk (Kd.S_drew HO_19.out)
                                                    have n3_ := Aside0.mk (Kd.S_drew HO_21.out)
                                                    have n4_ := Aside0.mk (Kd.R_drew HL701_0.out)
                                                    have n5_ := Aside0.mk (Kd.C_drew HR699_0.out)
                                                    have n6_ := Aside0.mk (Kd.C_drew HR701_0.out)
                                                    have n7_ := Aside0.mk (below_drew1 HB.out)
                                                    clear HO_9
                                                    clear HO_11
                                                    clear HO_19
                                                    clear HO_21
                                                    clear HL701_0
                                                    clear HR699_0
                                                    clear HR701_0
                                                    clear HB
                                                    have HO_9 := n0_
                                                    have HO_11 := n1_
                                                    have HO_19 := n2_
                                                    have HO_21 := n3_
                                                    have HL701_0 := n4_
                                                    have HR699_0 := n5_
                                                    have HR701_0 := n6_
                                                    have HB := n7_
                                                    clear n0_ n1_ n2_ n3_ n4_ n5_ n6_ n7_
                                                    obtain ⟨Ao74, co74, eo74⟩ := Kd.S_slice HO_11.out
                                                    (first | subst eo74 | (injection eo74 with f1_ f2_ f3_; have f4_ := f1_.symm; have f5_ := f3_.symm; clear f1_ f2_ f3_; subst f4_; subst f5_))
                                                    have p702 : 0 ≤ (x24_4 : Int) := of_decide_eq_true (by first | (with_reducible assumption) | assumption)
                                                    have q702 : x24_4 < (t672.length : Int) := of_decide_eq_true (by first | (with_reducible assumption) | assumption)
                                                    obtain ⟨ad702, A702_0, c702_0, e702, hx702_0, hl702_0, hi702_0⟩ := at_L1 (Kd.S_reads' HO_11.out).2.2 x24_4 p702 q702
                                                    cases e702
                                                    obtain ⟨ce702, hce702, hMe702, hcc702⟩ := Kd.S_get HO_11.out [] x24_4 p702 (by first | exact q702 | exact of_decide_eq_true (by first | (with_reducible assumption) | assumption) | (have e_ := (Kd.S_reads' HO_11.out).1; omega))
                                                    obtain ⟨ve702_0, rfl, ge702_0⟩ := hMe702
                                                    have hv702_0 := hcc702 0 _ rfl
                                                    rw [Nat.add_zero, show ((Kd.slice 3 (Kd.int .i64))).sz = 1 from rfl, Nat.mul_one] at hv702_0
                                                    replace hv702_0 := Option.some.inj (hv702_0.symm.trans hx702_0)
                                                    rw [hv702_0] at ge702_0
                                                    have HL702_0 := Aside0.mk (show Kd.R (Kd.int .i64) 3 _ _ _ _ (rd_L1 t672 x24_4) from ge702_0)
                                                    clear hv702_0 ge702_0
                                                    clear hcc702 hce702
                                                    have HR702_0 := Aside0.mk hi702_0
                                                    have HC702_0 := Aside0.mk hl702_0
                                                    clear hi702_0 hl702_0
                                                    replace p702 := eq_true p702
                                                    replace q702 := eq_true q702
                                                    have p703 : 0 ≤ (x24_4 : Int) := of_decide_eq_true (by first | (with_reducible assumption) | assumption)
                                                    have q703 : x24_4 < (t672.length : Int) := of_decide_eq_true (by first | (with_reducible assumption) | assumption)
                                                    obtain ⟨ad703, A703_0, c703_0, e703, hx703_0, hl703_0, hi703_0⟩ := at_L1 (Kd.S_reads' HO_11.out).2.2 x24_4 p703 q703
                                                    obtain rfl : ad702 = ad703 := (by injection e703)
                                                    obtain ⟨ce703, hce703, hMe703, hcc703⟩ := Kd.S_get HO_11.out [] x24_4 p703 (by first | exact q703 | exact of_decide_eq_true (by first | (with_reducible assumption) | assumption) | (have e_ := (Kd.S_reads' HO_11.out).1; omega))
                                                    obtain ⟨ve703_0, rfl, ge703_0⟩ := hMe703
                                                    have hv703_0 := hcc703 0 _ rfl
                                                    rw [Nat.add_zero, show ((Kd.slice 3 (Kd.int .i64))).sz = 1 from rfl, Nat.mul_one] at hv703_0
                                                    replace hv703_0 := Option.some.inj (hv703_0.symm.trans hx703_0)
                                                    rw [hv703_0] at ge703_0
                                                    have HL703_0 := Aside0.mk (show Kd.R (Kd.int .i64) 3 _ _ _ _ (rd_L1 t672 x24_4) from ge703_0)
                                                    clear hv703_0 ge703_0
                                                    clear hcc703 hce703
                                                    have HR703_0 := Aside0.mk hi703_0
                                                    have HC703_0 := Aside0.mk hl703_0
                                                    clear hi703_0 hl703_0
                                                    replace p703 := eq_true p703
                                                    replace q703 := eq_true q703
                                                    have ea_ := Option.some.inj (hx702_0.symm.trans hx703_0)
                                                    injection ea_ with ea_ en_ ec_
                                                    subst ea_
                                                    subst ec_
                                                    clear en_
                                                    have p704 : 0 ≤ (x23_3 : Int) := of_decide_eq_true (by first | (with_reducible assumption) | assumption)
                                                    have q704 : x23_3 < ((rd_L1 t672 x24_4).length : Int) := of_decide_eq_true (by first | (with_reducible assumption) | assumption)
                                                    obtain ⟨ad704, e704, hx704_0⟩ := Kd.at_int (by repeat (first | (with_reducible exact HR703_0.out) | (with_reducible exact Kd.C_drewN HR703_0.out _) | (with_reducible exact Kd.C_drew HR703_0.out) | (with_reducible refine Kd.C_alloc ?_ _) | (with_reducible refine Kd.C_drewN ?_ _) | (with_reducible refine Kd.C_drew ?_) | exact HR703_0.out)) x23_3 p704 q704
                                                    cases e704
                                                    replace p704 := eq_true p704
                                                    replace q704 := eq_true q704
                                                    have p705 : 0 ≤ (x23_3 : Int) := of_decide_eq_true (by first | (with_reducible assumption) | assumption)
                                                    have q705 : x23_3 < (t668.length : Int) := of_decide_eq_true (by first | (with_reducible assumption) | assumption)
                                                    obtain ⟨ad705, A705_0, c705_0, e705, hx705_0, hl705_0, hi705_0⟩ := at_L1 (Kd.S_reads' HO_9.out).2.2 x23_3 p705 q705
                                                    obtain rfl : ad699 = ad705 := (by injection e705)
                                                    obtain ⟨ce705, hce705, hMe705, hcc705⟩ := Kd.S_get HO_9.out [] x23_3 p705 (by first | exact q705 | exact of_decide_eq_true (by first | (with_reducible assumption) | assumption) | (have e_ := (Kd.S_reads' HO_9.out).1; omega))
                                                    obtain ⟨ve705_0, rfl, ge705_0⟩ := hMe705
                                                    have hv705_0 := hcc705 0 _ rfl
                                                    rw [Nat.add_zero, show ((Kd.slice 3 (Kd.int .i64))).sz = 1 from rfl, Nat.mul_one] at hv705_0
                                                    replace hv705_0 := Option.some.inj (hv705_0.symm.trans hx705_0)
                                                    rw [hv705_0] at ge705_0
                                                    have HL705_0 := Aside0.mk (show Kd.R (Kd.int .i64) 3 _ _ _ _ (rd_L1 t668 x23_3) from ge705_0)
                                                    clear hv705_0 ge705_0
                                                    clear hcc705 hce705
                                                    have HR705_0 := Aside0.mk hi705_0
                                                    have HC705_0 := Aside0.mk hl705_0
                                                    clear hi705_0 hl705_0
                                                    replace p705 := eq_true p705
                                                    replace q705 := eq_true q705
                                                    have p706 : 0 ≤ (x24_4 : Int) := of_decide_eq_true (by first | (with_reducible assumption) | assumption)
                                                    have q706 : x24_4 < ((rd_L1 t668 x23_3).length : Int) := of_decide_eq_true (by first | (with_reducible assumption) | assumption)
                                                    obtain ⟨ad706, e706, hx706_0⟩ := Kd.at_int (by repeat (first | (with_reducible exact HR705_0.out) | (with_reducible exact Kd.C_drewN HR705_0.out _) | (with_reducible exact Kd.C_drew HR705_0.out) | (with_reducible refine Kd.C_alloc ?_ _) | (with_reducible refine Kd.C_drewN ?_ _) | (with_reducible refine Kd.C_drew ?_) | exact HR705_0.out)) x24_4 p706 q706
                                                    cases e706
                                                    replace p706 := eq_true p706
                                                    replace q706 := eq_true q706
                                                    refine start_ (n := 30) (S := fun w' => w'.cell? (ad702.add (x24_4).toNat) = some (.slice (some ad704) (rd_L1 t672 x24_4).length c702_0) ∧ w'.cell? (ad702.add (x24_4).toNat) = some (.slice (some ad704) (rd_L1 t672 x24_4).length c702_0) ∧ w'.cell? (ad704.add (x23_3).toNat) = some (.int .i64 (rd (rd_L1 t672 x24_4) x23_3)) ∧ w'.cell? (ad699.add (x23_3).toNat) = some (.slice (some ad706) (rd_L1 t668 x23_3).length c705_0) ∧ w'.cell? (ad706.add (x24_4).toNat) = some (.int .i64 (rd (rd_L1 t668 x23_3) x24_4))) (ds := []) #[false, false, false, false, false, false, false, false, false, false, false, false, false, false, false, false, false, false, false, false, false, false, false, false, false, false, false, false, false, false] (by kernel_rfl) rfl rfl ⟨hx702_0, hx703_0, hx704_0, hx705_0, hx706_0⟩ (fun hHeld => ?_); refine with_tabW clochelaw04_BlocksTurned.tab26 clochelaw04_BlocksTurned.bits26 (fun HT_ HW_ => ?_)
                                                    generalize wr.drew = w73 at HO_9 HO_11 HO_19 HO_21 HL701_0 HR699_0 HR701_0 HB HL702_0 HL703_0 HL705_0 HR702_0 HR703_0 HR705_0 hx702_0 hx703_0 hx704_0 hx705_0 hx706_0 hHeld ⊢
                                                    refine pure_ (i := 0) (N := some 199) (v := ?_) (a' := ?_) #[true, false, false, false, false, false, false, false, false, false, false, false, false, false, false, false, false, false, false, false, false, false, false, false, false, false, false, false, false, false] rfl rfl (any_of HT_.out (by kernel_rfl)) (fun _ _ _ h => h) (Or.inl ⟨by rfl, ?_⟩) ?_ ?_
                                                    rotate_left
                                                    · intro w'
                                                      go_simp
                                                      with_reducible rfl
                                                    rotate_left
                                                    · simp only [Act.put, List.setIfInBounds_toArray, List.set_cons_zero, List.set_cons_succ, i64_w, i32_w]
                                                      rfl
                                                    refine pure_ (i := 1) (N := some 200) (v := ?_) (a' := ?_) #[true, true, false, false, false, false, false, false, false, false, false, false, false, false, false, false, false, false, false, false, false, false, false, false, false, false, false, false, false, false] rfl rfl (any_of HT_.out (by kernel_rfl)) (fun _ _ _ h => h) (Or.inl ⟨by rfl, ?_⟩) ?_ ?_
                                                    rotate_left
                                                    · intro w'
                                                      go_simp
                                                      with_reducible rfl
                                                    rotate_left
                                                    · simp only [Act.put, List.setIfInBounds_toArray, List.set_cons_zero, List.set_cons_succ, i64_w, i32_w]
                                                      rfl
                                                    refine pure_ (i := 2) (N := some 201) (v := ?_) (a' := ?_) #[true, true, true, false, false, false, false, false, false, false, false, false, false, false, false, false, false, false, false, false, false, false, false, false, false, false, false, false, false, false] rfl rfl (any_of HT_.out (by kernel_rfl)) (fun _ _ _ h => h) (Or.inl ⟨by rfl, ?_⟩) ?_ ?_
                                                    rotate_left
                                                    · intro w'
                                                      go_simp
                                                      with_reducible rfl
                                                    rotate_left
                                                    · simp only [Act.put, List.setIfInBounds_toArray, List.set_cons_zero, List.set_cons_succ, i64_w, i32_w]
                                                      rfl
                                                    refine pure_ (i := 3) (N := some 202) (v := ?_) (a' := ?_) #[true, true, true, true, false, false, false, false, false, false, false, false, false, false, false, false, false, false, false, false, false, false, false, false, false, false, false, false, false, false] rfl rfl (any_of HT_.out (by kernel_rfl)) (fun _ _ _ h => h) (Or.inl ⟨by rfl, ?_⟩) ?_ ?_
                                                    rotate_left
                                                    · intro w'
                                                      go_simp
                                                      with_reducible rfl
                                                    rotate_left
                                                    · simp only [Act.put, List.setIfInBounds_toArray, List.set_cons_zero, List.set_cons_succ, i64_w, i32_w]
                                                      rfl
                                                    refine pure_ (i := 4) (N := some 203) (v := ?_) (a' := ?_) #[true, true, true, true, true, false, false, false, false, false, false, false, false, false, false, false, false, false, false, false, false, false, false, false, false, false, false, false, false, false] rfl rfl (any_of HT_.out (by kernel_rfl)) (fun _ _ _ h => h) (Or.inl ⟨by rfl, ?_⟩) ?_ ?_
                                                    rotate_left
                                                    · intro w'
                                                      go_simp
                                                      with_reducible rfl
                                                    rotate_left
                                                    · simp only [Act.put, List.setIfInBounds_toArray, List.set_cons_zero, List.set_cons_succ, i64_w, i32_w]
                                                      rfl
                                                    refine pure_ (i := 5) (N := some 204) (v := ?_) (a' := ?_) #[true, true, true, true, true, true, false, false, false, false, false, false, false, false, false, false, false, false, false, false, false, false, false, false, false, false, false, false, false, false] rfl rfl (any_of HT_.out (by kernel_rfl)) (fun _ _ _ h => h) (Or.inl ⟨by rfl, ?_⟩) ?_ ?_
                                                    rotate_left
                                                    · intro w'
                                                      go_simp
                                                      with_reducible rfl
                                                    rotate_left
                                                    · simp only [Act.put, List.setIfInBounds_toArray, List.set_cons_zero, List.set_cons_succ, i64_w, i32_w]
                                                      rfl
                                                    refine pure_ (i := 6) (N := some 205) (v := ?_) (a' := ?_) #[true, true, true, true, true, true, true, false, false, false, false, false, false, false, false, false, false, false, false, false, false, false, false, false, false, false, false, false, false, false] rfl rfl (any_of HT_.out (by kernel_rfl)) (fun _ _ _ h => h) (Or.inl ⟨by rfl, ?_⟩) ?_ ?_
                                                    rotate_left
                                                    · intro w'
                                                      go_simp
                                                      with_reducible rfl
                                                    rotate_left
                                                    · simp only [Act.put, List.setIfInBounds_toArray, List.set_cons_zero, List.set_cons_succ, i64_w, i32_w]
                                                      rfl
                                                    refine pure_ (i := 7) (N := some 206) (v := ?_) (a' := ?_) #[true, true, true, true, true, true, true, true, false, false, false, false, false, false, false, false, false, false, false, false, false, false, false, false, false, false, false, false, false, false] rfl rfl (any_of HT_.out (by kernel_rfl)) (fun _ _ _ h => h) (Or.inl ⟨by rfl, ?_⟩) ?_ ?_
                                                    rotate_left
                                                    · intro w'
                                                      go_simp
                                                      with_reducible rfl
                                                    rotate_left
                                                    · simp only [Act.put, List.setIfInBounds_toArray, List.set_cons_zero, List.set_cons_succ, i64_w, i32_w]
                                                      rfl
                                                    refine pure_ (i := 8) (N := some 207) (v := ?_) (a' := ?_) #[true, true, true, true, true, true, true, true, true, false, false, false, false, false, false, false, false, false, false, false, false, false, false, false, false, false, false, false, false, false] rfl rfl (any_of HT_.out (by kernel_rfl)) (fun _ _ _ h => h) (Or.inl ⟨by rfl, ?_⟩) ?_ ?_
                                                    rotate_left
                                                    · intro w'
                                                      go_simp
                                                      with_reducible rfl
                                                    rotate_left
                                                    · simp only [Act.put, List.setIfInBounds_toArray, List.set_cons_zero, List.set_cons_succ, i64_w, i32_w]
                                                      rfl
                                                    refine take_ (i := 9) (N := some 208) (v := ?_) (a' := ?_) #[true, true, true, true, true, true, true, true, true, true, false, false, false, false, false, false, false, false, false, false, false, false, false, false, false, false, false, false, false, false] rfl rfl (take_ofW HT_.out HW_.out (by kernel_rfl)) (fun _ _ _ h => h) (Or.inl ⟨by rfl, ?_⟩) hHeld ?_ ?_
                                                    rotate_left
                                                    · rintro w' ⟨s0, s1, s2, s3, s4⟩
                                                      go_simp
                                                      with_reducible rfl
                                                    rotate_left
                                                    · simp only [Act.put, List.setIfInBounds_toArray, List.set_cons_zero, List.set_cons_succ, i64_w, i32_w]
                                                      rfl
                                                    refine pure_ (i := 10) (N := some 209) (v := ?_) (a' := ?_) #[true, true, true, true, true, true, true, true, true, true, true, false, false, false, false, false, false, false, false, false, false, false, false, false, false, false, false, false, false, false] rfl rfl (any_of HT_.out (by kernel_rfl)) (fun _ _ _ h => h) (Or.inl ⟨by rfl, ?_⟩) ?_ ?_
                                                    rotate_left
                                                    · intro w'
                                                      go_simp
                                                      with_reducible rfl
                                                    rotate_left
                                                    · simp only [Act.put, List.setIfInBounds_toArray, List.set_cons_zero, List.set_cons_succ, i64_w, i32_w]
                                                      rfl
                                                    refine pure_ (i := 11) (N := some 210) (v := ?_) (a' := ?_) #[true, true, true, true, true, true, true, true, true, true, true, true, false, false, false, false, false, false, false, false, false, false, false, false, false, false, false, false, false, false] rfl rfl (any_of HT_.out (by kernel_rfl)) (fun _ _ _ h => h) (Or.inl ⟨by rfl, ?_⟩) ?_ ?_
                                                    rotate_left
                                                    · intro w'
                                                      go_simp
                                                      with_reducible rfl
                                                    rotate_left
                                                    · simp only [Act.put, List.setIfInBounds_toArray, List.set_cons_zero, List.set_cons_succ, i64_w, i32_w]
                                                      rfl
                                                    refine pure_ (i := 12) (N := some 211) (v := ?_) (a' := ?_) #[true, true, true, true, true, true, true, true, true, true, true, true, true, false, false, false, false, false, false, false, false, false, false, false, false, false, false, false, false, false] rfl rfl (any_of HT_.out (by kernel_rfl)) (fun _ _ _ h => h) (Or.inl ⟨by rfl, ?_⟩) ?_ ?_
                                                    rotate_left
                                                    · intro w'
                                                      go_simp
                                                      with_reducible rfl
                                                    rotate_left
                                                    · simp only [Act.put, List.setIfInBounds_toArray, List.set_cons_zero, List.set_cons_succ, i64_w, i32_w]
                                                      rfl
                                                    refine pure_ (i := 13) (N := some 212) (v := ?_) (a' := ?_) #[true, true, true, true, true, true, true, true, true, true, true, true, true, true, false, false, false, false, false, false, false, false, false, false, false, false, false, false, false, false] rfl rfl (any_of HT_.out (by kernel_rfl)) (fun _ _ _ h => h) (Or.inl ⟨by rfl, ?_⟩) ?_ ?_
                                                    rotate_left
                                                    · intro w'
                                                      go_simp
                                                      with_reducible rfl
                                                    rotate_left
                                                    · simp only [Act.put, List.setIfInBounds_toArray, List.set_cons_zero, List.set_cons_succ, i64_w, i32_w]
                                                      rfl
                                                    refine pure_ (i := 14) (N := some 213) (v := ?_) (a' := ?_) #[true, true, true, true, true, true, true, true, true, true, true, true, true, true, true, false, false, false, false, false, false, false, false, false, false, false, false, false, false, false] rfl rfl (any_of HT_.out (by kernel_rfl)) (fun _ _ _ h => h) (Or.inl ⟨by rfl, ?_⟩) ?_ ?_
                                                    rotate_left
                                                    · intro w'
                                                      go_simp
                                                      with_reducible rfl
                                                    rotate_left
                                                    · simp only [Act.put, List.setIfInBounds_toArray, List.set_cons_zero, List.set_cons_succ, i64_w, i32_w]
                                                      rfl
                                                    refine pure_ (i := 15) (N := some 214) (v := ?_) (a' := ?_) #[true, true, true, true, true, true, true, true, true, true, true, true, true, true, true, true, false, false, false, false, false, false, false, false, false, false, false, false, false, false] rfl rfl (any_of HT_.out (by kernel_rfl)) (fun _ _ _ h => h) (Or.inl ⟨by rfl, ?_⟩) ?_ ?_
                                                    rotate_left
                                                    · intro w'
                                                      go_simp
                                                      with_reducible rfl
                                                    rotate_left
                                                    · simp only [Act.put, List.setIfInBounds_toArray, List.set_cons_zero, List.set_cons_succ, i64_w, i32_w]
                                                      rfl
                                                    refine pure_ (i := 16) (N := some 215) (v := ?_) (a' := ?_) #[true, true, true, true, true, true, true, true, true, true, true, true, true, true, true, true, true, false, false, false, false, false, false, false, false, false, false, false, false, false] rfl rfl (any_of HT_.out (by kernel_rfl)) (fun _ _ _ h => h) (Or.inl ⟨by rfl, ?_⟩) ?_ ?_
                                                    rotate_left
                                                    · intro w'
                                                      go_simp
                                                      with_reducible rfl
                                                    rotate_left
                                                    · simp only [Act.put, List.setIfInBounds_toArray, List.set_cons_zero, List.set_cons_succ, i64_w, i32_w]
                                                      rfl
                                                    refine pure_ (i := 18) (N := some 217) (v := ?_) (a' := ?_) #[true, true, true, true, true, true, true, true, true, true, true, true, true, true, true, true, true, false, true, false, false, false, false, false, false, false, false, false, false, false] rfl rfl (any_of HT_.out (by kernel_rfl)) (fun _ _ _ h => h) (Or.inl ⟨by rfl, ?_⟩) ?_ ?_
                                                    rotate_left
                                                    · intro w'
                                                      go_simp
                                                      with_reducible rfl
                                                    rotate_left
                                                    · simp only [Act.put, List.setIfInBounds_toArray, List.set_cons_zero, List.set_cons_succ, i64_w, i32_w]
                                                      rfl
                                                    refine pure_ (i := 21) (N := some 220) (v := ?_) (a' := ?_) #[true, true, true, true, true, true, true, true, true, true, true, true, true, true, true, true, true, false, true, false, false, true, false, false, false, false, false, false, false, false] rfl rfl (any_of HT_.out (by kernel_rfl)) (fun _ _ _ h => h) (Or.inl ⟨by rfl, ?_⟩) ?_ ?_
                                                    rotate_left
                                                    · intro w'
                                                      go_simp
                                                      with_reducible rfl
                                                    rotate_left
                                                    · simp only [Act.put, List.setIfInBounds_toArray, List.set_cons_zero, List.set_cons_succ, i64_w, i32_w]
                                                      rfl
                                                    refine pure_ (i := 22) (N := some 221) (v := ?_) (a' := ?_) #[true, true, true, true, true, true, true, true, true, true, true, true, true, true, true, true, true, false, true, false, false, true, true, false, false, false, false, false, false, false] rfl rfl (any_of HT_.out (by kernel_rfl)) (fun _ _ _ h => h) (Or.inl ⟨by rfl, ?_⟩) ?_ ?_
                                                    rotate_left
                                                    · intro w'
                                                      go_simp
                                                      with_reducible rfl
                                                    rotate_left
                                                    · simp only [Act.put, List.setIfInBounds_toArray, List.set_cons_zero, List.set_cons_succ, i64_w, i32_w]
                                                      rfl
                                                    refine pure_ (i := 23) (N := some 222) (v := ?_) (a' := ?_) #[true, true, true, true, true, true, true, true, true, true, true, true, true, true, true, true, true, false, true, false, false, true, true, true, false, false, false, false, false, false] rfl rfl (any_of HT_.out (by kernel_rfl)) (fun _ _ _ h => h) (Or.inl ⟨by rfl, ?_⟩) ?_ ?_
                                                    rotate_left
                                                    · intro w'
                                                      go_simp
                                                      with_reducible rfl
                                                    rotate_left
                                                    · simp only [Act.put, List.setIfInBounds_toArray, List.set_cons_zero, List.set_cons_succ, i64_w, i32_w]
                                                      rfl
                                                    refine pure_ (i := 25) (N := some 224) (v := ?_) (a' := ?_) #[true, true, true, true, true, true, true, true, true, true, true, true, true, true, true, true, true, false, true, false, false, true, true, true, false, true, false, false, false, false] rfl rfl (any_of HT_.out (by kernel_rfl)) (fun _ _ _ h => h) (Or.inl ⟨by rfl, ?_⟩) ?_ ?_
                                                    rotate_left
                                                    · intro w'
                                                      go_simp
                                                      with_reducible rfl
                                                    rotate_left
                                                    · simp only [Act.put, List.setIfInBounds_toArray, List.set_cons_zero, List.set_cons_succ, i64_w, i32_w]
                                                      rfl
                                                    refine take_ (i := 17) (N := some 216) (v := ?_) (a' := ?_) #[true, true, true, true, true, true, true, true, true, true, true, true, true, true, true, true, true, true, true, false, false, true, true, true, false, true, false, false, false, false] rfl rfl (take_ofW HT_.out HW_.out (by kernel_rfl)) (fun _ _ _ h => h) (Or.inl ⟨by rfl, ?_⟩) hHeld ?_ ?_
                                                    rotate_left
                                                    · rintro w' ⟨s0, s1, s2, s3, s4⟩
                                                      go_simp
                                                      with_reducible rfl
                                                    rotate_left
                                                    · simp only [Act.put, List.setIfInBounds_toArray, List.set_cons_zero, List.set_cons_succ, i64_w, i32_w]
                                                      rfl
                                                    refine pure_ (i := 19) (N := some 218) (v := ?_) (a' := ?_) #[true, true, true, true, true, true, true, true, true, true, true, true, true, true, true, true, true, true, true, true, false, true, true, true, false, true, false, false, false, false] rfl rfl (any_of HT_.out (by kernel_rfl)) (fun _ _ _ h => h) (Or.inl ⟨by rfl, ?_⟩) ?_ ?_
                                                    rotate_left
                                                    · intro w'
                                                      go_simp
                                                      with_reducible rfl
                                                    rotate_left
                                                    · simp only [Act.put, List.setIfInBounds_toArray, List.set_cons_zero, List.set_cons_succ, i64_w, i32_w]
                                                      rfl
                                                    refine take_ (i := 20) (N := some 219) (v := ?_) (a' := ?_) #[true, true, true, true, true, true, true, true, true, true, true, true, true, true, true, true, true, true, true, true, true, true, true, true, false, true, false, false, false, false] rfl rfl (take_ofW HT_.out HW_.out (by kernel_rfl)) (fun _ _ _ h => h) (Or.inl ⟨by rfl, ?_⟩) hHeld ?_ ?_
                                                    rotate_left
                                                    · rintro w' ⟨s0, s1, s2, s3, s4⟩
                                                      go_simp
                                                      with_reducible rfl
                                                    rotate_left
                                                    · simp only [Act.put, List.setIfInBounds_toArray, List.set_cons_zero, List.set_cons_succ, i64_w, i32_w]
                                                      rfl
                                                    refine take_ (i := 24) (N := some 223) (v := ?_) (a' := ?_) #[true, true, true, true, true, true, true, true, true, true, true, true, true, true, true, true, true, true, true, true, true, true, true, true, true, true, false, false, false, false] rfl rfl (take_ofW HT_.out HW_.out (by kernel_rfl)) (fun _ _ _ h => h) (Or.inl ⟨by rfl, ?_⟩) hHeld ?_ ?_
                                                    rotate_left
                                                    · rintro w' ⟨s0, s1, s2, s3, s4⟩
                                                      go_simp
                                                      with_reducible rfl
                                                    rotate_left
                                                    · simp only [Act.put, List.setIfInBounds_toArray, List.set_cons_zero, List.set_cons_succ, i64_w, i32_w]
                                                      rfl
                                                    refine pure_ (i := 26) (N := some 225) (v := ?_) (a' := ?_) #[true, true, true, true, true, true, true, true, true, true, true, true, true, true, true, true, true, true, true, true, true, true, true, true, true, true, true, false, false, false] rfl rfl (any_of HT_.out (by kernel_rfl)) (fun _ _ _ h => h) (Or.inl ⟨by rfl, ?_⟩) ?_ ?_
                                                    rotate_left
                                                    · intro w'
                                                      go_simp
                                                      with_reducible rfl
                                                    rotate_left
                                                    · simp only [Act.put, List.setIfInBounds_toArray, List.set_cons_zero, List.set_cons_succ, i64_w, i32_w]
                                                      rfl
                                                    refine take_ (i := 27) (N := some 226) (v := ?_) (a' := ?_) #[true, true, true, true, true, true, true, true, true, true, true, true, true, true, true, true, true, true, true, true, true, true, true, true, true, true, true, true, false, false] rfl rfl (take_ofW HT_.out HW_.out (by kernel_rfl)) (fun _ _ _ h => h) (Or.inl ⟨by rfl, ?_⟩) hHeld ?_ ?_
                                                    rotate_left
                                                    · rintro w' ⟨s0, s1, s2, s3, s4⟩
                                                      go_simp
                                                      with_reducible rfl
                                                    rotate_left
                                                    · simp only [Act.put, List.setIfInBounds_toArray, List.set_cons_zero, List.set_cons_succ, i64_w, i32_w]
                                                      rfl
                                                    refine pure_ (i := 28) (N := some 227) (v := ?_) (a' := ?_) #[true, true, true, true, true, true, true, true, true, true, true, true, true, true, true, true, true, true, true, true, true, true, true, true, true, true, true, true, true, false] rfl rfl (any_of HT_.out (by kernel_rfl)) (fun _ _ _ h => h) (Or.inl ⟨by rfl, ?_⟩) ?_ ?_
                                                    rotate_left
                                                    · intro w'
                                                      go_simp
                                                      with_reducible rfl
                                                    rotate_left
                                                    · simp only [Act.put, List.setIfInBounds_toArray, List.set_cons_zero, List.set_cons_succ, i64_w, i32_w]
                                                      rfl
                                                    refine pure_ (i := 29) (N := some 228) (v := ?_) (a' := ?_) #[true, true, true, true, true, true, true, true, true, true, true, true, true, true, true, true, true, true, true, true, true, true, true, true, true, true, true, true, true, true] rfl rfl (any_of HT_.out (by kernel_rfl)) (fun _ _ _ h => h) (Or.inl ⟨by rfl, ?_⟩) ?_ ?_
                                                    rotate_left
                                                    · intro w'
                                                      go_simp
                                                      with_reducible rfl
                                                    rotate_left
                                                    · simp only [Act.put, List.setIfInBounds_toArray, List.set_cons_zero, List.set_cons_succ, i64_w, i32_w]
                                                      rfl
                                                    refine done_ (done_of HT_.out (by kernel_rfl)) ?_
                                                    try go_wp2
                                                    go_roundg k4
                                                    case measure => have := HJ2.out; have := HJ21.out; have := HK3.out; have := HK4.out; omega
                                                    case rel => exact ⟨(wrap64 (x24_4 + 1)), (by first | rfl | (simp; done) | (simp [*]; done)), H', ⟨by have := HJ2.out; have := HJ21.out; have := HK3.out; have := HK4.out; omega⟩, ⟨by (with_reducible repeat (first | apply Kd.S_alloc | apply Kd.S_drewN | apply Kd.S_drew)); exact HO_9.out⟩, ⟨by (with_reducible repeat (first | apply Kd.S_alloc | apply Kd.S_drewN | apply Kd.S_drew)); exact HO_11.out⟩, ⟨by (with_reducible repeat (first | apply Kd.S_alloc | apply Kd.S_drewN | apply Kd.S_drew)); exact HO_19.out⟩, ⟨by (with_reducible repeat (first | apply Kd.S_alloc | apply Kd.S_drewN | apply Kd.S_drew)); exact HO_21.out⟩, ⟨by repeat (first | (with_reducible exact HR699_0.out) | (with_reducible exact Kd.C_drewN HR699_0.out _) | (with_reducible exact Kd.C_drew HR699_0.out) | (with_reducible refine Kd.C_alloc ?_ _) | (with_reducible refine Kd.C_drewN ?_ _) | (with_reducible refine Kd.C_drew ?_) | exact HR699_0.out)⟩, ⟨by repeat (first | (with_reducible first | exact HB.out | apply below_alloc | apply pw_below_drewN | apply below_drew1) | exact HB.out)⟩⟩
                                                  · rw [if_neg c72] at H
                                                    exact absurd H (by simp)
                                                · rw [if_neg c71] at H
                                                  exact absurd H (by simp)
                                            · rw [if_neg c69] at H
                                              exact absurd H (by simp)
                                          · rw [if_neg c68] at H
                                            exact absurd H (by simp)
                                      · rw [if_neg c66] at H
                                        have c66b0 : decide (x24_4 < ((rd_L1 t668 x23_3).length : Int)) = false := decide_eq_false c66
                                        clear c66
                                        have H' := Aside0.mk H
                                        clear H
                                        have p701 : 0 ≤ (x23_3 : Int) := of_decide_eq_true (by first | (with_reducible assumption) | assumption)
                                        have q701 : x23_3 < (t668.length : Int) := of_decide_eq_true (by first | (with_reducible assumption) | assumption)
                                        obtain ⟨ad701, A701_0, c701_0, e701, hx701_0, hl701_0, hi701_0⟩ := at_L1 (Kd.S_reads' HO_9.out).2.2 x23_3 p701 q701
                                        obtain rfl : ad699 = ad701 := (by injection e701)
                                        obtain ⟨ce701, hce701, hMe701, hcc701⟩ := Kd.S_get HO_9.out [] x23_3 p701 (by first | exact q701 | exact of_decide_eq_true (by first | (with_reducible assumption) | assumption) | (have e_ := (Kd.S_reads' HO_9.out).1; omega))
                                        obtain ⟨ve701_0, rfl, ge701_0⟩ := hMe701
                                        have hv701_0 := hcc701 0 _ rfl
                                        rw [Nat.add_zero, show ((Kd.slice 3 (Kd.int .i64))).sz = 1 from rfl, Nat.mul_one] at hv701_0
                                        replace hv701_0 := Option.some.inj (hv701_0.symm.trans hx701_0)
                                        rw [hv701_0] at ge701_0
                                        have HL701_0 := Aside0.mk (show Kd.R (Kd.int .i64) 3 _ _ _ _ (rd_L1 t668 x23_3) from ge701_0)
                                        clear hv701_0 ge701_0
                                        clear hcc701 hce701
                                        have HR701_0 := Aside0.mk hi701_0
                                        have HC701_0 := Aside0.mk hl701_0
                                        clear hi701_0 hl701_0
                                        replace p701 := eq_true p701
                                        replace q701 := eq_true q701
                                        go_wp2
                                        go_roundg k4
                                        case measure => have := HJ2.out; have := HJ21.out; have := HK3.out; have := HK4.out; omega
                                        case rel => exact ⟨(wrap64 (x23_3 + 1)), (by first | rfl | (simp; done) | (simp [*]; done)), H', ⟨by have := HJ2.out; have := HJ21.out; have := HK3.out; have := HK4.out; omega⟩, ⟨by (with_reducible repeat (first | apply Kd.S_alloc | apply Kd.S_drewN | apply Kd.S_drew)); exact HO_9.out⟩, ⟨by (with_reducible repeat (first | apply Kd.S_alloc | apply Kd.S_drewN | apply Kd.S_drew)); exact HO_11.out⟩, ⟨by (with_reducible repeat (first | apply Kd.S_alloc | apply Kd.S_drewN | apply Kd.S_drew)); exact HO_19.out⟩, ⟨by (with_reducible repeat (first | apply Kd.S_alloc | apply Kd.S_drewN | apply Kd.S_drew)); exact HO_21.out⟩, ⟨by repeat (first | (with_reducible first | exact HB.out | apply below_alloc | apply pw_below_drewN | apply below_drew1) | exact HB.out)⟩⟩
                                    · rw [if_neg c65] at H
                                      exact absurd H (by simp)
                                  · rw [if_neg c64] at H
                                    exact absurd H (by simp)
                            · rw [if_neg c61] at H
                              exact absurd H (by simp)
                          · rw [if_neg c60] at H
                            exact absurd H (by simp)
                        · rw [if_neg c59] at H
                          exact absurd H (by simp)
                      · rw [if_neg c58] at H
                        have c58b0 : decide (x23_3 < (t668.length : Int)) = false := decide_eq_false c58
                        clear c58
                        have H' := Aside0.mk H
                        clear H
                        obtain ⟨Ao75, co75, eo75⟩ := Kd.S_slice HO_9.out
                        subst eo75
                        go_wp2
                        go_loopg [25] k3 (fun kq v25 w' => ∃ (x25_4 : Int), v25 = .int .i64 x25_4 ∧ Aside0 (clochelaw04_BlocksTurned.l2 kq t656 t686 t690 x25_4 = some r) ∧ Aside0 (kq ≤ k3) ∧ Aside0 (Kd.S (Kd.slice 3 (Kd.int .i64)) 22 w' w.heap.size (fun k_ => some k_ ≠ (v692 : Value).ownBlock) v688 t686) ∧ Aside0 (Kd.S (Kd.slice 3 (Kd.int .i64)) 22 w' w.heap.size (fun k_ => some k_ ≠ (v688 : Value).ownBlock) v692 t690) ∧ Aside0 (Below w.heap.size w w'))
                        case atStart => exact ⟨(0), (by first | rfl | (simp; done) | (simp [*]; done)), H', ⟨Nat.le_refl _⟩, ⟨by (with_reducible repeat (first | apply Kd.S_alloc | apply Kd.S_drewN | apply Kd.S_drew)); exact Kd.S_mono HO_19.out (fun _ hk => hk.2.2)⟩, ⟨by (with_reducible repeat (first | apply Kd.S_alloc | apply Kd.S_drewN | apply Kd.S_drew)); exact Kd.S_mono HO_21.out (fun _ hk => hk.2.2)⟩, ⟨by repeat (first | (with_reducible first | exact HB.out | apply below_alloc | apply pw_below_drewN | apply below_drew1) | exact HB.out)⟩⟩
                        case round =>
                          as_aux_lemma =>
                          clear H'
                          try clear c1
                          try clear c2
                          try clear p2
                          try clear c3
                          try clear c4
                          try clear c5
                          try clear c6
                          try clear p6
                          try clear q6
                          try clear hx6
                          try clear c7
                          try clear p7
                          try clear q7
                          try clear hx7
                          try clear c9
                          try clear c12
                          try clear c12b0
                          try clear c12b1
                          try clear c14
                          try clear c15
                          try clear c16
                          try clear c17
                          try clear c25
                          try clear c26
                          try clear c27
                          try clear c30
                          try clear c32
                          try clear c32b0
                          try clear c32b1
                          try clear c33
                          try clear c33b0
                          try clear c33b1
                          try clear c34
                          try clear c34b0
                          try clear c34b1
                          try clear c35
                          try clear c35b0
                          try clear c35b1
                          try clear c36
                          try clear c36b0
                          try clear c36b1
                          try clear c37
                          try clear c37b0
                          try clear c37b1
                          try clear c38
                          try clear c38b0
                          try clear c38b1
                          try clear c40
                          try clear c43
                          try clear c44
                          try clear c44b0
                          try clear c44b1
                          try clear c45
                          try clear c45b0
                          try clear c45b1
                          try clear c46
                          try clear c46b0
                          try clear c46b1
                          try clear c47
                          try clear c47b0
                          try clear c47b1
                          try clear c47b2
                          try clear c57
                          try clear c58
                          try clear c58b0
                          try clear c59
                          try clear c59b0
                          try clear c60
                          try clear c60b0
                          try clear c61
                          try clear c61b0
                          try clear c61b1
                          try clear c64
                          try clear c64b0
                          try clear p64
                          try clear c65
                          try clear c65b0
                          try clear c66
                          try clear c66b0
                          try clear c67
                          try clear c67b0
                          try clear c68
                          try clear c68b0
                          try clear c69
                          try clear c69b0
                          try clear p69
                          try clear q69
                          try clear hx69
                          try clear c70
                          try clear c70b0
                          try clear p70
                          try clear q70
                          try clear hx70
                          try clear c71
                          try clear c71b0
                          try clear c72
                          try clear c72b0
                          try clear c72b1
                          try clear hx699_0
                          try clear hx700_0
                          try clear hx701_0
                          try clear hx702_0
                          try clear hx703_0
                          try clear hx704_0
                          try clear hx705_0
                          try clear hx706_0
                          try clear p2
                          try clear p6
                          try clear p699
                          try clear p7
                          try clear p700
                          try clear p701
                          try clear p702
                          try clear p703
                          try clear p704
                          try clear p705
                          try clear p706
                          try clear q6
                          try clear q699
                          try clear q7
                          try clear q700
                          try clear q701
                          try clear q702
                          try clear q703
                          try clear q704
                          try clear q705
                          try clear q706
                          obtain ⟨x25_4, rfl, HA, HK4, HO_19, HO_21, HB⟩ := hrel
                          cases gk with
                          | zero => exact absurd HA.out (by simp [clochelaw04_BlocksTurned.l2])
                          | succ k4 =>
                            have H := HA.out
                            clear HA
                            simp only [clochelaw04_BlocksTurned.l2] at H
                            by_cases c76 : x25_4 < t656
                            · rw [if_pos c76] at H
                              have c76b0 : decide (x25_4 < t656) = true := decide_eq_true c76
                              clear c76
                              by_cases c77 : 0 ≤ x25_4
                              · rw [if_pos c77] at H
                                have c77b0 : decide (0 ≤ x25_4) = true := decide_eq_true c77
                                clear c77
                                by_cases c78 : x25_4 < (t686.length : Int)
                                · rw [if_pos c78] at H
                                  have c78b0 : decide (x25_4 < (t686.length : Int)) = true := decide_eq_true c78
                                  clear c78
                                  replace H := Option.bind_eq_some_iff.mp H
                                  obtain ⟨t709, A790, H⟩ := H
                                  replace H : (if t709 = true then (if 0 ≤ (wrap64 ((wrap64 (t656 - 1)) - x25_4)) then (if (wrap64 ((wrap64 (t656 - 1)) - x25_4)) < (t690.length : Int) then ((clocheref04_Columns.f k4 (rd_L1 t686 x25_4)).bind fun t712 => ((clochelaw04_same.f k4 (rd_L1 t690 (wrap64 ((wrap64 (t656 - 1)) - x25_4))) t712).bind fun t715 => (if t715 = true then (clochelaw04_BlocksTurned.l2 k4 t656 t686 t690 (wrap64 (x25_4 + 1))) else (none)))) else (none)) else (none)) else (none)) = some r := H
                                  have A79 := Aside0.mk A790
                                  clear A790
                                  by_cases c80 : t709 = true
                                  · subst c80
                                    have H1 : (if 0 ≤ (wrap64 ((wrap64 (t656 - 1)) - x25_4)) then (if (wrap64 ((wrap64 (t656 - 1)) - x25_4)) < (t690.length : Int) then ((clocheref04_Columns.f k4 (rd_L1 t686 x25_4)).bind fun t712 => ((clochelaw04_same.f k4 (rd_L1 t690 (wrap64 ((wrap64 (t656 - 1)) - x25_4))) t712).bind fun t715 => (if t715 = true then (clochelaw04_BlocksTurned.l2 k4 t656 t686 t690 (wrap64 (x25_4 + 1))) else (none)))) else (none)) else (none)) = some r := by rw [if_pos rfl] at H; exact H
                                    clear H
                                    have H := H1
                                    clear H1
                                    obtain ⟨ji81, hji81⟩ : ∃ j_ : Int, (wrap64 ((wrap64 (t656 - 1)) - x25_4)) = j_ := ⟨_, rfl⟩
                                    replace H : (if 0 ≤ (ji81) then (if (ji81) < (t690.length : Int) then ((clocheref04_Columns.f k4 (rd_L1 t686 x25_4)).bind fun t712 => ((clochelaw04_same.f k4 (rd_L1 t690 (ji81)) t712).bind fun t715 => (if t715 = true then (clochelaw04_BlocksTurned.l2 k4 t656 t686 t690 (wrap64 (x25_4 + 1))) else (none)))) else (none)) else (none)) = some r := by first | (rw [hji81] at H; exact H) | (simp only [hji81] at H ⊢; exact H)
                                    (try rw [hji81] at A79)
                                    have hji81w : (IntKind.i64.wrap ((wrap64 (t656 - 1)) - x25_4)) = ji81 := (i64_w _).trans hji81
                                    by_cases c82 : 0 ≤ (ji81)
                                    · rw [if_pos c82] at H
                                      have c82b0 : decide (0 ≤ (ji81)) = true := decide_eq_true c82
                                      clear c82
                                      by_cases c83 : (ji81) < (t690.length : Int)
                                      · rw [if_pos c83] at H
                                        have c83b0 : decide ((ji81) < (t690.length : Int)) = true := decide_eq_true c83
                                        clear c83
                                        replace H := Option.bind_eq_some_iff.mp H
                                        obtain ⟨t712, A840, H⟩ := H
                                        replace H : ((clochelaw04_same.f k4 (rd_L1 t690 (ji81)) t712).bind fun t715 => (if t715 = true then (clochelaw04_BlocksTurned.l2 k4 t656 t686 t690 (wrap64 (x25_4 + 1))) else (none))) = some r := H
                                        have A84 := Aside0.mk A840
                                        clear A840
                                        replace H := Option.bind_eq_some_iff.mp H
                                        obtain ⟨t715, A850, H⟩ := H
                                        replace H : (if t715 = true then (clochelaw04_BlocksTurned.l2 k4 t656 t686 t690 (wrap64 (x25_4 + 1))) else (none)) = some r := H
                                        have A85 := Aside0.mk A850
                                        clear A850
                                        by_cases c86 : t715 = true
                                        · subst c86
                                          have H1 : (clochelaw04_BlocksTurned.l2 k4 t656 t686 t690 (wrap64 (x25_4 + 1))) = some r := by rw [if_pos rfl] at H; exact H
                                          clear H
                                          have H := H1
                                          clear H1
                                          have H' := Aside0.mk H
                                          clear H
                                          try go_wp2
                                          have n0_ := Aside0.mk (Kd.S_drew HO_19.out)
                                          have n1_ := Aside0.mk (Kd.S_drew HO_21.out)
                                          have n2_ := Aside0.mk (below_drew1 HB.out)
                                          clear HO_19
                                          clear HO_21
                                          clear HB
                                          have HO_19 := n0_
                                          have HO_21 := n1_
                                          have HB := n2_
                                          clear n0_ n1_ n2_
                                          obtain ⟨Ao90_, co90_, eo90_⟩ := Kd.S_slice HO_21.out
                                          subst eo90_
                                          obtain ⟨Ao88, co88, eo88⟩ := Kd.S_slice HO_19.out
                                          (first | subst eo88 | (injection eo88 with f1_ f2_ f3_; have f4_ := f1_.symm; have f5_ := f3_.symm; clear f1_ f2_ f3_; subst f4_; subst f5_))
                                          have p708 : 0 ≤ (x25_4 : Int) := of_decide_eq_true (by first | (with_reducible assumption) | assumption)
                                          have q708 : x25_4 < (t686.length : Int) := of_decide_eq_true (by first | (with_reducible assumption) | assumption)
                                          obtain ⟨ad708, A708_0, c708_0, e708, hx708_0, hl708_0, hi708_0⟩ := at_L1 (Kd.S_reads' HO_19.out).2.2 x25_4 p708 q708
                                          cases e708
                                          obtain ⟨ce708, hce708, hMe708, hcc708⟩ := Kd.S_get HO_19.out [] x25_4 p708 (by first | exact q708 | exact of_decide_eq_true (by first | (with_reducible assumption) | assumption) | (have e_ := (Kd.S_reads' HO_19.out).1; omega))
                                          obtain ⟨ve708_0, rfl, ge708_0⟩ := hMe708
                                          have hv708_0 := hcc708 0 _ rfl
                                          rw [Nat.add_zero, show ((Kd.slice 3 (Kd.int .i64))).sz = 1 from rfl, Nat.mul_one] at hv708_0
                                          replace hv708_0 := Option.some.inj (hv708_0.symm.trans hx708_0)
                                          rw [hv708_0] at ge708_0
                                          have HL708_0 := Aside0.mk (show Kd.R (Kd.int .i64) 3 _ _ _ _ (rd_L1 t686 x25_4) from ge708_0)
                                          clear hv708_0 ge708_0
                                          clear hcc708 hce708
                                          have HR708_0 := Aside0.mk hi708_0
                                          have HC708_0 := Aside0.mk hl708_0
                                          clear hi708_0 hl708_0
                                          replace p708 := eq_true p708
                                          replace q708 := eq_true q708
                                          have p710 : 0 ≤ ((ji81) : Int) := of_decide_eq_true (by first | (with_reducible assumption) | assumption)
                                          have q710 : (ji81) < (t690.length : Int) := of_decide_eq_true (by first | (with_reducible assumption) | assumption)
                                          obtain ⟨ad710, A710_0, c710_0, e710, hx710_0, hl710_0, hi710_0⟩ := at_L1 (Kd.S_reads' HO_21.out).2.2 (ji81) p710 q710
                                          cases e710
                                          obtain ⟨ce710, hce710, hMe710, hcc710⟩ := Kd.S_get HO_21.out [] (ji81) p710 (by first | exact q710 | exact of_decide_eq_true (by first | (with_reducible assumption) | assumption) | (have e_ := (Kd.S_reads' HO_21.out).1; omega))
                                          obtain ⟨ve710_0, rfl, ge710_0⟩ := hMe710
                                          have hv710_0 := hcc710 0 _ rfl
                                          rw [Nat.add_zero, show ((Kd.slice 3 (Kd.int .i64))).sz = 1 from rfl, Nat.mul_one] at hv710_0
                                          replace hv710_0 := Option.some.inj (hv710_0.symm.trans hx710_0)
                                          rw [hv710_0] at ge710_0
                                          have HL710_0 := Aside0.mk (show Kd.R (Kd.int .i64) 3 _ _ _ _ (rd_L1 t690 (ji81)) from ge710_0)
                                          clear hv710_0 ge710_0
                                          clear hcc710 hce710
                                          have HR710_0 := Aside0.mk hi710_0
                                          have HC710_0 := Aside0.mk hl710_0
                                          clear hi710_0 hl710_0
                                          replace p710 := eq_true p710
                                          replace q710 := eq_true q710
                                          have p711 : 0 ≤ (x25_4 : Int) := of_decide_eq_true (by first | (with_reducible assumption) | assumption)
                                          have q711 : x25_4 < (t686.length : Int) := of_decide_eq_true (by first | (with_reducible assumption) | assumption)
                                          obtain ⟨ad711, A711_0, c711_0, e711, hx711_0, hl711_0, hi711_0⟩ := at_L1 (Kd.S_reads' HO_19.out).2.2 x25_4 p711 q711
                                          obtain rfl : ad708 = ad711 := (by injection e711)
                                          obtain ⟨ce711, hce711, hMe711, hcc711⟩ := Kd.S_get HO_19.out [] x25_4 p711 (by first | exact q711 | exact of_decide_eq_true (by first | (with_reducible assumption) | assumption) | (have e_ := (Kd.S_reads' HO_19.out).1; omega))
                                          obtain ⟨ve711_0, rfl, ge711_0⟩ := hMe711
                                          have hv711_0 := hcc711 0 _ rfl
                                          rw [Nat.add_zero, show ((Kd.slice 3 (Kd.int .i64))).sz = 1 from rfl, Nat.mul_one] at hv711_0
                                          replace hv711_0 := Option.some.inj (hv711_0.symm.trans hx711_0)
                                          rw [hv711_0] at ge711_0
                                          have HL711_0 := Aside0.mk (show Kd.R (Kd.int .i64) 3 _ _ _ _ (rd_L1 t686 x25_4) from ge711_0)
                                          clear hv711_0 ge711_0
                                          clear hcc711 hce711
                                          have HR711_0 := Aside0.mk hi711_0
                                          have HC711_0 := Aside0.mk hl711_0
                                          clear hi711_0 hl711_0
                                          replace p711 := eq_true p711
                                          replace q711 := eq_true q711
                                          have ea_ := Option.some.inj (hx708_0.symm.trans hx711_0)
                                          injection ea_ with ea_ en_ ec_
                                          subst ea_
                                          subst ec_
                                          clear en_
                                          refine start_ (n := 22) (S := fun w' => w'.cell? (ad708.add (x25_4).toNat) = some (.slice A708_0 (rd_L1 t686 x25_4).length c708_0) ∧ w'.cell? (ad710.add ((ji81)).toNat) = some (.slice A710_0 (rd_L1 t690 (ji81)).length c710_0) ∧ w'.cell? (ad708.add (x25_4).toNat) = some (.slice A708_0 (rd_L1 t686 x25_4).length c708_0)) (ds := []) #[false, false, false, false, false, false, false, false, false, false, false, false, false, false, false, false, false, false, false, false, false, false] (by kernel_rfl) rfl rfl ⟨hx708_0, hx710_0, hx711_0⟩ (fun hHeld => ?_); refine with_tabW clochelaw04_BlocksTurned.tab31 clochelaw04_BlocksTurned.bits31 (fun HT_ HW_ => ?_)
                                          generalize wr.drew = w87 at HO_19 HO_21 HB HL708_0 HL710_0 HL711_0 HR708_0 HR710_0 HR711_0 hx708_0 hx710_0 hx711_0 hHeld ⊢
                                          refine pure_ (i := 0) (N := some 234) (v := ?_) (a' := ?_) #[true, false, false, false, false, false, false, false, false, false, false, false, false, false, false, false, false, false, false, false, false, false] rfl rfl (any_of HT_.out (by kernel_rfl)) (fun _ _ _ h => h) (Or.inl ⟨by rfl, ?_⟩) ?_ ?_
                                          rotate_left
                                          · intro w'
                                            go_simp
                                            with_reducible rfl
                                          rotate_left
                                          · simp only [Act.put, List.setIfInBounds_toArray, List.set_cons_zero, List.set_cons_succ, i64_w, i32_w]
                                            rfl
                                          refine pure_ (i := 1) (N := some 235) (v := ?_) (a' := ?_) #[true, true, false, false, false, false, false, false, false, false, false, false, false, false, false, false, false, false, false, false, false, false] rfl rfl (any_of HT_.out (by kernel_rfl)) (fun _ _ _ h => h) (Or.inl ⟨by rfl, ?_⟩) ?_ ?_
                                          rotate_left
                                          · intro w'
                                            go_simp
                                            with_reducible rfl
                                          rotate_left
                                          · simp only [Act.put, List.setIfInBounds_toArray, List.set_cons_zero, List.set_cons_succ, i64_w, i32_w]
                                            rfl
                                          refine pure_ (i := 2) (N := some 236) (v := ?_) (a' := ?_) #[true, true, true, false, false, false, false, false, false, false, false, false, false, false, false, false, false, false, false, false, false, false] rfl rfl (any_of HT_.out (by kernel_rfl)) (fun _ _ _ h => h) (Or.inl ⟨by rfl, ?_⟩) ?_ ?_
                                          rotate_left
                                          · intro w'
                                            go_simp
                                            with_reducible rfl
                                          rotate_left
                                          · simp only [Act.put, List.setIfInBounds_toArray, List.set_cons_zero, List.set_cons_succ, i64_w, i32_w]
                                            rfl
                                          refine take_ (i := 3) (N := some 237) (v := ?_) (a' := ?_) #[true, true, true, true, false, false, false, false, false, false, false, false, false, false, false, false, false, false, false, false, false, false] rfl rfl (take_ofW HT_.out HW_.out (by kernel_rfl)) (fun _ _ _ h => h) (Or.inl ⟨by rfl, ?_⟩) hHeld ?_ ?_
                                          rotate_left
                                          · rintro w' ⟨s0, s1, s2⟩
                                            go_simp
                                            with_reducible rfl
                                          rotate_left
                                          · simp only [Act.put, List.setIfInBounds_toArray, List.set_cons_zero, List.set_cons_succ, i64_w, i32_w]
                                            rfl
                                          refine one_ (i := 4) (N := some 238) #[true, true, true, true, true, false, false, false, false, false, false, false, false, false, false, false, false, false, false, false, false, false] rfl rfl (one_of HT_.out (by kernel_rfl)) (by decide) (fun K hK => ?_)
                                          refine goes_ Try.func25 (by kernel_rfl) rfl #[.slice A708_0 (rd_L1 t686 x25_4).length c708_0] (by rfl) rfl rfl (by (try simp only [List.map_toArray, List.map_cons, List.map_nil]); first | done | rfl | (simp only [List.length_drop, List.length_take]; rfl)) ?_
                                          with_reducible refine (clocheref04_IsShape.calls k4 _ _ (rd_L1 t686 x25_4) true _ ?side1 ?side2 A79.out).mono ?_
                                          (case side1 => repeat (first | exact (by repeat (first | (with_reducible exact HR708_0.out) | (with_reducible exact Kd.C_drewN HR708_0.out _) | (with_reducible exact Kd.C_drew HR708_0.out) | (with_reducible refine Kd.C_alloc ?_ _) | (with_reducible refine Kd.C_drewN ?_ _) | (with_reducible refine Kd.C_drew ?_) | exact HR708_0.out)) | (with_reducible refine Kd.C_alloc ?_ _) | (with_reducible refine Kd.C_drewN ?_ _) | (with_reducible refine Kd.C_drew ?_)))
                                          (case side2 => exact HC708_0.out)
                                          rintro e w' ⟨rfl, ⟨nd, rfl⟩⟩
                                          refine ⟨_, rfl, ?_⟩
                                          obtain ⟨Ao89, co89, eo89⟩ := Kd.S_slice HO_21.out
                                          (first | subst eo89 | (injection eo89 with f1_ f2_ f3_; have f4_ := f1_.symm; have f5_ := f3_.symm; clear f1_ f2_ f3_; subst f4_; subst f5_))
                                          refine hK.out _ _ ⟨hHeld.1, hHeld.2.1, hHeld.2.2⟩ (fun hHeld => ?_)
                                          clear hK K
                                          refine norm_ (a' := ?_) ?_ ?_
                                          rotate_left
                                          · show Act.put _ (some 238) _ = _
                                            simp only [Act.put, List.setIfInBounds_toArray, List.set_cons_zero, List.set_cons_succ, i64_w, i32_w]
                                            rfl
                                          refine pure_ (i := 5) (N := some 239) (v := ?_) (a' := ?_) #[true, true, true, true, true, true, false, false, false, false, false, false, false, false, false, false, false, false, false, false, false, false] rfl rfl (any_of HT_.out (by kernel_rfl)) (fun _ _ _ h => h) (Or.inl ⟨by rfl, ?_⟩) ?_ ?_
                                          rotate_left
                                          · intro w'
                                            go_simp
                                            with_reducible rfl
                                          rotate_left
                                          · simp only [Act.put, List.setIfInBounds_toArray, List.set_cons_zero, List.set_cons_succ, i64_w, i32_w]
                                            rfl
                                          refine pure_ (i := 6) (N := some 240) (v := ?_) (a' := ?_) #[true, true, true, true, true, true, true, false, false, false, false, false, false, false, false, false, false, false, false, false, false, false] rfl rfl (any_of HT_.out (by kernel_rfl)) (fun _ _ _ h => h) (Or.inl ⟨by rfl, ?_⟩) ?_ ?_
                                          rotate_left
                                          · intro w'
                                            go_simp
                                            with_reducible rfl
                                          rotate_left
                                          · simp only [Act.put, List.setIfInBounds_toArray, List.set_cons_zero, List.set_cons_succ, i64_w, i32_w]
                                            rfl
                                          refine pure_ (i := 7) (N := some 241) (v := ?_) (a' := ?_) #[true, true, true, true, true, true, true, true, false, false, false, false, false, false, false, false, false, false, false, false, false, false] rfl rfl (any_of HT_.out (by kernel_rfl)) (fun _ _ _ h => h) (Or.inl ⟨by rfl, ?_⟩) ?_ ?_
                                          rotate_left
                                          · intro w'
                                            go_simp
                                            with_reducible rfl
                                          rotate_left
                                          · simp only [Act.put, List.setIfInBounds_toArray, List.set_cons_zero, List.set_cons_succ, i64_w, i32_w]
                                            rfl
                                          refine pure_ (i := 8) (N := some 242) (v := ?_) (a' := ?_) #[true, true, true, true, true, true, true, true, true, false, false, false, false, false, false, false, false, false, false, false, false, false] rfl rfl (any_of HT_.out (by kernel_rfl)) (fun _ _ _ h => h) (Or.inl ⟨by rfl, ?_⟩) ?_ ?_
                                          rotate_left
                                          · intro w'
                                            go_simp
                                            with_reducible rfl
                                          rotate_left
                                          · simp only [Act.put, List.setIfInBounds_toArray, List.set_cons_zero, List.set_cons_succ, i64_w, i32_w]
                                            rfl
                                          refine pure_ (i := 9) (N := some 243) (v := ?_) (a' := ?_) #[true, true, true, true, true, true, true, true, true, true, false, false, false, false, false, false, false, false, false, false, false, false] rfl rfl (any_of HT_.out (by kernel_rfl)) (fun _ _ _ h => h) (Or.inl ⟨by rfl, ?_⟩) ?_ ?_
                                          rotate_left
                                          · intro w'
                                            go_simp
                                            with_reducible rfl
                                          rotate_left
                                          · simp only [Act.put, List.setIfInBounds_toArray, List.set_cons_zero, List.set_cons_succ, i64_w, i32_w]
                                            rfl
                                          refine pure_ (i := 10) (N := some 244) (v := ?_) (a' := ?_) #[true, true, true, true, true, true, true, true, true, true, true, false, false, false, false, false, false, false, false, false, false, false] rfl rfl (any_of HT_.out (by kernel_rfl)) (fun _ _ _ h => h) (Or.inl ⟨by rfl, ?_⟩) ?_ ?_
                                          rotate_left
                                          · intro w'
                                            go_simp
                                            with_reducible rfl
                                          rotate_left
                                          · simp only [Act.put, List.setIfInBounds_toArray, List.set_cons_zero, List.set_cons_succ, i64_w, i32_w]
                                            rfl
                                          refine pure_ (i := 11) (N := some 245) (v := ?_) (a' := ?_) #[true, true, true, true, true, true, true, true, true, true, true, true, false, false, false, false, false, false, false, false, false, false] rfl rfl (any_of HT_.out (by kernel_rfl)) (fun _ _ _ h => h) (Or.inl ⟨by rfl, ?_⟩) ?_ ?_
                                          rotate_left
                                          · intro w'
                                            go_simp
                                            with_reducible rfl
                                          rotate_left
                                          · simp only [Act.put, List.setIfInBounds_toArray, List.set_cons_zero, List.set_cons_succ, i64_w, i32_w]
                                            rfl
                                          refine pure_ (i := 12) (N := some 246) (v := ?_) (a' := ?_) #[true, true, true, true, true, true, true, true, true, true, true, true, true, false, false, false, false, false, false, false, false, false] rfl rfl (any_of HT_.out (by kernel_rfl)) (fun _ _ _ h => h) (Or.inl ⟨by rfl, ?_⟩) ?_ ?_
                                          rotate_left
                                          · intro w'
                                            go_simp
                                            with_reducible rfl
                                          rotate_left
                                          · simp only [Act.put, List.setIfInBounds_toArray, List.set_cons_zero, List.set_cons_succ, i64_w, i32_w]
                                            rfl
                                          refine pure_ (i := 14) (N := some 248) (v := ?_) (a' := ?_) #[true, true, true, true, true, true, true, true, true, true, true, true, true, false, true, false, false, false, false, false, false, false] rfl rfl (any_of HT_.out (by kernel_rfl)) (fun _ _ _ h => h) (Or.inl ⟨by rfl, ?_⟩) ?_ ?_
                                          rotate_left
                                          · intro w'
                                            go_simp
                                            with_reducible rfl
                                          rotate_left
                                          · simp only [Act.put, List.setIfInBounds_toArray, List.set_cons_zero, List.set_cons_succ, i64_w, i32_w]
                                            rfl
                                          refine pure_ (i := 15) (N := some 249) (v := ?_) (a' := ?_) #[true, true, true, true, true, true, true, true, true, true, true, true, true, false, true, true, false, false, false, false, false, false] rfl rfl (any_of HT_.out (by kernel_rfl)) (fun _ _ _ h => h) (Or.inl ⟨by rfl, ?_⟩) ?_ ?_
                                          rotate_left
                                          · intro w'
                                            go_simp
                                            with_reducible rfl
                                          rotate_left
                                          · simp only [Act.put, List.setIfInBounds_toArray, List.set_cons_zero, List.set_cons_succ, i64_w, i32_w]
                                            rfl
                                          refine pure_ (i := 16) (N := some 250) (v := ?_) (a' := ?_) #[true, true, true, true, true, true, true, true, true, true, true, true, true, false, true, true, true, false, false, false, false, false] rfl rfl (any_of HT_.out (by kernel_rfl)) (fun _ _ _ h => h) (Or.inl ⟨by rfl, ?_⟩) ?_ ?_
                                          rotate_left
                                          · intro w'
                                            go_simp
                                            with_reducible rfl
                                          rotate_left
                                          · simp only [Act.put, List.setIfInBounds_toArray, List.set_cons_zero, List.set_cons_succ, i64_w, i32_w]
                                            rfl
                                          refine take_ (i := 13) (N := some 247) (v := ?_) (a' := ?_) #[true, true, true, true, true, true, true, true, true, true, true, true, true, true, true, true, true, false, false, false, false, false] rfl rfl (take_ofW HT_.out HW_.out (by kernel_rfl)) (fun _ _ _ h => h) (Or.inl ⟨by rfl, ?_⟩) hHeld ?_ ?_
                                          rotate_left
                                          · rintro w' ⟨s0, s1, s2⟩
                                            go_simp
                                            with_reducible rfl
                                          rotate_left
                                          · simp only [Act.put, List.setIfInBounds_toArray, List.set_cons_zero, List.set_cons_succ, i64_w, i32_w]
                                            rfl
                                          refine take_ (i := 17) (N := some 251) (v := ?_) (a' := ?_) #[true, true, true, true, true, true, true, true, true, true, true, true, true, true, true, true, true, true, false, false, false, false] rfl rfl (take_ofW HT_.out HW_.out (by kernel_rfl)) (fun _ _ _ h => h) (Or.inl ⟨by rfl, ?_⟩) hHeld ?_ ?_
                                          rotate_left
                                          · rintro w' ⟨s0, s1, s2⟩
                                            go_simp
                                            with_reducible rfl
                                          rotate_left
                                          · simp only [Act.put, List.setIfInBounds_toArray, List.set_cons_zero, List.set_cons_succ, i64_w, i32_w]
                                            rfl
                                          refine one_ (i := 18) (N := some 252) #[true, true, true, true, true, true, true, true, true, true, true, true, true, true, true, true, true, true, true, false, false, false] rfl rfl (one_of HT_.out (by kernel_rfl)) (by decide) (fun K hK => ?_)
                                          refine goes_ Try.func37 (by kernel_rfl) rfl #[.slice A708_0 (rd_L1 t686 x25_4).length c708_0] (by rfl) rfl rfl (by (try simp only [List.map_toArray, List.map_cons, List.map_nil]); first | done | rfl | (simp only [List.length_drop, List.length_take]; rfl)) ?_
                                          with_reducible refine (clocheref04_Columns.calls k4 _ _ (rd_L1 t686 x25_4) t712 _ ?side1 ?side2 A84.out).mono ?_
                                          (case side1 => repeat (first | exact (by repeat (first | (with_reducible exact HR711_0.out) | (with_reducible exact Kd.C_drewN HR711_0.out _) | (with_reducible exact Kd.C_drew HR711_0.out) | (with_reducible refine Kd.C_alloc ?_ _) | (with_reducible refine Kd.C_drewN ?_ _) | (with_reducible refine Kd.C_drew ?_) | exact HR711_0.out)) | (with_reducible refine Kd.C_alloc ?_ _) | (with_reducible refine Kd.C_drewN ?_ _) | (with_reducible refine Kd.C_drew ?_)))
                                          (case side2 => exact HC711_0.out)
                                          rintro e w90 ⟨v713, rfl, ho0, hb⟩
                                          have HS0_ := (hb.cell (World.block_lt_of_cell? _ _ (hHeld.1))).trans (hHeld.1)
                                          have HS1_ := (hb.cell (World.block_lt_of_cell? _ _ (hHeld.2.1))).trans (hHeld.2.1)
                                          have HS2_ := (hb.cell (World.block_lt_of_cell? _ _ (hHeld.2.2))).trans (hHeld.2.2)
                                          refine ⟨_, rfl, ?_⟩
                                          have n0_ := Aside0.mk (Kd.S_elder' (by (with_reducible repeat (first | apply Kd.S_alloc | apply Kd.S_drewN | apply Kd.S_drew)); exact HO_19.out) (Kd.R_base ho0) hb)
                                          have n1_ := Aside0.mk (Kd.S_elder' (by (with_reducible repeat (first | apply Kd.S_alloc | apply Kd.S_drewN | apply Kd.S_drew)); exact HO_21.out) (Kd.R_base ho0) hb)
                                          have n2_ := Aside0.mk (Kd.R_elder' (by (with_reducible repeat (first | apply Kd.R_alloc | apply Kd.R_drewN | apply Kd.R_drew)); exact HL708_0.out) (Kd.R_base ho0) hb)
                                          have n3_ := Aside0.mk (Kd.R_elder' (by (with_reducible repeat (first | apply Kd.R_alloc | apply Kd.R_drewN | apply Kd.R_drew)); exact HL710_0.out) (Kd.R_base ho0) hb)
                                          have n4_ := Aside0.mk (Kd.R_elder' (by (with_reducible repeat (first | apply Kd.R_alloc | apply Kd.R_drewN | apply Kd.R_drew)); exact HL711_0.out) (Kd.R_base ho0) hb)
                                          have n5_ := Aside0.mk (Kd.R_lower (Kd.R_new' (Kd.R_new' (Kd.R_new' ho0 (Kd.R_lt (by (with_reducible repeat (first | apply Kd.R_alloc | apply Kd.R_drewN | apply Kd.R_drew)); exact HL708_0.out))) (Kd.R_lt (by (with_reducible repeat (first | apply Kd.R_alloc | apply Kd.R_drewN | apply Kd.R_drew)); exact HL710_0.out))) (Kd.R_lt (by (with_reducible repeat (first | apply Kd.R_alloc | apply Kd.R_drewN | apply Kd.R_drew)); exact HL711_0.out))) (below_size (by repeat (first | (with_reducible first | exact HB.out | apply below_alloc | apply pw_below_drewN | apply below_drew1) | exact HB.out))))
                                          have n6_ := Aside0.mk (Kd.C_below (by repeat (first | (with_reducible exact HR708_0.out) | (with_reducible exact Kd.C_drewN HR708_0.out _) | (with_reducible exact Kd.C_drew HR708_0.out) | (with_reducible refine Kd.C_alloc ?_ _) | (with_reducible refine Kd.C_drewN ?_ _) | (with_reducible refine Kd.C_drew ?_) | exact HR708_0.out)) hb)
                                          have n7_ := Aside0.mk (Kd.C_below (by repeat (first | (with_reducible exact HR710_0.out) | (with_reducible exact Kd.C_drewN HR710_0.out _) | (with_reducible exact Kd.C_drew HR710_0.out) | (with_reducible refine Kd.C_alloc ?_ _) | (with_reducible refine Kd.C_drewN ?_ _) | (with_reducible refine Kd.C_drew ?_) | exact HR710_0.out)) hb)
                                          have n8_ := Aside0.mk (Kd.C_below (by repeat (first | (with_reducible exact HR711_0.out) | (with_reducible exact Kd.C_drewN HR711_0.out _) | (with_reducible exact Kd.C_drew HR711_0.out) | (with_reducible refine Kd.C_alloc ?_ _) | (with_reducible refine Kd.C_drewN ?_ _) | (with_reducible refine Kd.C_drew ?_) | exact HR711_0.out)) hb)
                                          have n9_ := Aside0.mk (below_step (by repeat (first | (with_reducible first | exact HB.out | apply below_alloc | apply pw_below_drewN | apply below_drew1) | exact HB.out)) hb)
                                          clear HO_19
                                          clear HO_21
                                          clear HL708_0
                                          clear HL710_0
                                          clear HL711_0
                                          clear HR708_0
                                          clear HR710_0
                                          clear HR711_0
                                          clear HB
                                          have HO_19 := n0_
                                          have HO_21 := n1_
                                          have HL708_0 := n2_
                                          have HL710_0 := n3_
                                          have HL711_0 := n4_
                                          have HO714 := n5_
                                          have HR708_0 := n6_
                                          have HR710_0 := n7_
                                          have HR711_0 := n8_
                                          have HB := n9_
                                          clear n0_ n1_ n2_ n3_ n4_ n5_ n6_ n7_ n8_ n9_
                                          (try clear hb)
                                          (try clear hb2)
                                          (try clear hk)
                                          (try clear hi)
                                          (try clear ho0)
                                          obtain ⟨Ao91, co91, eo91⟩ := Kd.R_slice HO714.out
                                          (first | subst eo91 | (injection eo91 with f1_ f2_ f3_; have f4_ := f1_.symm; have f5_ := f3_.symm; clear f1_ f2_ f3_; subst f4_; subst f5_))
                                          refine hK.out _ _ ⟨HS0_, HS1_, HS2_⟩ (fun hHeld => ?_)
                                          clear hK K
                                          refine norm_ (a' := ?_) ?_ ?_
                                          rotate_left
                                          · show Act.put _ (some 252) _ = _
                                            simp only [Act.put, List.setIfInBounds_toArray, List.set_cons_zero, List.set_cons_succ, i64_w, i32_w]
                                            rfl
                                          refine one_ (i := 19) (N := some 253) #[true, true, true, true, true, true, true, true, true, true, true, true, true, true, true, true, true, true, true, true, false, false] rfl rfl (one_of HT_.out (by kernel_rfl)) (by decide) (fun K hK => ?_)
                                          refine goes_ Try.func22 (by kernel_rfl) rfl #[.slice A710_0 (rd_L1 t690 (ji81)).length c710_0, .slice Ao91 t712.length co91] (by rfl) rfl rfl (by (try simp only [List.map_toArray, List.map_cons, List.map_nil]); first | done | (simp only [hji81]; rfl) | rfl | (simp only [List.length_drop, List.length_take]; rfl)) ?_
                                          with_reducible refine (clochelaw04_same.calls k4 _ _ (rd_L1 t690 (ji81)) _ _ t712 true _ ?side1 ?side2 ?side3 ?side4 A85.out).mono ?_
                                          (case side1 => repeat (first | exact (by repeat (first | (with_reducible exact HR710_0.out) | (with_reducible exact Kd.C_drewN HR710_0.out _) | (with_reducible exact Kd.C_drew HR710_0.out) | (with_reducible refine Kd.C_alloc ?_ _) | (with_reducible refine Kd.C_drewN ?_ _) | (with_reducible refine Kd.C_drew ?_) | exact HR710_0.out)) | (with_reducible refine Kd.C_alloc ?_ _) | (with_reducible refine Kd.C_drewN ?_ _) | (with_reducible refine Kd.C_drew ?_)))
                                          (case side2 => exact HC710_0.out)
                                          (case side3 => repeat (first | exact (Kd.R_reads' HO714.out).2.2 | (with_reducible refine Kd.C_alloc ?_ _) | (with_reducible refine Kd.C_drewN ?_ _) | (with_reducible refine Kd.C_drew ?_)))
                                          (case side4 => exact (Kd.R_reads' HO714.out).2.1)
                                          rintro e w' ⟨rfl, ⟨nd, rfl⟩⟩
                                          refine ⟨_, rfl, ?_⟩
                                          refine hK.out _ _ ⟨hHeld.1, hHeld.2.1, hHeld.2.2⟩ (fun hHeld => ?_)
                                          clear hK K
                                          refine norm_ (a' := ?_) ?_ ?_
                                          rotate_left
                                          · show Act.put _ (some 253) _ = _
                                            simp only [Act.put, List.setIfInBounds_toArray, List.set_cons_zero, List.set_cons_succ, i64_w, i32_w]
                                            rfl
                                          refine pure_ (i := 20) (N := some 254) (v := ?_) (a' := ?_) #[true, true, true, true, true, true, true, true, true, true, true, true, true, true, true, true, true, true, true, true, true, false] rfl rfl (any_of HT_.out (by kernel_rfl)) (fun _ _ _ h => h) (Or.inl ⟨by rfl, ?_⟩) ?_ ?_
                                          rotate_left
                                          · intro w'
                                            go_simp
                                            with_reducible rfl
                                          rotate_left
                                          · simp only [Act.put, List.setIfInBounds_toArray, List.set_cons_zero, List.set_cons_succ, i64_w, i32_w]
                                            rfl
                                          refine pure_ (i := 21) (N := some 255) (v := ?_) (a' := ?_) #[true, true, true, true, true, true, true, true, true, true, true, true, true, true, true, true, true, true, true, true, true, true] rfl rfl (any_of HT_.out (by kernel_rfl)) (fun _ _ _ h => h) (Or.inl ⟨by rfl, ?_⟩) ?_ ?_
                                          rotate_left
                                          · intro w'
                                            go_simp
                                            with_reducible rfl
                                          rotate_left
                                          · simp only [Act.put, List.setIfInBounds_toArray, List.set_cons_zero, List.set_cons_succ, i64_w, i32_w]
                                            rfl
                                          refine done_ (done_of HT_.out (by kernel_rfl)) ?_
                                          try go_wp2
                                          go_roundg k4
                                          case measure => have := HJ2.out; have := HJ21.out; have := HK3.out; have := HK4.out; omega
                                          case rel => exact ⟨(wrap64 (x25_4 + 1)), (by first | rfl | (simp; done) | (simp [*]; done)), H', ⟨by have := HJ2.out; have := HJ21.out; have := HK3.out; have := HK4.out; omega⟩, ⟨by (with_reducible repeat (first | apply Kd.S_alloc | apply Kd.S_drewN | apply Kd.S_drew)); exact Kd.S_mono HO_19.out (fun _ hk => hk.1)⟩, ⟨by (with_reducible repeat (first | apply Kd.S_alloc | apply Kd.S_drewN | apply Kd.S_drew)); exact Kd.S_mono HO_21.out (fun _ hk => hk.1)⟩, ⟨by repeat (first | (with_reducible first | exact HB.out | apply below_alloc | apply pw_below_drewN | apply below_drew1) | exact HB.out)⟩⟩
                                        · replace c86 := Bool.eq_false_iff.mpr c86
                                          subst c86
                                          have H1 : (none) = some r := by rw [if_neg (show ¬ (false = true) by decide)] at H; exact H
                                          clear H
                                          have H := H1
                                          clear H1
                                          exact absurd H (by simp)
                                      · rw [if_neg c83] at H
                                        exact absurd H (by simp)
                                    · rw [if_neg c82] at H
                                      exact absurd H (by simp)
                                  · replace c80 := Bool.eq_false_iff.mpr c80
                                    subst c80
                                    have H1 : (none) = some r := by rw [if_neg (show ¬ (false = true) by decide)] at H; exact H
                                    clear H
                                    have H := H1
                                    clear H1
                                    exact absurd H (by simp)
                                · rw [if_neg c78] at H
                                  exact absurd H (by simp)
                              · rw [if_neg c77] at H
                                exact absurd H (by simp)
                            · rw [if_neg c76] at H
                              have c76b0 : decide (x25_4 < t656) = false := decide_eq_false c76
                              clear c76
                              replace H := Option.bind_eq_some_iff.mp H
                              obtain ⟨t707, A920, H⟩ := H
                              replace H : (some t707) = some r := H
                              have A92 := Aside0.mk A920
                              clear A920
                              obtain rfl := Option.some.inj H
                              go_wp2_with (first | ((with_reducible refine gate_callee (f := 16) rfl ?_); refine goesL_ (some 256) rfl rfl Try.func16 (by kernel_rfl) rfl #[] rfl (by (try simp only [List.map_toArray, List.map_cons, List.map_nil]); first | done | rfl | (simp only [List.length_drop, List.length_take]; rfl)) ?_; (with_reducible refine (clochelaw04_alive.calls k4  t707 _ A92.out).mono ?_); rintro e w93 ⟨rfl, hb⟩; refine ⟨_, rfl, ?_⟩; have n0_ := Aside0.mk (Kd.S_below (by (with_reducible repeat (first | apply Kd.S_alloc | apply Kd.S_drewN | apply Kd.S_drew)); exact HO_19.out) hb); have n1_ := Aside0.mk (Kd.S_below (by (with_reducible repeat (first | apply Kd.S_alloc | apply Kd.S_drewN | apply Kd.S_drew)); exact HO_21.out) hb); have n2_ := Aside0.mk (below_step (by repeat (first | (with_reducible first | exact HB.out | apply below_alloc | apply pw_below_drewN | apply below_drew1) | exact HB.out)) hb); clear HO_19; clear HO_21; clear HB; have HO_19 := n0_; have HO_21 := n1_; have HB := n2_; clear n0_ n1_ n2_; (try clear hb); (try clear hb2); (try clear hk); (try clear hi)))
                              go_ret
                              exact ⟨by first | rfl | (simp [errW_none, errW_some] <;> rfl) | (simp [*, errW_none, errW_some] <;> rfl), by repeat (first | (with_reducible first | exact HB.out | apply below_alloc | apply pw_below_drewN | apply below_drew1) | exact HB.out)⟩
          · replace c14 := Bool.eq_false_iff.mpr c14
            subst c14
            have H1 : (none) = some r := by rw [if_neg (show ¬ (false = true) by decide)] at H; exact H
            clear H
            have H := H1
            clear H1
            exact absurd H (by simp)
        · rw [if_neg c12] at H
          have c12b0 : (t658 == 0) = false := beq_eq_false_iff_ne.mpr c12
          have c12b1 : (t658 != 0) = true := bne_iff_ne.mpr c12
          by_cases c94 : t658 = 8
          · rw [if_pos c94] at H
            have c94b0 : (t658 == 8) = true := beq_iff_eq.mpr c94
            have c94b1 : (t658 != 8) = false := bne_eq_false_iff_eq.mpr c94
            clear c94
            by_cases c95 : (l0.length : Int) > 0
            · rw [if_pos c95] at H
              have c95b0 : decide (0 < (l0.length : Int)) = true := decide_eq_true c95
              have c95b1 : decide (0 < l0.length) = true := decide_eq_true (by omega)
              clear c95
              by_cases c96 : 0 < (l0.length : Int)
              · rw [if_pos c96] at H
                have c96b0 : decide (0 < (l0.length : Int)) = true := decide_eq_true c96
                have c96b1 : decide (0 < l0.length) = true := decide_eq_true (by omega)
                clear c96
                by_cases c97 : (rd l0 0) > 12
                · rw [if_pos c97] at H
                  have c97b0 : decide (12 < (rd l0 0)) = true := decide_eq_true c97
                  clear c97
                  replace H := Option.bind_eq_some_iff.mp H
                  obtain ⟨t662, A980, H⟩ := H
                  replace H : (some t662) = some r := H
                  have A98 := Aside0.mk A980
                  clear A980
                  obtain rfl := Option.some.inj H
                  go_wp2_with (first | ((with_reducible refine gate_callee (f := 26) rfl ?_); refine goesL_ (some 36) rfl rfl Try.func26 (by kernel_rfl) rfl #[.int .u8 a1] rfl (by (try simp only [List.map_toArray, List.map_cons, List.map_nil]); first | done | rfl | (simp only [List.length_drop, List.length_take]; rfl)) ?_; (with_reducible refine (clochelaw04_wires.calls a1 t656 _ A10.out).mono ?_); rintro e w' ⟨rfl, ⟨nd, rfl⟩⟩; refine ⟨_, rfl, ?_⟩) | ((with_reducible refine gate_callee (f := 35) rfl ?_); refine goesL_ (some 39) rfl rfl Try.func35 (by kernel_rfl) rfl #[.slice A0 l0.length c0] rfl (by (try simp only [List.map_toArray, List.map_cons, List.map_nil]); first | done | rfl | (simp only [List.length_drop, List.length_take]; rfl)) ?_; (with_reducible refine (blocks_Turned.calls kj2 _ _ l0 t657 t658 _ ?side1 ?side2 A11.out).mono ?_); (case side1 => repeat (first | exact (Kd.C_below HR0.out (by repeat (first | (with_reducible first | exact HB.out | apply below_alloc | apply pw_below_drewN | apply below_drew1) | exact HB.out))) | (with_reducible refine Kd.C_alloc ?_ _) | (with_reducible refine Kd.C_drewN ?_ _) | (with_reducible refine Kd.C_drew ?_))); (case side2 => exact HC0.out); rintro e w99 ⟨v659, rfl, ho0, hb⟩; refine ⟨_, rfl, ?_⟩; have n0_ := Aside0.mk (Kd.R_lower ho0 (below_size (by repeat (first | (with_reducible first | exact HB.out | apply below_alloc | apply pw_below_drewN | apply below_drew1) | exact HB.out)))); have n1_ := Aside0.mk (below_step (by repeat (first | (with_reducible first | exact HB.out | apply below_alloc | apply pw_below_drewN | apply below_drew1) | exact HB.out)) hb); clear HB; have HO660 := n0_; have HB := n1_; clear n0_ n1_; (try clear hb); (try clear hb2); (try clear hk); (try clear hi); (try clear ho0); have p661 : 0 ≤ (0 : Int) := (by omega); have q661 : 0 < (l0.length : Int) := of_decide_eq_true (by first | (with_reducible assumption) | assumption); obtain ⟨ad661, e661, hx661_0⟩ := Kd.at_int HR0.out 0 p661 q661; cases e661; have qi661 : (0 < l0.length) = True := eq_true (by omega); (try rw [show ((0 : Int)).toNat = 0 from rfl] at hx661_0); (try rw [Addr.add_zero'] at hx661_0); replace hx661_0 := (HB.out.cell (World.block_lt_of_cell? w _ hx661_0)).trans hx661_0; replace p661 := eq_true p661; replace q661 := eq_true q661) | (go_at_call 16; (with_reducible refine (clochelaw04_alive.calls kj2  t662 _ A98.out).mono ?_); rintro e w100 ⟨rfl, hb⟩; have n0_ := Aside0.mk (Kd.R_below (by (with_reducible repeat (first | apply Kd.R_alloc | apply Kd.R_drewN | apply Kd.R_drew)); exact HO660.out) hb); have n1_ := Aside0.mk (below_step (by repeat (first | (with_reducible first | exact HB.out | apply below_alloc | apply pw_below_drewN | apply below_drew1) | exact HB.out)) hb); clear HO660; clear HB; have HO660 := n0_; have HB := n1_; clear n0_ n1_; (try clear hb); (try clear hb2); (try clear hk); (try clear hi)))
                  go_ret
                  exact ⟨by first | rfl | (simp [errW_none, errW_some] <;> rfl) | (simp [*, errW_none, errW_some] <;> rfl), by repeat (first | (with_reducible first | exact HB.out | apply below_alloc | apply pw_below_drewN | apply below_drew1) | exact HB.out)⟩
                · rw [if_neg c97] at H
                  exact absurd H (by simp)
              · rw [if_neg c96] at H
                exact absurd H (by simp)
            · rw [if_neg c95] at H
              exact absurd H (by simp)
          · rw [if_neg c94] at H
            exact absurd H (by simp)

/-- THE ONE PURE STATEMENT of clochelaw04_BlocksTurned: yours. -/
def clochelaw04_BlocksTurned.Pure : Prop := ∀ (l0 : List Int) (a1 : Int), l0.length ≤ maxLen → l0.length * 8 ≤ 140737488351232 → (∀ x ∈ l0, (Lit.int .i64 x).wf = true) → (Lit.int .u8 a1).wf = true → ∃ k, clochelaw04_BlocksTurned.f k l0 a1 = some true
theorem clochelaw04_BlocksTurned.walk (P : clochelaw04_BlocksTurned.Pure) (a0 : Option Addr) (len0 cap0 : Nat) (z0 : List Int) (a1 : Int) (w : World) (w0 : (a0 = none ∧ len0 = 0 ∧ cap0 = 0 ∧ z0 = []) ∨ ∃ x, a0 = some x ∧ len0 ≤ cap0 ∧ cap0 ≤ maxLen ∧ z0.length = cap0 ∧ (∀ i, i < z0.length → w.cell? (x.add i) = some (.int .i64 (z0.getD i 0))) ∧ ∀ n ∈ z0, (Lit.int .i64 n).wf = true) (y0 : len0 * 8 ≤ 140737488351232) (w1 : (Lit.int .u8 a1).wf = true) :
    Calls Try.prog 9 #[.slice a0 len0 cap0, .int .u8 a1] w fun e w' => e = .returned (.bool true) ∧ Below w.heap.size w w' := by
  obtain ⟨l0, rfl, hr0, hm0, hw0, hc0⟩ := ReadsInt.ofRowC w0
  obtain ⟨k, h⟩ := P l0 a1 hm0 y0 hw0 w1
  refine (clochelaw04_BlocksTurned.calls k _ _ l0 a1 true w (Kd.C_of_reads (d := (0 : Int)) (h1 := fun _ => rfl) hr0) hc0 h).mono ?_
  rintro e w' ⟨rfl, hd⟩
  exact ⟨rfl, hd⟩

end Go.Proofs.Ytcmphfcpiciehaa.Print
