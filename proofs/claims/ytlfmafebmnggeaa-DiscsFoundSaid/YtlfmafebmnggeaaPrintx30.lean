/- What the functions of the discs compute, printed by this repo's hand printer. -/
import Derived.Test.YtlfmafebmnggeaaShort
import Derived.Test.YtlfmafebmnggeaaPrintx0
import Derived.Test.YtlfmafebmnggeaaHandRoots
import Derived.Test.YtlfmafebmnggeaaPrintx1
import Derived.Test.YtlfmafebmnggeaaPrintx6
import Derived.Test.YtlfmafebmnggeaaPrintx20
import Derived.Test.YtlfmafebmnggeaaPrintx29l
namespace Go.Proofs.Ytlfmafebmnggeaa.Print
open Go.RowKit Go.Proofs.YtlfmafebmnggeaaW.PrintWords Go.Proofs.YtlfmafebmnggeaaW.PrintLast Go.Proofs.YtlfmafebmnggeaaW.PrintMore
attribute [local go_sem] max2_int min2_int max_two min_two max_three min_three max_four min_four
set_option maxHeartbeats 8000000 -- slim
set_option maxRecDepth 100000
set_option linter.unusedVariables false
set_option linter.unusedSimpArgs false

attribute [local go_sem high] eqA23
/-! ### clochelaw01_DiscsFound: function 10 -/
mutual
def clochelaw01_DiscsFound.l0 : Nat → Int → List (S23) → Int → Int → Option (Bool)
 | 0, _, _, _, _ => none
 | k + 1, x3, x4, x6, x7 => if x7 ≤ (wrap64 (2 * x3)) then (clochelaw01_DiscsFound.l1 k x3 x4 x6 x7 0) else (clochelaw01_DiscsFound.l3 k x3 x4 x6 0)
def clochelaw01_DiscsFound.l1 : Nat → Int → List (S23) → Int → Int → Int → Option (Bool)
 | 0, _, _, _, _, _ => none
 | k + 1, x3, x4, x6, x7, x8 => if (wrap64 (2 * x8)) ≤ x7 then (if x7 = 0 then (none) else (if (wrap64 (x7 * (wrap64 (Int.tdiv (wrap64 ((wrap64 (x3 * x3)) + (wrap64 (x8 * x8)))) x7)))) = (wrap64 ((wrap64 (x3 * x3)) + (wrap64 (x8 * x8)))) then (clochelaw01_DiscsFound.j2 k x3 x4 x6 x7 x8 (wrap64 (Int.tdiv (wrap64 ((wrap64 (x3 * x3)) + (wrap64 (x8 * x8)))) x7)) (decide (x7 > (wrap64 (Int.tdiv (wrap64 ((wrap64 (x3 * x3)) + (wrap64 (x8 * x8)))) x7))))) else (clochelaw01_DiscsFound.j2 k x3 x4 x6 x7 x8 (wrap64 (Int.tdiv (wrap64 ((wrap64 (x3 * x3)) + (wrap64 (x8 * x8)))) x7)) true))) else (clochelaw01_DiscsFound.l0 k x3 x4 x6 (wrap64 (x7 + 1)))
def clochelaw01_DiscsFound.j2 : Nat → Int → List (S23) → Int → Int → Int → Int → Bool → Option (Bool)
 | 0, _, _, _, _, _, _, _ => none
 | k + 1, x3, x4, x6, x7, x8, x9, x61 => if x61 = true then (clochelaw01_DiscsFound.l1 k x3 x4 x6 x7 (wrap64 (x8 + 1))) else ((clocheref01_Sorted.f k (wrap64 (-x3)) (wrap64 (x7 + x3)) (wrap64 (x9 + x3)) (wrap64 ((wrap64 ((wrap64 (x7 + x9)) + x3)) - (wrap64 (2 * x8))))).bind fun bt593 => (clochelaw01_DiscsFound.l2 k x3 x4 (wrap64 (x6 + 1)) x7 x8 false 0 bt593.1 bt593.2.1 bt593.2.2.1 bt593.2.2.2))
def clochelaw01_DiscsFound.l2 : Nat → Int → List (S23) → Int → Int → Int → Bool → Int → Int → Int → Int → Int → Option (Bool)
 | 0, _, _, _, _, _, _, _, _, _, _, _ => none
 | k + 1, x3, x4, x6, x7, x8, x11, x12, x598000, x598001, x598002, x598003 => if x12 < (x4.length : Int) then (if x11 = true then (clochelaw01_DiscsFound.l2 k x3 x4 x6 x7 x8 true (wrap64 (x12 + 1)) x598000 x598001 x598002 x598003) else (if 0 ≤ x12 then (clochelaw01_DiscsFound.l2 k x3 x4 x6 x7 x8 (((rd_T23 x4 x12).f0) == x598000 && (((rd_T23 x4 x12).f1) == x598001 && (((rd_T23 x4 x12).f2) == x598002 && (((rd_T23 x4 x12).f3) == x598003)))) (wrap64 (x12 + 1)) x598000 x598001 x598002 x598003) else (none))) else (if x11 = true then (clochelaw01_DiscsFound.l1 k x3 x4 x6 x7 (wrap64 (x8 + 1))) else (none))
def clochelaw01_DiscsFound.l3 : Nat → Int → List (S23) → Int → Int → Option (Bool)
 | 0, _, _, _, _ => none
 | k + 1, x3, x4, x6, x13 => if x13 < (x4.length : Int) then (if 0 ≤ x13 then ((discs_IsRoot.f k ((rd_T23 x4 x13).f0) ((rd_T23 x4 x13).f1) ((rd_T23 x4 x13).f2) ((rd_T23 x4 x13).f3)).bind fun t601 => (if t601 = true then (if ((rd_T23 x4 x13).f0) = (wrap64 (-x3)) then (if x13 > 0 then (if 0 ≤ (wrap64 (x13 - 1)) then (if (wrap64 (x13 - 1)) < (x4.length : Int) then ((clochelaw01_less.f k ((rd_T23 x4 (wrap64 (x13 - 1))).f0) ((rd_T23 x4 (wrap64 (x13 - 1))).f1) ((rd_T23 x4 (wrap64 (x13 - 1))).f2) ((rd_T23 x4 (wrap64 (x13 - 1))).f3) ((rd_T23 x4 x13).f0) ((rd_T23 x4 x13).f1) ((rd_T23 x4 x13).f2) ((rd_T23 x4 x13).f3)).bind fun t605 => (if t605 = true then (clochelaw01_DiscsFound.l3 k x3 x4 x6 (wrap64 (x13 + 1))) else (none))) else (none)) else (none)) else (clochelaw01_DiscsFound.l3 k x3 x4 x6 (wrap64 (x13 + 1)))) else (none)) else (none))) else (none)) else (if x6 = (x4.length : Int) then (if x6 > 0 then ((clochelaw01_alive.f k).bind fun t599 => (some t599)) else (none)) else (none))
end
def clochelaw01_DiscsFound.f (k : Nat) (a0 : Int) : Option (Bool) := (discs_Roots.f k (wrap64 (1 + (Int.tmod (wrap64 (a0)) 100)))).bind fun bt589 => (if bt589.2 = 0 then (clochelaw01_DiscsFound.l0 k (wrap64 (1 + (Int.tmod (wrap64 (a0)) 100))) bt589.1 0 1) else (none))
theorem clochelaw01_DiscsFound.mono_l : ∀ k, (∀ y0 y1 y2 y3, LeO (clochelaw01_DiscsFound.l0 k y0 y1 y2 y3) (clochelaw01_DiscsFound.l0 (k + 1) y0 y1 y2 y3)) ∧ (∀ y0 y1 y2 y3 y4, LeO (clochelaw01_DiscsFound.l1 k y0 y1 y2 y3 y4) (clochelaw01_DiscsFound.l1 (k + 1) y0 y1 y2 y3 y4)) ∧ (∀ y0 y1 y2 y3 y4 y5 y6, LeO (clochelaw01_DiscsFound.j2 k y0 y1 y2 y3 y4 y5 y6) (clochelaw01_DiscsFound.j2 (k + 1) y0 y1 y2 y3 y4 y5 y6)) ∧ (∀ y0 y1 y2 y3 y4 y5 y6 y7 y8 y9 y10, LeO (clochelaw01_DiscsFound.l2 k y0 y1 y2 y3 y4 y5 y6 y7 y8 y9 y10) (clochelaw01_DiscsFound.l2 (k + 1) y0 y1 y2 y3 y4 y5 y6 y7 y8 y9 y10)) ∧ (∀ y0 y1 y2 y3, LeO (clochelaw01_DiscsFound.l3 k y0 y1 y2 y3) (clochelaw01_DiscsFound.l3 (k + 1) y0 y1 y2 y3))
 | 0 => ⟨fun _ _ _ _ r h => by simp [clochelaw01_DiscsFound.l0] at h, fun _ _ _ _ _ r h => by simp [clochelaw01_DiscsFound.l1] at h, fun _ _ _ _ _ _ _ r h => by simp [clochelaw01_DiscsFound.j2] at h, fun _ _ _ _ _ _ _ _ _ _ _ r h => by simp [clochelaw01_DiscsFound.l2] at h, fun _ _ _ _ r h => by simp [clochelaw01_DiscsFound.l3] at h⟩
 | k + 1 => by
  obtain ⟨ih0, ih1, ih2, ih3, ih4⟩ := clochelaw01_DiscsFound.mono_l k
  refine ⟨?_, ?_, ?_, ?_, ?_⟩
  ·intro y0 y1 y2 y3
   unfold clochelaw01_DiscsFound.l0
   repeat' first
   | (with_reducible exact ih0 _ _ _ _)
   | (with_reducible exact ih1 _ _ _ _ _)
   | (with_reducible exact ih2 _ _ _ _ _ _ _)
   | (with_reducible exact ih3 _ _ _ _ _ _ _ _ _ _ _)
   | (with_reducible exact ih4 _ _ _ _)
   | (with_reducible exact clochelaw01_alive.mono _)
   | (with_reducible exact clochelaw01_less.mono _ _ _ _ _ _ _ _ _)
   | (with_reducible exact clocheref01_Sorted.mono _ _ _ _ _)
   | (with_reducible exact discs_IsRoot.mono _ _ _ _ _)
   | (with_reducible exact discs_Roots.mono _ _)
   | (with_reducible exact LeO.refl _)
   | (with_reducible exact LeO.none _)
   | (with_reducible refine LeO.ite ?_ ?_)
   | (with_reducible refine LeO.bind ?_ (fun _ => ?_))
   | exact ih0 _ _ _ _
   | exact ih1 _ _ _ _ _
   | exact ih2 _ _ _ _ _ _ _
   | exact ih3 _ _ _ _ _ _ _ _ _ _ _
   | exact ih4 _ _ _ _
   | exact clochelaw01_alive.mono _
   | exact clochelaw01_less.mono _ _ _ _ _ _ _ _ _
   | exact clocheref01_Sorted.mono _ _ _ _ _
   | exact discs_IsRoot.mono _ _ _ _ _
   | exact discs_Roots.mono _ _
   | exact LeO.none _
   | refine LeO.ite ?_ ?_
   | refine LeO.bind ?_ (fun _ => ?_)
  ·intro y0 y1 y2 y3 y4
   unfold clochelaw01_DiscsFound.l1
   repeat' first
   | (with_reducible exact ih0 _ _ _ _)
   | (with_reducible exact ih1 _ _ _ _ _)
   | (with_reducible exact ih2 _ _ _ _ _ _ _)
   | (with_reducible exact ih3 _ _ _ _ _ _ _ _ _ _ _)
   | (with_reducible exact ih4 _ _ _ _)
   | (with_reducible exact clochelaw01_alive.mono _)
   | (with_reducible exact clochelaw01_less.mono _ _ _ _ _ _ _ _ _)
   | (with_reducible exact clocheref01_Sorted.mono _ _ _ _ _)
   | (with_reducible exact discs_IsRoot.mono _ _ _ _ _)
   | (with_reducible exact discs_Roots.mono _ _)
   | (with_reducible exact LeO.refl _)
   | (with_reducible exact LeO.none _)
   | (with_reducible refine LeO.ite ?_ ?_)
   | (with_reducible refine LeO.bind ?_ (fun _ => ?_))
   | exact ih0 _ _ _ _
   | exact ih1 _ _ _ _ _
   | exact ih2 _ _ _ _ _ _ _
   | exact ih3 _ _ _ _ _ _ _ _ _ _ _
   | exact ih4 _ _ _ _
   | exact clochelaw01_alive.mono _
   | exact clochelaw01_less.mono _ _ _ _ _ _ _ _ _
   | exact clocheref01_Sorted.mono _ _ _ _ _
   | exact discs_IsRoot.mono _ _ _ _ _
   | exact discs_Roots.mono _ _
   | exact LeO.none _
   | refine LeO.ite ?_ ?_
   | refine LeO.bind ?_ (fun _ => ?_)
  ·intro y0 y1 y2 y3 y4 y5 y6
   unfold clochelaw01_DiscsFound.j2
   repeat' first
   | (with_reducible exact ih0 _ _ _ _)
   | (with_reducible exact ih1 _ _ _ _ _)
   | (with_reducible exact ih2 _ _ _ _ _ _ _)
   | (with_reducible exact ih3 _ _ _ _ _ _ _ _ _ _ _)
   | (with_reducible exact ih4 _ _ _ _)
   | (with_reducible exact clochelaw01_alive.mono _)
   | (with_reducible exact clochelaw01_less.mono _ _ _ _ _ _ _ _ _)
   | (with_reducible exact clocheref01_Sorted.mono _ _ _ _ _)
   | (with_reducible exact discs_IsRoot.mono _ _ _ _ _)
   | (with_reducible exact discs_Roots.mono _ _)
   | (with_reducible exact LeO.refl _)
   | (with_reducible exact LeO.none _)
   | (with_reducible refine LeO.ite ?_ ?_)
   | (with_reducible refine LeO.bind ?_ (fun _ => ?_))
   | exact ih0 _ _ _ _
   | exact ih1 _ _ _ _ _
   | exact ih2 _ _ _ _ _ _ _
   | exact ih3 _ _ _ _ _ _ _ _ _ _ _
   | exact ih4 _ _ _ _
   | exact clochelaw01_alive.mono _
   | exact clochelaw01_less.mono _ _ _ _ _ _ _ _ _
   | exact clocheref01_Sorted.mono _ _ _ _ _
   | exact discs_IsRoot.mono _ _ _ _ _
   | exact discs_Roots.mono _ _
   | exact LeO.none _
   | refine LeO.ite ?_ ?_
   | refine LeO.bind ?_ (fun _ => ?_)
  ·intro y0 y1 y2 y3 y4 y5 y6 y7 y8 y9 y10
   unfold clochelaw01_DiscsFound.l2
   repeat' first
   | (with_reducible exact ih0 _ _ _ _)
   | (with_reducible exact ih1 _ _ _ _ _)
   | (with_reducible exact ih2 _ _ _ _ _ _ _)
   | (with_reducible exact ih3 _ _ _ _ _ _ _ _ _ _ _)
   | (with_reducible exact ih4 _ _ _ _)
   | (with_reducible exact clochelaw01_alive.mono _)
   | (with_reducible exact clochelaw01_less.mono _ _ _ _ _ _ _ _ _)
   | (with_reducible exact clocheref01_Sorted.mono _ _ _ _ _)
   | (with_reducible exact discs_IsRoot.mono _ _ _ _ _)
   | (with_reducible exact discs_Roots.mono _ _)
   | (with_reducible exact LeO.refl _)
   | (with_reducible exact LeO.none _)
   | (with_reducible refine LeO.ite ?_ ?_)
   | (with_reducible refine LeO.bind ?_ (fun _ => ?_))
   | exact ih0 _ _ _ _
   | exact ih1 _ _ _ _ _
   | exact ih2 _ _ _ _ _ _ _
   | exact ih3 _ _ _ _ _ _ _ _ _ _ _
   | exact ih4 _ _ _ _
   | exact clochelaw01_alive.mono _
   | exact clochelaw01_less.mono _ _ _ _ _ _ _ _ _
   | exact clocheref01_Sorted.mono _ _ _ _ _
   | exact discs_IsRoot.mono _ _ _ _ _
   | exact discs_Roots.mono _ _
   | exact LeO.none _
   | refine LeO.ite ?_ ?_
   | refine LeO.bind ?_ (fun _ => ?_)
  ·intro y0 y1 y2 y3
   unfold clochelaw01_DiscsFound.l3
   repeat' first
   | (with_reducible exact ih0 _ _ _ _)
   | (with_reducible exact ih1 _ _ _ _ _)
   | (with_reducible exact ih2 _ _ _ _ _ _ _)
   | (with_reducible exact ih3 _ _ _ _ _ _ _ _ _ _ _)
   | (with_reducible exact ih4 _ _ _ _)
   | (with_reducible exact clochelaw01_alive.mono _)
   | (with_reducible exact clochelaw01_less.mono _ _ _ _ _ _ _ _ _)
   | (with_reducible exact clocheref01_Sorted.mono _ _ _ _ _)
   | (with_reducible exact discs_IsRoot.mono _ _ _ _ _)
   | (with_reducible exact discs_Roots.mono _ _)
   | (with_reducible exact LeO.refl _)
   | (with_reducible exact LeO.none _)
   | (with_reducible refine LeO.ite ?_ ?_)
   | (with_reducible refine LeO.bind ?_ (fun _ => ?_))
   | exact ih0 _ _ _ _
   | exact ih1 _ _ _ _ _
   | exact ih2 _ _ _ _ _ _ _
   | exact ih3 _ _ _ _ _ _ _ _ _ _ _
   | exact ih4 _ _ _ _
   | exact clochelaw01_alive.mono _
   | exact clochelaw01_less.mono _ _ _ _ _ _ _ _ _
   | exact clocheref01_Sorted.mono _ _ _ _ _
   | exact discs_IsRoot.mono _ _ _ _ _
   | exact discs_Roots.mono _ _
   | exact LeO.none _
   | refine LeO.ite ?_ ?_
   | refine LeO.bind ?_ (fun _ => ?_)
theorem clochelaw01_DiscsFound.mono : ∀ a0 k, LeO (clochelaw01_DiscsFound.f k a0) (clochelaw01_DiscsFound.f (k + 1) a0) := by
 intro a0 k
 obtain ⟨ih0, ih1, ih2, ih3, ih4⟩ := clochelaw01_DiscsFound.mono_l k
 unfold clochelaw01_DiscsFound.f
 repeat' first
   | (with_reducible exact ih0 _ _ _ _)
   | (with_reducible exact ih1 _ _ _ _ _)
   | (with_reducible exact ih2 _ _ _ _ _ _ _)
   | (with_reducible exact ih3 _ _ _ _ _ _ _ _ _ _ _)
   | (with_reducible exact ih4 _ _ _ _)
   | (with_reducible exact clochelaw01_alive.mono _)
   | (with_reducible exact clochelaw01_less.mono _ _ _ _ _ _ _ _ _)
   | (with_reducible exact clocheref01_Sorted.mono _ _ _ _ _)
   | (with_reducible exact discs_IsRoot.mono _ _ _ _ _)
   | (with_reducible exact discs_Roots.mono _ _)
   | (with_reducible exact LeO.refl _)
   | (with_reducible exact LeO.none _)
   | (with_reducible refine LeO.ite ?_ ?_)
   | (with_reducible refine LeO.bind ?_ (fun _ => ?_))
   | exact ih0 _ _ _ _
   | exact ih1 _ _ _ _ _
   | exact ih2 _ _ _ _ _ _ _
   | exact ih3 _ _ _ _ _ _ _ _ _ _ _
   | exact ih4 _ _ _ _
   | exact clochelaw01_alive.mono _
   | exact clochelaw01_less.mono _ _ _ _ _ _ _ _ _
   | exact clocheref01_Sorted.mono _ _ _ _ _
   | exact discs_IsRoot.mono _ _ _ _ _
   | exact discs_Roots.mono _ _
   | exact LeO.none _
   | refine LeO.ite ?_ ?_
   | refine LeO.bind ?_ (fun _ => ?_)
def clochelaw01_DiscsFound.T20 : Bool × List (List Nat × List Nat) := (true, [([], []), ([0], [0]), ([1], [1]), ([1], [1]), ([2, 3, 1], [1, 2, 3]), ([4, 1], [1, 4]), ([1], [1]), ([5, 6, 1], [1, 5, 6]), ([1, 7], [1, 7]), ([8, 1, 0, 1, 2, 3, 4, 5, 6, 7, 8], [0, 8])])
def clochelaw01_DiscsFound.B20 : List Nat := [0, 1, 3, 3, 15, 31, 3, 127, 255, 511]
theorem clochelaw01_DiscsFound.tab20 : rtab .any (opsOf Try.f10 20) = clochelaw01_DiscsFound.T20 := by kernel_rfl
theorem clochelaw01_DiscsFound.bits20 : waitsOk clochelaw01_DiscsFound.T20.2 clochelaw01_DiscsFound.B20 = true := by kernel_rfl
def clochelaw01_DiscsFound.T26 : Bool × List (List Nat × List Nat) := (true, [([], []), ([], []), ([0, 1], [0, 1]), ([2], [2]), ([3], [3]), ([4], [4]), ([5, 4], [5]), ([6], [6]), ([6], [6]), ([7, 8, 6], [6, 7, 8]), ([9, 6], [6, 9]), ([10, 6], [6, 10]), ([6], [6]), ([12, 6], [6, 12]), ([11, 13, 6], [6, 11, 13]), ([6, 14], [6, 14]), ([15, 6], [15]), ([16], [16]), ([17, 16], [16, 17]), ([18, 16, 16], [16, 18]), ([19], [19]), ([19], [19]), ([21, 19], [19, 21]), ([20, 22, 19], [19, 20, 22]), ([23, 19], [19, 23]), ([19], [19]), ([19], [19]), ([25, 26, 19], [19, 25, 26]), ([27, 19], [19, 27]), ([24, 28, 19, 19], [19, 24, 28]), ([29, 19], [19, 29]), ([19, 30, 16], [16, 19, 30]), ([16, 31], [16, 31])])
def clochelaw01_DiscsFound.B26 : List Nat := [0, 0, 3, 7, 15, 31, 63, 127, 127, 511, 1023, 2047, 127, 4223, 16383, 32767, 65535, 131071, 262143, 524287, 1048575, 1048575, 3145727, 8388607, 16777215, 1048575, 1048575, 101711871, 235929599, 536870911, 1073741823, 2147483647, 4294967295]
theorem clochelaw01_DiscsFound.tab26 : rtab .any (opsOf Try.f10 26) = clochelaw01_DiscsFound.T26 := by kernel_rfl
theorem clochelaw01_DiscsFound.bits26 : waitsOk clochelaw01_DiscsFound.T26.2 clochelaw01_DiscsFound.B26 = true := by kernel_rfl
theorem clochelaw01_DiscsFound.calls (k : Nat) (a0 : Int) (r : Bool) (w : World) (h : clochelaw01_DiscsFound.f k a0 = some r) :
  Calls Try.prog 10 #[.int .u8 a0] w fun e w' => e = .returned (.bool r) ∧ Below w.heap.size w w' := by
 have hu23 := Try.underlying23
 have HB := Aside0.mk (Below.refl w.heap.size w)
 have H : ((discs_Roots.f k (wrap64 (1 + (Int.tmod (wrap64 (a0)) 100)))).bind fun bt589 => (if bt589.2 = 0 then (clochelaw01_DiscsFound.l0 k (wrap64 (1 + (Int.tmod (wrap64 (a0)) 100))) bt589.1 0 1) else (none))) = some r := h
 clear h
 replace H := Option.bind_eq_some_iff.mp H
 obtain ⟨⟨t589, t590⟩, A20, H⟩ := H
 replace H : (if t590 = 0 then (clochelaw01_DiscsFound.l0 k (wrap64 (1 + (Int.tmod (wrap64 (a0)) 100))) t589 0 1) else (none)) = some r := H
 have A2 := Aside0.mk A20
 clear A20
 by_cases c3 : t590 = 0
 ·rw [if_pos c3] at H
  have c3b0 : (t590 == 0) = true := beq_iff_eq.mpr c3
  have c3b1 : (t590 != 0) = false := bne_eq_false_iff_eq.mpr c3
  clear c3
  have H' := Aside0.mk H
  clear H
  go_enter Try.func10, Try.ntmps10
  go_wp2_with (first | ((with_reducible refine gate_callee (f := 20) rfl ?_); refine goesL_ (some 20) rfl rfl Try.func20 (by kernel_rfl) rfl #[.int .i64 (wrap64 (1 + (Int.tmod (wrap64 (a0)) 100)))] rfl mp_ ?_; (with_reducible refine (discs_Roots.calls k (wrap64 (1 + (Int.tmod (wrap64 (a0)) 100))) t589 t590 _ A2.out).mono ?_); rintro e w4 ⟨v591, rfl, ho0, hb⟩; refine ⟨_, rfl, ?_⟩; have n0_ := Aside0.mk (Kd.R_lower ho0 (below_size (lw_ HB.out))); have n1_ := Aside0.mk (below_step (lw_ HB.out) hb); clear HB; have HO592 := n0_; have HB := n1_; clear n0_ n1_; (try clear hb); (try clear hb2); (try clear hk); (try clear hi); (try clear ho0)))
  go_loopg [6, 7] k (fun kq v6 v7 w' => ∃ (x6_1 : Int) (x7_1 : Int), v6 = .int .i64 x6_1 ∧ v7 = .int .i64 x7_1 ∧ Aside0 (clochelaw01_DiscsFound.l0 kq (wrap64 (1 + (Int.tmod (wrap64 (a0)) 100))) t589 x6_1 x7_1 = some r) ∧ Aside0 (kq ≤ k) ∧ Aside0 (Kd.R k23 23 w' w.heap.size (fun _ => True) v591 t589) ∧ Aside0 (Below w.heap.size w w'))
  case atStart => exact ⟨(0), (1), eq_, eq_, H', ⟨Nat.le_refl _⟩, ⟨by refine kr_ ?_; exact HO592.out⟩, ⟨by repeat (first | (with_reducible first | exact HB.out | apply below_alloc | apply pw_below_drewN | apply below_drew1) | exact HB.out)⟩⟩
  case round =>
   clear H'
   try clear c1
   try clear c2
   try clear p2
   try clear c3
   try clear c3b0
   try clear c3b1
   obtain ⟨x6_1, x7_1, rfl, rfl, HA, HK1, HO_4, HB⟩ := hrel
   cases gk with
   | zero => exact absurd HA.out (by simp [clochelaw01_DiscsFound.l0])
   | succ k1 =>
    have H := HA.out
    clear HA
    simp only [clochelaw01_DiscsFound.l0] at H
    by_cases c5 : x7_1 ≤ (wrap64 (2 * (wrap64 (1 + (Int.tmod (wrap64 (a0)) 100)))))
    ·rw [if_pos c5] at H
     have c5b0 : decide (x7_1 ≤ (wrap64 (2 * (wrap64 (1 + (Int.tmod (wrap64 (a0)) 100)))))) = true := decide_eq_true c5
     clear c5
     have H' := Aside0.mk H
     clear H
     go_wp2
     go_loopg [6, 8] k1 (fun kq v6 v8 w' => ∃ (x6_2 : Int) (x8_2 : Int), v6 = .int .i64 x6_2 ∧ v8 = .int .i64 x8_2 ∧ Aside0 (clochelaw01_DiscsFound.l1 kq (wrap64 (1 + (Int.tmod (wrap64 (a0)) 100))) t589 x6_2 x7_1 x8_2 = some r) ∧ Aside0 (kq ≤ k1) ∧ Aside0 (Kd.R k23 23 w' w.heap.size (fun _ => True) v591 t589) ∧ Aside0 (Below w.heap.size w w'))
     case atStart => exact ⟨(x6_1), (0), eq_, eq_, H', ⟨Nat.le_refl _⟩, ⟨by refine kr_ ?_; exact HO_4.out⟩, ⟨by repeat (first | (with_reducible first | exact HB.out | apply below_alloc | apply pw_below_drewN | apply below_drew1) | exact HB.out)⟩⟩
     case round =>
      clear H'
      try clear c1
      try clear c2
      try clear p2
      try clear c3
      try clear c3b0
      try clear c3b1
      try clear c5
      try clear c5b0
      try clear p2
      obtain ⟨x6_2, x8_2, rfl, rfl, HA, HK2, HO_4, HB⟩ := hrel
      cases gk with
      | zero => exact absurd HA.out (by simp [clochelaw01_DiscsFound.l1])
      | succ k2 =>
       have H := HA.out
       clear HA
       simp only [clochelaw01_DiscsFound.l1] at H
       by_cases c6 : (wrap64 (2 * x8_2)) ≤ x7_1
       ·rw [if_pos c6] at H
        have c6b0 : decide ((wrap64 (2 * x8_2)) ≤ x7_1) = true := decide_eq_true c6
        clear c6
        by_cases c7 : x7_1 = 0
        ·rw [if_pos c7] at H
         exact absurd H (by simp)
        ·rw [if_neg c7] at H
         have c7b0 : (x7_1 == 0) = false := beq_eq_false_iff_ne.mpr c7
         have c7b1 : (x7_1 != 0) = true := bne_iff_ne.mpr c7
         have HC8 := Aside0.mk H
         clear H
         go_upto_region 13 with (fail)
         go_cut [61] (fun v61 wc => ∃ (kq : Nat) (x61_7 : Bool), v61 = .bool x61_7 ∧ Aside0 (clochelaw01_DiscsFound.j2 kq (wrap64 (1 + (Int.tmod (wrap64 (a0)) 100))) t589 x6_2 x7_1 x8_2 (wrap64 (Int.tdiv (wrap64 ((wrap64 ((wrap64 (1 + (Int.tmod (wrap64 (a0)) 100))) * (wrap64 (1 + (Int.tmod (wrap64 (a0)) 100))))) + (wrap64 (x8_2 * x8_2)))) x7_1)) x61_7 = some r) ∧ Aside0 (kq ≤ k2) ∧ Aside0 (Kd.R k23 23 wc w.heap.size (fun _ => True) v591 t589) ∧ Aside0 (Below w.heap.size w wc))
         case first =>
          have H := HC8.out
          clear HC8
          by_cases c9 : (wrap64 (x7_1 * (wrap64 (Int.tdiv (wrap64 ((wrap64 ((wrap64 (1 + (Int.tmod (wrap64 (a0)) 100))) * (wrap64 (1 + (Int.tmod (wrap64 (a0)) 100))))) + (wrap64 (x8_2 * x8_2)))) x7_1)))) = (wrap64 ((wrap64 ((wrap64 (1 + (Int.tmod (wrap64 (a0)) 100))) * (wrap64 (1 + (Int.tmod (wrap64 (a0)) 100))))) + (wrap64 (x8_2 * x8_2))))
          ·rw [if_pos c9] at H
           have c9b0 : ((wrap64 (x7_1 * (wrap64 (Int.tdiv (wrap64 ((wrap64 ((wrap64 (1 + (Int.tmod (wrap64 (a0)) 100))) * (wrap64 (1 + (Int.tmod (wrap64 (a0)) 100))))) + (wrap64 (x8_2 * x8_2)))) x7_1)))) == (wrap64 ((wrap64 ((wrap64 (1 + (Int.tmod (wrap64 (a0)) 100))) * (wrap64 (1 + (Int.tmod (wrap64 (a0)) 100))))) + (wrap64 (x8_2 * x8_2))))) = true := beq_iff_eq.mpr c9
           have c9b1 : ((wrap64 (x7_1 * (wrap64 (Int.tdiv (wrap64 ((wrap64 ((wrap64 (1 + (Int.tmod (wrap64 (a0)) 100))) * (wrap64 (1 + (Int.tmod (wrap64 (a0)) 100))))) + (wrap64 (x8_2 * x8_2)))) x7_1)))) != (wrap64 ((wrap64 ((wrap64 (1 + (Int.tmod (wrap64 (a0)) 100))) * (wrap64 (1 + (Int.tmod (wrap64 (a0)) 100))))) + (wrap64 (x8_2 * x8_2))))) = false := bne_eq_false_iff_eq.mpr c9
           clear c9
           (first | rw [c9b0] | (simp only [i64_w, i32_w]; rw [c9b0]) | skip)
           have H' := Aside0.mk H
           clear H
           go_wp2
           go_meet
           case rel => exact ⟨_, (decide (x7_1 > (wrap64 (Int.tdiv (wrap64 ((wrap64 ((wrap64 (1 + (Int.tmod (wrap64 (a0)) 100))) * (wrap64 (1 + (Int.tmod (wrap64 (a0)) 100))))) + (wrap64 (x8_2 * x8_2)))) x7_1)))), eq_, H', ⟨by have := HK1.out; have := HK2.out; first | omega | exact Nat.le_refl _⟩, ⟨by refine kr_ ?_; exact HO_4.out⟩, ⟨by repeat (first | (with_reducible first | exact HB.out | apply below_alloc | apply pw_below_drewN | apply below_drew1) | exact HB.out)⟩⟩
          ·rw [if_neg c9] at H
           have c9b0 : ((wrap64 (x7_1 * (wrap64 (Int.tdiv (wrap64 ((wrap64 ((wrap64 (1 + (Int.tmod (wrap64 (a0)) 100))) * (wrap64 (1 + (Int.tmod (wrap64 (a0)) 100))))) + (wrap64 (x8_2 * x8_2)))) x7_1)))) == (wrap64 ((wrap64 ((wrap64 (1 + (Int.tmod (wrap64 (a0)) 100))) * (wrap64 (1 + (Int.tmod (wrap64 (a0)) 100))))) + (wrap64 (x8_2 * x8_2))))) = false := beq_eq_false_iff_ne.mpr c9
           have c9b1 : ((wrap64 (x7_1 * (wrap64 (Int.tdiv (wrap64 ((wrap64 ((wrap64 (1 + (Int.tmod (wrap64 (a0)) 100))) * (wrap64 (1 + (Int.tmod (wrap64 (a0)) 100))))) + (wrap64 (x8_2 * x8_2)))) x7_1)))) != (wrap64 ((wrap64 ((wrap64 (1 + (Int.tmod (wrap64 (a0)) 100))) * (wrap64 (1 + (Int.tmod (wrap64 (a0)) 100))))) + (wrap64 (x8_2 * x8_2))))) = true := bne_iff_ne.mpr c9
           (first | rw [c9b0] | (simp only [i64_w, i32_w]; rw [c9b0]) | skip)
           have H' := Aside0.mk H
           clear H
           go_wp2
           go_meet
           case rel => exact ⟨_, (true), eq_, H', ⟨by have := HK1.out; have := HK2.out; first | omega | exact Nat.le_refl _⟩, ⟨by refine kr_ ?_; exact HO_4.out⟩, ⟨by repeat (first | (with_reducible first | exact HB.out | apply below_alloc | apply pw_below_drewN | apply below_drew1) | exact HB.out)⟩⟩
         case rest =>
          clear HC8
          try clear c1
          try clear c2
          try clear p2
          try clear c3
          try clear c3b0
          try clear c3b1
          try clear c5
          try clear c5b0
          try clear c6
          try clear c6b0
          try clear p6
          try clear c7
          try clear c7b0
          try clear c7b1
          try clear c9
          try clear c9b0
          try clear c9b1
          try clear p2
          obtain ⟨kq, x61_7, rfl, HA, HJ7, HO_4, HB⟩ := hcut
          cases kq with
          | zero => exact absurd HA.out (by simp [clochelaw01_DiscsFound.j2])
          | succ kj7 =>
           have H := HA.out
           clear HA
           simp only [clochelaw01_DiscsFound.j2] at H
           by_cases c10 : x61_7 = true
           ·subst c10
            have H1 : (clochelaw01_DiscsFound.l1 kj7 (wrap64 (1 + (Int.tmod (wrap64 (a0)) 100))) t589 x6_2 x7_1 (wrap64 (x8_2 + 1))) = some r := by rw [if_pos rfl] at H; exact H
            clear H
            have H := H1
            clear H1
            have H' := Aside0.mk H
            clear H
            go_wp2
            go_roundg kj7
            case measure => have := HK1.out; have := HK2.out; have := HJ7.out; omega
            case rel => exact ⟨(x6_2), (wrap64 (x8_2 + 1)), eq_, eq_, H', ⟨by have := HK1.out; have := HK2.out; have := HJ7.out; omega⟩, ⟨by refine kr_ ?_; exact HO_4.out⟩, ⟨by repeat (first | (with_reducible first | exact HB.out | apply below_alloc | apply pw_below_drewN | apply below_drew1) | exact HB.out)⟩⟩
           ·replace c10 := Bool.eq_false_iff.mpr c10
            subst c10
            have H1 : ((clocheref01_Sorted.f kj7 (wrap64 (-(wrap64 (1 + (Int.tmod (wrap64 (a0)) 100))))) (wrap64 (x7_1 + (wrap64 (1 + (Int.tmod (wrap64 (a0)) 100))))) (wrap64 ((wrap64 (Int.tdiv (wrap64 ((wrap64 ((wrap64 (1 + (Int.tmod (wrap64 (a0)) 100))) * (wrap64 (1 + (Int.tmod (wrap64 (a0)) 100))))) + (wrap64 (x8_2 * x8_2)))) x7_1)) + (wrap64 (1 + (Int.tmod (wrap64 (a0)) 100))))) (wrap64 ((wrap64 ((wrap64 (x7_1 + (wrap64 (Int.tdiv (wrap64 ((wrap64 ((wrap64 (1 + (Int.tmod (wrap64 (a0)) 100))) * (wrap64 (1 + (Int.tmod (wrap64 (a0)) 100))))) + (wrap64 (x8_2 * x8_2)))) x7_1)))) + (wrap64 (1 + (Int.tmod (wrap64 (a0)) 100))))) - (wrap64 (2 * x8_2))))).bind fun bt593 => (clochelaw01_DiscsFound.l2 kj7 (wrap64 (1 + (Int.tmod (wrap64 (a0)) 100))) t589 (wrap64 (x6_2 + 1)) x7_1 x8_2 false 0 bt593.1 bt593.2.1 bt593.2.2.1 bt593.2.2.2)) = some r := by rw [if_neg (show ¬ (false = true) by decide)] at H; exact H
            clear H
            have H := H1
            clear H1
            replace H := Option.bind_eq_some_iff.mp H
            obtain ⟨⟨t593, t594, t595, t596⟩, A110, H⟩ := H
            replace H : (clochelaw01_DiscsFound.l2 kj7 (wrap64 (1 + (Int.tmod (wrap64 (a0)) 100))) t589 (wrap64 (x6_2 + 1)) x7_1 x8_2 false 0 t593 t594 t595 t596) = some r := H
            have A11 := Aside0.mk A110
            clear A110
            have H' := Aside0.mk H
            clear H
            go_wp2_with (first | ((with_reducible refine gate_callee (f := 32) rfl ?_); refine goesL_ (some 81) rfl rfl Try.func32 (by kernel_rfl) rfl #[.agg #[.int .i64 (wrap64 (-(wrap64 (1 + (Int.tmod (wrap64 (a0)) 100))))), .int .i64 (wrap64 (x7_1 + (wrap64 (1 + (Int.tmod (wrap64 (a0)) 100))))), .int .i64 (wrap64 ((wrap64 (Int.tdiv (wrap64 ((wrap64 ((wrap64 (1 + (Int.tmod (wrap64 (a0)) 100))) * (wrap64 (1 + (Int.tmod (wrap64 (a0)) 100))))) + (wrap64 (x8_2 * x8_2)))) x7_1)) + (wrap64 (1 + (Int.tmod (wrap64 (a0)) 100))))), .int .i64 (wrap64 ((wrap64 ((wrap64 (x7_1 + (wrap64 (Int.tdiv (wrap64 ((wrap64 ((wrap64 (1 + (Int.tmod (wrap64 (a0)) 100))) * (wrap64 (1 + (Int.tmod (wrap64 (a0)) 100))))) + (wrap64 (x8_2 * x8_2)))) x7_1)))) + (wrap64 (1 + (Int.tmod (wrap64 (a0)) 100))))) - (wrap64 (2 * x8_2))))]] rfl mp_ ?_; (with_reducible refine (clocheref01_Sorted.calls kj7 (wrap64 (-(wrap64 (1 + (Int.tmod (wrap64 (a0)) 100))))) (wrap64 (x7_1 + (wrap64 (1 + (Int.tmod (wrap64 (a0)) 100))))) (wrap64 ((wrap64 (Int.tdiv (wrap64 ((wrap64 ((wrap64 (1 + (Int.tmod (wrap64 (a0)) 100))) * (wrap64 (1 + (Int.tmod (wrap64 (a0)) 100))))) + (wrap64 (x8_2 * x8_2)))) x7_1)) + (wrap64 (1 + (Int.tmod (wrap64 (a0)) 100))))) (wrap64 ((wrap64 ((wrap64 (x7_1 + (wrap64 (Int.tdiv (wrap64 ((wrap64 ((wrap64 (1 + (Int.tmod (wrap64 (a0)) 100))) * (wrap64 (1 + (Int.tmod (wrap64 (a0)) 100))))) + (wrap64 (x8_2 * x8_2)))) x7_1)))) + (wrap64 (1 + (Int.tmod (wrap64 (a0)) 100))))) - (wrap64 (2 * x8_2)))) t593 t594 t595 t596 _ A11.out).mono ?_); rintro e w12 ⟨rfl, hb⟩; refine ⟨_, rfl, ?_⟩; have n0_ := Aside0.mk (Kd.R_below (by refine kr_ ?_; exact HO_4.out) hb); have n1_ := Aside0.mk (below_step (lw_ HB.out) hb); clear HO_4; clear HB; have HO_4 := n0_; have HB := n1_; clear n0_ n1_; (try clear hb); (try clear hb2); (try clear hk); (try clear hi)) | ((with_reducible refine gate_dst (N := 10) rfl ?_); refine box_event ?hg (N := 10) ?hd (cs := #[.int .i64 0, .int .i64 0, .int .i64 0, .int .i64 0]) (t := 23) ?hr ?_; (case hd => rfl); (case hg => rfl); (case hr => exact gs_); intro gb597 hg w13 hbox hb; have n0_ := Aside0.mk (Kd.R_below (Kd.R_elderB (by refine kr_ ?_; exact HO_4.out) gb597 (Nat.le_of_eq hg.symm)) hb); have n1_ := Aside0.mk (below_step (lw_ HB.out) hb); have n2_ := Aside0.mk (hbox); have n3_ := Aside0.mk ((by rw [hg]; exact (below_size (lw_ HB.out)) : w.heap.size ≤ gb597)); have n4_ := Aside0.mk ((by rw [hg]; exact (below_size (lw_ HB.out)) : w.heap.size ≤ gb597)); clear HO_4; clear HB; have HO_4 := n0_; have HB := n1_; have BK597 := n2_; have GW597 := n3_; have GE597 := n4_; clear n0_ n1_ n2_ n3_ n4_; clear hb hbox hg; have hcz14_0 : w13.cell? ⟨gb597, 0, none⟩ = some (.int .i64 0) := (blk_cell BK597.out 0).trans rfl; have hcz14_1 : w13.cell? ⟨gb597, 1, none⟩ = some (.int .i64 0) := (blk_cell BK597.out 1).trans rfl; have hcz14_2 : w13.cell? ⟨gb597, 2, none⟩ = some (.int .i64 0) := (blk_cell BK597.out 2).trans rfl; have hcz14_3 : w13.cell? ⟨gb597, 3, none⟩ = some (.int .i64 0) := (blk_cell BK597.out 3).trans rfl; have hfz14_0 := blk_frozen BK597.out 0; have hfz14_1 := blk_frozen BK597.out 1; have hfz14_2 := blk_frozen BK597.out 2; have hfz14_3 := blk_frozen BK597.out 3))
            go_loopg [11, 12] kj7 (fun kq v11 v12 w' => ∃ (x11_4 : Bool) (x12_4 : Int), v11 = .bool x11_4 ∧ v12 = .int .i64 x12_4 ∧ Aside0 (clochelaw01_DiscsFound.l2 kq (wrap64 (1 + (Int.tmod (wrap64 (a0)) 100))) t589 (wrap64 (x6_2 + 1)) x7_1 x8_2 x11_4 x12_4 t593 t594 t595 t596 = some r) ∧ Aside0 (kq ≤ kj7) ∧ Aside0 (Kd.R k23 23 w' w.heap.size (fun k_ => k_ ≠ gb597) v591 t589) ∧ Aside0 (w'.heap[gb597]? = some (.cells #[.int .i64 t593, .int .i64 t594, .int .i64 t595, .int .i64 t596] 23 (0, 0))) ∧ Aside0 (Below w.heap.size w w'))
            case atStart => exact ⟨(false), (0), eq_, eq_, H', ⟨Nat.le_refl _⟩, ⟨by refine kr_ ?_; exact Kd.R_mono (Kd.R_far (p := ⟨gb597, 3, none⟩) (Kd.R_far (p := ⟨gb597, 2, none⟩) (Kd.R_far (p := ⟨gb597, 1, none⟩) (Kd.R_far (p := ⟨gb597, 0, none⟩) (Kd.R_mono HO_4.out (fun k_ hk => (⟨hk, hk.2⟩ : _ ∧ k_ ≠ gb597))) (fun _ hk => hk.2) (.int .i64 t593)) (fun _ hk => hk.2) (.int .i64 t594)) (fun _ hk => hk.2) (.int .i64 t595)) (fun _ hk => hk.2) (.int .i64 t596)) (fun _ hk => hk.1.2)⟩, ⟨by refine bs_ ?_; refine blk_put (cs := #[.int .i64 t593, .int .i64 t594, .int .i64 t595, .int .i64 0]) ?_ 3 _ rfl; refine bs_ ?_; refine blk_put (cs := #[.int .i64 t593, .int .i64 t594, .int .i64 0, .int .i64 0]) ?_ 2 _ rfl; refine bs_ ?_; refine blk_put (cs := #[.int .i64 t593, .int .i64 0, .int .i64 0, .int .i64 0]) ?_ 1 _ rfl; refine bs_ ?_; refine blk_put (cs := #[.int .i64 0, .int .i64 0, .int .i64 0, .int .i64 0]) ?_ 0 _ rfl; refine bs_ ?_; exact BK597.out⟩, ⟨by repeat (first | (with_reducible first | exact HB.out | apply below_alloc | apply pw_below_drewN | apply below_drew1 | refine below_set ?_ GE597.out) | exact HB.out)⟩⟩
            case round =>
             clear H'
             try clear c1
             try clear c2
             try clear p2
             try clear c3
             try clear c3b0
             try clear c3b1
             try clear c5
             try clear c5b0
             try clear c6
             try clear c6b0
             try clear p6
             try clear c7
             try clear c7b0
             try clear c7b1
             try clear c9
             try clear c9b0
             try clear c9b1
             try clear c10
             try clear hcz14_0
             try clear hcz14_1
             try clear hcz14_2
             try clear hcz14_3
             try clear hfz14_0
             try clear hfz14_1
             try clear hfz14_2
             try clear hfz14_3
             try clear p2
             try clear p6
             obtain ⟨x11_4, x12_4, rfl, rfl, HA, HK4, HO_4, BK597, HB⟩ := hrel
             cases gk with
             | zero => exact absurd HA.out (by simp [clochelaw01_DiscsFound.l2])
             | succ k4 =>
              have H := HA.out
              clear HA
              simp only [clochelaw01_DiscsFound.l2] at H
              by_cases c15 : x12_4 < (t589.length : Int)
              ·rw [if_pos c15] at H
               have c15b0 : decide (x12_4 < (t589.length : Int)) = true := decide_eq_true c15
               clear c15
               by_cases c16 : x11_4 = true
               ·subst c16
                have H1 : (clochelaw01_DiscsFound.l2 k4 (wrap64 (1 + (Int.tmod (wrap64 (a0)) 100))) t589 (wrap64 (x6_2 + 1)) x7_1 x8_2 true (wrap64 (x12_4 + 1)) t593 t594 t595 t596) = some r := by rw [if_pos rfl] at H; exact H
                clear H
                have H := H1
                clear H1
                have H' := Aside0.mk H
                clear H
                obtain ⟨Ao17, co17, eo17⟩ := Kd.R_slice HO_4.out
                subst eo17
                try go_wp2
                have n0_ := Aside0.mk (Kd.R_drew HO_4.out)
                have n1_ := Aside0.mk (blk_drew BK597.out)
                have n2_ := Aside0.mk (below_drew1 HB.out)
                clear HO_4
                clear BK597
                clear HB
                have HO_4 := n0_
                have BK597 := n1_
                have HB := n2_
                clear n0_ n1_ n2_
                refine start_ (n := 10) (S := fun w' => True) (ds := []) #[false, false, false, false, false, false, false, false, false, false] (by kernel_rfl) rfl rfl trivial (fun hHeld => ?_); refine with_tabW clochelaw01_DiscsFound.tab20 clochelaw01_DiscsFound.bits20 (fun HT_ HW_ => ?_)
                generalize wr.drew = w18 at HO_4 BK597 HB hHeld ⊢
                refine pure_ (i := 0) (N := some 88) (v := ?_) (a' := ?_) #[true, false, false, false, false, false, false, false, false, false] rfl rfl (any_of HT_.out (by kernel_rfl)) (fun _ _ _ h => h) (Or.inl ⟨by rfl, ?_⟩) ?_ ?_
                rotate_left
                ·intro w'
                 go_simp
                 with_reducible rfl
                rotate_left
                ·exact pt_
                refine pure_ (i := 1) (N := some 89) (v := ?_) (a' := ?_) #[true, true, false, false, false, false, false, false, false, false] rfl rfl (any_of HT_.out (by kernel_rfl)) (fun _ _ _ h => h) (Or.inl ⟨by rfl, ?_⟩) ?_ ?_
                rotate_left
                ·intro w'
                 go_simp
                 with_reducible rfl
                rotate_left
                ·exact pt_
                refine pure_ (i := 2) (N := some 90) (v := undef) (a' := ?_) #[true, true, true, false, false, false, false, false, false, false] rfl rfl (any_of HT_.out (by kernel_rfl)) (fun _ _ _ h => h) (Or.inr ⟨by rfl, rfl⟩) ?_ ?_
                rotate_left
                ·exact pt_
                refine pure_ (i := 3) (N := some 91) (v := undef) (a' := ?_) #[true, true, true, true, false, false, false, false, false, false] rfl rfl (any_of HT_.out (by kernel_rfl)) (fun _ _ _ h => h) (Or.inr ⟨by rfl, rfl⟩) ?_ ?_
                rotate_left
                ·exact pt_
                refine pure_ (i := 4) (N := some 92) (v := undef) (a' := ?_) #[true, true, true, true, true, false, false, false, false, false] rfl rfl (any_of HT_.out (by kernel_rfl)) (fun _ _ _ h => h) (Or.inr ⟨by rfl, rfl⟩) ?_ ?_
                rotate_left
                ·exact pt_
                refine pure_ (i := 5) (N := some 93) (v := undef) (a' := ?_) #[true, true, true, true, true, true, false, false, false, false] rfl rfl (any_of HT_.out (by kernel_rfl)) (fun _ _ _ h => h) (Or.inr ⟨by rfl, rfl⟩) ?_ ?_
                rotate_left
                ·exact pt_
                refine pure_ (i := 6) (N := some 94) (v := undef) (a' := ?_) #[true, true, true, true, true, true, true, false, false, false] rfl rfl (any_of HT_.out (by kernel_rfl)) (fun _ _ _ h => h) (Or.inr ⟨by rfl, rfl⟩) ?_ ?_
                rotate_left
                ·exact pt_
                refine pure_ (i := 7) (N := some 95) (v := undef) (a' := ?_) #[true, true, true, true, true, true, true, true, false, false] rfl rfl (any_of HT_.out (by kernel_rfl)) (fun _ _ _ h => h) (Or.inr ⟨by rfl, rfl⟩) ?_ ?_
                rotate_left
                ·exact pt_
                refine pure_ (i := 8) (N := some 96) (v := ?_) (a' := ?_) #[true, true, true, true, true, true, true, true, true, false] rfl rfl (any_of HT_.out (by kernel_rfl)) (fun _ _ _ h => h) (Or.inl ⟨by rfl, ?_⟩) ?_ ?_
                rotate_left
                ·intro w'
                 go_simp
                 with_reducible rfl
                rotate_left
                ·exact pt_
                refine pure_ (i := 9) (N := some 11) (v := ?_) (a' := ?_) #[true, true, true, true, true, true, true, true, true, true] rfl rfl (any_of HT_.out (by kernel_rfl)) (fun _ _ _ h => h) (Or.inl ⟨by rfl, ?_⟩) ?_ ?_
                rotate_left
                ·intro w'
                 go_simp
                 with_reducible rfl
                rotate_left
                ·exact pt_
                refine done_ (done_of HT_.out (by kernel_rfl)) ?_
                try go_wp2
                go_roundg k4
                case measure => have := HK1.out; have := HK2.out; have := HJ7.out; have := HK4.out; omega
                case rel => exact ⟨(true), (wrap64 (x12_4 + 1)), eq_, eq_, H', ⟨by have := HK1.out; have := HK2.out; have := HJ7.out; have := HK4.out; omega⟩, ⟨by refine kr_ ?_; exact HO_4.out⟩, ⟨by refine bs_ ?_; exact BK597.out⟩, ⟨by repeat (first | (with_reducible first | exact HB.out | apply below_alloc | apply pw_below_drewN | apply below_drew1 | refine below_set ?_ GE597.out) | exact HB.out)⟩⟩
               ·replace c16 := Bool.eq_false_iff.mpr c16
                subst c16
                have H1 : (if 0 ≤ x12_4 then (clochelaw01_DiscsFound.l2 k4 (wrap64 (1 + (Int.tmod (wrap64 (a0)) 100))) t589 (wrap64 (x6_2 + 1)) x7_1 x8_2 (((rd_T23 t589 x12_4).f0) == t593 && (((rd_T23 t589 x12_4).f1) == t594 && (((rd_T23 t589 x12_4).f2) == t595 && (((rd_T23 t589 x12_4).f3) == t596)))) (wrap64 (x12_4 + 1)) t593 t594 t595 t596) else (none)) = some r := by rw [if_neg (show ¬ (false = true) by decide)] at H; exact H
                clear H
                have H := H1
                clear H1
                by_cases c19 : 0 ≤ x12_4
                ·rw [if_pos c19] at H
                 have c19b0 : decide (0 ≤ x12_4) = true := decide_eq_true c19
                 clear c19
                 have H' := Aside0.mk H
                 clear H
                 obtain ⟨Ao20, co20, eo20⟩ := Kd.R_slice HO_4.out
                 subst eo20
                 try go_wp2
                 have n0_ := Aside0.mk (Kd.R_drew HO_4.out)
                 have n1_ := Aside0.mk (blk_drew BK597.out)
                 have n2_ := Aside0.mk (below_drew1 HB.out)
                 clear HO_4
                 clear BK597
                 clear HB
                 have HO_4 := n0_
                 have BK597 := n1_
                 have HB := n2_
                 clear n0_ n1_ n2_
                 have p598 : 0 ≤ (x12_4 : Int) := of_decide_eq_true as_
                 have q598 : x12_4 < (t589.length : Int) := of_decide_eq_true as_
                 obtain ⟨ad598, e598, hx598_0, hx598_1, hx598_2, hx598_3⟩ := at_T23 (Kd.R_reads' HO_4.out).2.2 x12_4 p598 q598
                 cases e598
                 replace p598 := eq_true p598
                 replace q598 := eq_true q598
                 refine start_ (n := 10) (S := fun w' => w'.cell? ⟨gb597, 0, none⟩ = some (.int .i64 t593) ∧ w'.cell? ⟨gb597, 1, none⟩ = some (.int .i64 t594) ∧ w'.cell? ⟨gb597, 2, none⟩ = some (.int .i64 t595) ∧ w'.cell? ⟨gb597, 3, none⟩ = some (.int .i64 t596) ∧ w'.cell? (ad598.add ((x12_4).toNat * 4)) = some (.int .i64 ((rd_T23 t589 x12_4).f0)) ∧ w'.cell? ⟨(ad598.add ((x12_4).toNat * 4)).block, (ad598.add ((x12_4).toNat * 4)).off + 1, none⟩ = some (.int .i64 ((rd_T23 t589 x12_4).f1)) ∧ w'.cell? ⟨(ad598.add ((x12_4).toNat * 4)).block, (ad598.add ((x12_4).toNat * 4)).off + 2, none⟩ = some (.int .i64 ((rd_T23 t589 x12_4).f2)) ∧ w'.cell? ⟨(ad598.add ((x12_4).toNat * 4)).block, (ad598.add ((x12_4).toNat * 4)).off + 3, none⟩ = some (.int .i64 ((rd_T23 t589 x12_4).f3))) (ds := []) #[false, false, false, false, false, false, false, false, false, false] (by kernel_rfl) rfl rfl ⟨(blk_cell BK597.out 0).trans rfl, (blk_cell BK597.out 1).trans rfl, (blk_cell BK597.out 2).trans rfl, (blk_cell BK597.out 3).trans rfl, hx598_0, hx598_1, hx598_2, hx598_3⟩ (fun hHeld => ?_); refine with_tabW clochelaw01_DiscsFound.tab20 clochelaw01_DiscsFound.bits20 (fun HT_ HW_ => ?_)
                 generalize wr.drew = w21 at HO_4 BK597 HB hx598_0 hx598_1 hx598_2 hx598_3 hHeld ⊢
                 refine pure_ (i := 0) (N := some 88) (v := ?_) (a' := ?_) #[true, false, false, false, false, false, false, false, false, false] rfl rfl (any_of HT_.out (by kernel_rfl)) (fun _ _ _ h => h) (Or.inl ⟨by rfl, ?_⟩) ?_ ?_
                 rotate_left
                 ·intro w'
                  go_simp
                  with_reducible rfl
                 rotate_left
                 ·exact pt_
                 refine pure_ (i := 1) (N := some 89) (v := ?_) (a' := ?_) #[true, true, false, false, false, false, false, false, false, false] rfl rfl (any_of HT_.out (by kernel_rfl)) (fun _ _ _ h => h) (Or.inl ⟨by rfl, ?_⟩) ?_ ?_
                 rotate_left
                 ·intro w'
                  go_simp
                  with_reducible rfl
                 rotate_left
                 ·exact pt_
                 refine pure_ (i := 2) (N := some 90) (v := ?_) (a' := ?_) #[true, true, true, false, false, false, false, false, false, false] rfl rfl (any_of HT_.out (by kernel_rfl)) (fun _ _ _ h => h) (Or.inl ⟨by rfl, ?_⟩) ?_ ?_
                 rotate_left
                 ·intro w'
                  go_simp
                  with_reducible rfl
                 rotate_left
                 ·exact pt_
                 refine pure_ (i := 3) (N := some 91) (v := ?_) (a' := ?_) #[true, true, true, true, false, false, false, false, false, false] rfl rfl (any_of HT_.out (by kernel_rfl)) (fun _ _ _ h => h) (Or.inl ⟨by rfl, ?_⟩) ?_ ?_
                 rotate_left
                 ·intro w'
                  go_simp
                  with_reducible rfl
                 rotate_left
                 ·exact pt_
                 refine pure_ (i := 4) (N := some 92) (v := ?_) (a' := ?_) #[true, true, true, true, true, false, false, false, false, false] rfl rfl (any_of HT_.out (by kernel_rfl)) (fun _ _ _ h => h) (Or.inl ⟨by rfl, ?_⟩) ?_ ?_
                 rotate_left
                 ·intro w'
                  go_simp
                  with_reducible rfl
                 rotate_left
                 ·exact pt_
                 refine take_ (i := 5) (N := some 93) (v := ?_) (a' := ?_) #[true, true, true, true, true, true, false, false, false, false] rfl rfl (take_ofW HT_.out HW_.out (by kernel_rfl)) (fun _ _ _ h => h) (Or.inl ⟨by rfl, ?_⟩) hHeld ?_ ?_
                 rotate_left
                 ·rintro w' ⟨s0, s1, s2, s3, s4, s5, s6, s7⟩
                  go_simp
                  with_reducible rfl
                 rotate_left
                 ·exact pt_
                 refine take_ (i := 6) (N := some 94) (v := ?_) (a' := ?_) #[true, true, true, true, true, true, true, false, false, false] rfl rfl (take_ofW HT_.out HW_.out (by kernel_rfl)) (fun _ _ _ h => h) (Or.inl ⟨by rfl, ?_⟩) hHeld ?_ ?_
                 rotate_left
                 ·rintro w' ⟨s0, s1, s2, s3, s4, s5, s6, s7⟩
                  go_simp
                  with_reducible rfl
                 rotate_left
                 ·exact pt_
                 refine pure_ (i := 7) (N := some 95) (v := ?_) (a' := ?_) #[true, true, true, true, true, true, true, true, false, false] rfl rfl (any_of HT_.out (by kernel_rfl)) (fun _ _ _ h => h) (Or.inl ⟨by rfl, ?_⟩) ?_ ?_
                 rotate_left
                 ·intro w'
                  go_simp
                  with_reducible rfl
                 rotate_left
                 ·exact pt_
                 refine pure_ (i := 8) (N := some 96) (v := ?_) (a' := ?_) #[true, true, true, true, true, true, true, true, true, false] rfl rfl (any_of HT_.out (by kernel_rfl)) (fun _ _ _ h => h) (Or.inl ⟨by rfl, ?_⟩) ?_ ?_
                 rotate_left
                 ·intro w'
                  go_simp
                  with_reducible rfl
                 rotate_left
                 ·exact pt_
                 refine pure_ (i := 9) (N := some 11) (v := ?_) (a' := ?_) #[true, true, true, true, true, true, true, true, true, true] rfl rfl (any_of HT_.out (by kernel_rfl)) (fun _ _ _ h => h) (Or.inl ⟨by rfl, ?_⟩) ?_ ?_
                 rotate_left
                 ·intro w'
                  go_simp
                  with_reducible rfl
                 rotate_left
                 ·exact pt_
                 refine done_ (done_of HT_.out (by kernel_rfl)) ?_
                 try go_wp2
                 go_roundg k4
                 case measure => have := HK1.out; have := HK2.out; have := HJ7.out; have := HK4.out; omega
                 case rel => exact ⟨((((rd_T23 t589 x12_4).f0) == t593 && (((rd_T23 t589 x12_4).f1) == t594 && (((rd_T23 t589 x12_4).f2) == t595 && (((rd_T23 t589 x12_4).f3) == t596))))), (wrap64 (x12_4 + 1)), eq_, eq_, H', ⟨by have := HK1.out; have := HK2.out; have := HJ7.out; have := HK4.out; omega⟩, ⟨by refine kr_ ?_; exact HO_4.out⟩, ⟨by refine bs_ ?_; exact BK597.out⟩, ⟨by repeat (first | (with_reducible first | exact HB.out | apply below_alloc | apply pw_below_drewN | apply below_drew1 | refine below_set ?_ GE597.out) | exact HB.out)⟩⟩
                ·rw [if_neg c19] at H
                 exact absurd H (by simp)
              ·rw [if_neg c15] at H
               have c15b0 : decide (x12_4 < (t589.length : Int)) = false := decide_eq_false c15
               clear c15
               by_cases c22 : x11_4 = true
               ·subst c22
                have H1 : (clochelaw01_DiscsFound.l1 k4 (wrap64 (1 + (Int.tmod (wrap64 (a0)) 100))) t589 (wrap64 (x6_2 + 1)) x7_1 (wrap64 (x8_2 + 1))) = some r := by rw [if_pos rfl] at H; exact H
                clear H
                have H := H1
                clear H1
                have H' := Aside0.mk H
                clear H
                obtain ⟨Ao23, co23, eo23⟩ := Kd.R_slice HO_4.out
                subst eo23
                go_wp2
                go_roundg k4
                case measure => have := HK1.out; have := HK2.out; have := HJ7.out; have := HK4.out; omega
                case rel => exact ⟨((wrap64 (x6_2 + 1))), (wrap64 (x8_2 + 1)), eq_, eq_, H', ⟨by have := HK1.out; have := HK2.out; have := HJ7.out; have := HK4.out; omega⟩, ⟨by refine kr_ ?_; exact Kd.R_mono HO_4.out (fun _ hk => trivial)⟩, ⟨by repeat (first | (with_reducible first | exact HB.out | apply below_alloc | apply pw_below_drewN | apply below_drew1 | refine below_set ?_ GE597.out) | exact HB.out)⟩⟩
               ·replace c22 := Bool.eq_false_iff.mpr c22
                subst c22
                have H1 : (none) = some r := by rw [if_neg (show ¬ (false = true) by decide)] at H; exact H
                clear H
                have H := H1
                clear H1
                exact absurd H (by simp)
       ·rw [if_neg c6] at H
        have c6b0 : decide ((wrap64 (2 * x8_2)) ≤ x7_1) = false := decide_eq_false c6
        clear c6
        have H' := Aside0.mk H
        clear H
        go_wp2
        go_roundg k2
        case measure => have := HK1.out; have := HK2.out; omega
        case rel => exact ⟨(x6_2), (wrap64 (x7_1 + 1)), eq_, eq_, H', ⟨by have := HK1.out; have := HK2.out; omega⟩, ⟨by refine kr_ ?_; exact HO_4.out⟩, ⟨by repeat (first | (with_reducible first | exact HB.out | apply below_alloc | apply pw_below_drewN | apply below_drew1) | exact HB.out)⟩⟩
    ·rw [if_neg c5] at H
     have c5b0 : decide (x7_1 ≤ (wrap64 (2 * (wrap64 (1 + (Int.tmod (wrap64 (a0)) 100)))))) = false := decide_eq_false c5
     clear c5
     have H' := Aside0.mk H
     clear H
     go_wp2
     go_loopg [13] k1 (fun kq v13 w' => ∃ (x13_2 : Int), v13 = .int .i64 x13_2 ∧ Aside0 (clochelaw01_DiscsFound.l3 kq (wrap64 (1 + (Int.tmod (wrap64 (a0)) 100))) t589 x6_1 x13_2 = some r) ∧ Aside0 (kq ≤ k1) ∧ Aside0 (Kd.R k23 23 w' w.heap.size (fun _ => True) v591 t589) ∧ Aside0 (Below w.heap.size w w'))
     case atStart => exact ⟨(0), eq_, H', ⟨Nat.le_refl _⟩, ⟨by refine kr_ ?_; exact HO_4.out⟩, ⟨by repeat (first | (with_reducible first | exact HB.out | apply below_alloc | apply pw_below_drewN | apply below_drew1) | exact HB.out)⟩⟩
     case round =>
      clear H'
      try clear c1
      try clear c2
      try clear p2
      try clear c3
      try clear c3b0
      try clear c3b1
      try clear c5
      try clear c5b0
      try clear p5
      try clear q5
      try clear hx5
      try clear c6
      try clear c6b0
      try clear p6
      try clear c7
      try clear c7b0
      try clear c7b1
      try clear c9
      try clear c9b0
      try clear c9b1
      try clear c10
      try clear c15
      try clear c15b0
      try clear c16
      try clear c19
      try clear c19b0
      try clear c20
      try clear c22
      try clear hcz14_0
      try clear hcz14_1
      try clear hcz14_2
      try clear hcz14_3
      try clear hfz14_0
      try clear hfz14_1
      try clear hfz14_2
      try clear hfz14_3
      try clear hx598_0
      try clear hx598_1
      try clear hx598_2
      try clear hx598_3
      try clear p2
      try clear p598
      try clear p6
      try clear q598
      obtain ⟨x13_2, rfl, HA, HK2, HO_4, HB⟩ := hrel
      cases gk with
      | zero => exact absurd HA.out (by simp [clochelaw01_DiscsFound.l3])
      | succ k2 =>
       have H := HA.out
       clear HA
       simp only [clochelaw01_DiscsFound.l3] at H
       by_cases c24 : x13_2 < (t589.length : Int)
       ·rw [if_pos c24] at H
        have c24b0 : decide (x13_2 < (t589.length : Int)) = true := decide_eq_true c24
        clear c24
        by_cases c25 : 0 ≤ x13_2
        ·rw [if_pos c25] at H
         have c25b0 : decide (0 ≤ x13_2) = true := decide_eq_true c25
         clear c25
         replace H := Option.bind_eq_some_iff.mp H
         obtain ⟨t601, A260, H⟩ := H
         replace H : (if t601 = true then (if ((rd_T23 t589 x13_2).f0) = (wrap64 (-(wrap64 (1 + (Int.tmod (wrap64 (a0)) 100))))) then (if x13_2 > 0 then (if 0 ≤ (wrap64 (x13_2 - 1)) then (if (wrap64 (x13_2 - 1)) < (t589.length : Int) then ((clochelaw01_less.f k2 ((rd_T23 t589 (wrap64 (x13_2 - 1))).f0) ((rd_T23 t589 (wrap64 (x13_2 - 1))).f1) ((rd_T23 t589 (wrap64 (x13_2 - 1))).f2) ((rd_T23 t589 (wrap64 (x13_2 - 1))).f3) ((rd_T23 t589 x13_2).f0) ((rd_T23 t589 x13_2).f1) ((rd_T23 t589 x13_2).f2) ((rd_T23 t589 x13_2).f3)).bind fun t605 => (if t605 = true then (clochelaw01_DiscsFound.l3 k2 (wrap64 (1 + (Int.tmod (wrap64 (a0)) 100))) t589 x6_1 (wrap64 (x13_2 + 1))) else (none))) else (none)) else (none)) else (clochelaw01_DiscsFound.l3 k2 (wrap64 (1 + (Int.tmod (wrap64 (a0)) 100))) t589 x6_1 (wrap64 (x13_2 + 1)))) else (none)) else (none)) = some r := H
         have A26 := Aside0.mk A260
         clear A260
         by_cases c27 : t601 = true
         ·subst c27
          have H1 : (if ((rd_T23 t589 x13_2).f0) = (wrap64 (-(wrap64 (1 + (Int.tmod (wrap64 (a0)) 100))))) then (if x13_2 > 0 then (if 0 ≤ (wrap64 (x13_2 - 1)) then (if (wrap64 (x13_2 - 1)) < (t589.length : Int) then ((clochelaw01_less.f k2 ((rd_T23 t589 (wrap64 (x13_2 - 1))).f0) ((rd_T23 t589 (wrap64 (x13_2 - 1))).f1) ((rd_T23 t589 (wrap64 (x13_2 - 1))).f2) ((rd_T23 t589 (wrap64 (x13_2 - 1))).f3) ((rd_T23 t589 x13_2).f0) ((rd_T23 t589 x13_2).f1) ((rd_T23 t589 x13_2).f2) ((rd_T23 t589 x13_2).f3)).bind fun t605 => (if t605 = true then (clochelaw01_DiscsFound.l3 k2 (wrap64 (1 + (Int.tmod (wrap64 (a0)) 100))) t589 x6_1 (wrap64 (x13_2 + 1))) else (none))) else (none)) else (none)) else (clochelaw01_DiscsFound.l3 k2 (wrap64 (1 + (Int.tmod (wrap64 (a0)) 100))) t589 x6_1 (wrap64 (x13_2 + 1)))) else (none)) = some r := by rw [if_pos rfl] at H; exact H
          clear H
          have H := H1
          clear H1
          by_cases c28 : ((rd_T23 t589 x13_2).f0) = (wrap64 (-(wrap64 (1 + (Int.tmod (wrap64 (a0)) 100)))))
          ·rw [if_pos c28] at H
           have c28b0 : (((rd_T23 t589 x13_2).f0) == (wrap64 (-(wrap64 (1 + (Int.tmod (wrap64 (a0)) 100)))))) = true := beq_iff_eq.mpr c28
           have c28b1 : (((rd_T23 t589 x13_2).f0) != (wrap64 (-(wrap64 (1 + (Int.tmod (wrap64 (a0)) 100)))))) = false := bne_eq_false_iff_eq.mpr c28
           clear c28
           by_cases c29 : x13_2 > 0
           ·rw [if_pos c29] at H
            have c29b0 : decide (0 < x13_2) = true := decide_eq_true c29
            clear c29
            obtain ⟨ji30, hji30⟩ : ∃ j_ : Int, (wrap64 (x13_2 - 1)) = j_ := ⟨_, rfl⟩
            replace H : (if 0 ≤ (ji30) then (if (ji30) < (t589.length : Int) then ((clochelaw01_less.f k2 ((rd_T23 t589 (ji30)).f0) ((rd_T23 t589 (ji30)).f1) ((rd_T23 t589 (ji30)).f2) ((rd_T23 t589 (ji30)).f3) ((rd_T23 t589 x13_2).f0) ((rd_T23 t589 x13_2).f1) ((rd_T23 t589 x13_2).f2) ((rd_T23 t589 x13_2).f3)).bind fun t605 => (if t605 = true then (clochelaw01_DiscsFound.l3 k2 (wrap64 (1 + (Int.tmod (wrap64 (a0)) 100))) t589 x6_1 (wrap64 (x13_2 + 1))) else (none))) else (none)) else (none)) = some r := by first | (rw [hji30] at H; exact H) | (simp only [hji30] at H ⊢; exact H)
            (try rw [hji30] at A26)
            have hji30w : (IntKind.i64.wrap (x13_2 - 1)) = ji30 := (i64_w _).trans hji30
            by_cases c31 : 0 ≤ (ji30)
            ·rw [if_pos c31] at H
             have c31b0 : decide (0 ≤ (ji30)) = true := decide_eq_true c31
             clear c31
             by_cases c32 : (ji30) < (t589.length : Int)
             ·rw [if_pos c32] at H
              have c32b0 : decide ((ji30) < (t589.length : Int)) = true := decide_eq_true c32
              clear c32
              replace H := Option.bind_eq_some_iff.mp H
              obtain ⟨t605, A330, H⟩ := H
              replace H : (if t605 = true then (clochelaw01_DiscsFound.l3 k2 (wrap64 (1 + (Int.tmod (wrap64 (a0)) 100))) t589 x6_1 (wrap64 (x13_2 + 1))) else (none)) = some r := H
              have A33 := Aside0.mk A330
              clear A330
              by_cases c34 : t605 = true
              ·subst c34
               have H1 : (clochelaw01_DiscsFound.l3 k2 (wrap64 (1 + (Int.tmod (wrap64 (a0)) 100))) t589 x6_1 (wrap64 (x13_2 + 1))) = some r := by rw [if_pos rfl] at H; exact H
               clear H
               have H := H1
               clear H1
               have H' := Aside0.mk H
               clear H
               obtain ⟨Ao35, co35, eo35⟩ := Kd.R_slice HO_4.out
               subst eo35
               try go_wp2
               have n0_ := Aside0.mk (Kd.R_drew HO_4.out)
               have n1_ := Aside0.mk (below_drew1 HB.out)
               clear HO_4
               clear HB
               have HO_4 := n0_
               have HB := n1_
               clear n0_ n1_
               have p600 : 0 ≤ (x13_2 : Int) := of_decide_eq_true as_
               have q600 : x13_2 < (t589.length : Int) := of_decide_eq_true as_
               obtain ⟨ad600, e600, hx600_0, hx600_1, hx600_2, hx600_3⟩ := at_T23 (Kd.R_reads' HO_4.out).2.2 x13_2 p600 q600
               cases e600
               replace p600 := eq_true p600
               replace q600 := eq_true q600
               have p602 : 0 ≤ (x13_2 : Int) := of_decide_eq_true as_
               have q602 : x13_2 < (t589.length : Int) := of_decide_eq_true as_
               obtain ⟨ad602, e602, hx602_0, hx602_1, hx602_2, hx602_3⟩ := at_T23 (Kd.R_reads' HO_4.out).2.2 x13_2 p602 q602
               obtain rfl : ad600 = ad602 := (by injection e602)
               replace p602 := eq_true p602
               replace q602 := eq_true q602
               have p603 : 0 ≤ ((ji30) : Int) := of_decide_eq_true as_
               have q603 : (ji30) < (t589.length : Int) := of_decide_eq_true as_
               obtain ⟨ad603, e603, hx603_0, hx603_1, hx603_2, hx603_3⟩ := at_T23 (Kd.R_reads' HO_4.out).2.2 (ji30) p603 q603
               obtain rfl : ad600 = ad603 := (by injection e603)
               replace p603 := eq_true p603
               replace q603 := eq_true q603
               have p604 : 0 ≤ (x13_2 : Int) := of_decide_eq_true as_
               have q604 : x13_2 < (t589.length : Int) := of_decide_eq_true as_
               obtain ⟨ad604, e604, hx604_0, hx604_1, hx604_2, hx604_3⟩ := at_T23 (Kd.R_reads' HO_4.out).2.2 x13_2 p604 q604
               obtain rfl : ad600 = ad604 := (by injection e604)
               replace p604 := eq_true p604
               replace q604 := eq_true q604
               refine start_ (n := 33) (S := fun w' => w'.cell? (ad600.add ((x13_2).toNat * 4)) = some (.int .i64 ((rd_T23 t589 x13_2).f0)) ∧ w'.cell? ⟨(ad600.add ((x13_2).toNat * 4)).block, (ad600.add ((x13_2).toNat * 4)).off + 1, none⟩ = some (.int .i64 ((rd_T23 t589 x13_2).f1)) ∧ w'.cell? ⟨(ad600.add ((x13_2).toNat * 4)).block, (ad600.add ((x13_2).toNat * 4)).off + 2, none⟩ = some (.int .i64 ((rd_T23 t589 x13_2).f2)) ∧ w'.cell? ⟨(ad600.add ((x13_2).toNat * 4)).block, (ad600.add ((x13_2).toNat * 4)).off + 3, none⟩ = some (.int .i64 ((rd_T23 t589 x13_2).f3)) ∧ w'.cell? (ad600.add ((x13_2).toNat * 4)) = some (.int .i64 ((rd_T23 t589 x13_2).f0)) ∧ w'.cell? ⟨(ad600.add ((x13_2).toNat * 4)).block, (ad600.add ((x13_2).toNat * 4)).off + 1, none⟩ = some (.int .i64 ((rd_T23 t589 x13_2).f1)) ∧ w'.cell? ⟨(ad600.add ((x13_2).toNat * 4)).block, (ad600.add ((x13_2).toNat * 4)).off + 2, none⟩ = some (.int .i64 ((rd_T23 t589 x13_2).f2)) ∧ w'.cell? ⟨(ad600.add ((x13_2).toNat * 4)).block, (ad600.add ((x13_2).toNat * 4)).off + 3, none⟩ = some (.int .i64 ((rd_T23 t589 x13_2).f3)) ∧ w'.cell? (ad600.add (((ji30)).toNat * 4)) = some (.int .i64 ((rd_T23 t589 (ji30)).f0)) ∧ w'.cell? ⟨(ad600.add (((ji30)).toNat * 4)).block, (ad600.add (((ji30)).toNat * 4)).off + 1, none⟩ = some (.int .i64 ((rd_T23 t589 (ji30)).f1)) ∧ w'.cell? ⟨(ad600.add (((ji30)).toNat * 4)).block, (ad600.add (((ji30)).toNat * 4)).off + 2, none⟩ = some (.int .i64 ((rd_T23 t589 (ji30)).f2)) ∧ w'.cell? ⟨(ad600.add (((ji30)).toNat * 4)).block, (ad600.add (((ji30)).toNat * 4)).off + 3, none⟩ = some (.int .i64 ((rd_T23 t589 (ji30)).f3)) ∧ w'.cell? (ad600.add ((x13_2).toNat * 4)) = some (.int .i64 ((rd_T23 t589 x13_2).f0)) ∧ w'.cell? ⟨(ad600.add ((x13_2).toNat * 4)).block, (ad600.add ((x13_2).toNat * 4)).off + 1, none⟩ = some (.int .i64 ((rd_T23 t589 x13_2).f1)) ∧ w'.cell? ⟨(ad600.add ((x13_2).toNat * 4)).block, (ad600.add ((x13_2).toNat * 4)).off + 2, none⟩ = some (.int .i64 ((rd_T23 t589 x13_2).f2)) ∧ w'.cell? ⟨(ad600.add ((x13_2).toNat * 4)).block, (ad600.add ((x13_2).toNat * 4)).off + 3, none⟩ = some (.int .i64 ((rd_T23 t589 x13_2).f3))) (ds := []) #[false, false, false, false, false, false, false, false, false, false, false, false, false, false, false, false, false, false, false, false, false, false, false, false, false, false, false, false, false, false, false, false, false] (by kernel_rfl) rfl rfl ⟨hx600_0, hx600_1, hx600_2, hx600_3, hx602_0, hx602_1, hx602_2, hx602_3, hx603_0, hx603_1, hx603_2, hx603_3, hx604_0, hx604_1, hx604_2, hx604_3⟩ (fun hHeld => ?_); refine with_tabW clochelaw01_DiscsFound.tab26 clochelaw01_DiscsFound.bits26 (fun HT_ HW_ => ?_)
               generalize wr.drew = w36 at HO_4 HB hx600_0 hx600_1 hx600_2 hx600_3 hx602_0 hx602_1 hx602_2 hx602_3 hx603_0 hx603_1 hx603_2 hx603_3 hx604_0 hx604_1 hx604_2 hx604_3 hHeld ⊢
               refine pure_ (i := 0) (N := some 105) (v := ?_) (a' := ?_) #[true, false, false, false, false, false, false, false, false, false, false, false, false, false, false, false, false, false, false, false, false, false, false, false, false, false, false, false, false, false, false, false, false] rfl rfl (any_of HT_.out (by kernel_rfl)) (fun _ _ _ h => h) (Or.inl ⟨by rfl, ?_⟩) ?_ ?_
               rotate_left
               ·intro w'
                go_simp
                with_reducible rfl
               rotate_left
               ·exact pt_
               refine pure_ (i := 1) (N := some 106) (v := ?_) (a' := ?_) #[true, true, false, false, false, false, false, false, false, false, false, false, false, false, false, false, false, false, false, false, false, false, false, false, false, false, false, false, false, false, false, false, false] rfl rfl (any_of HT_.out (by kernel_rfl)) (fun _ _ _ h => h) (Or.inl ⟨by rfl, ?_⟩) ?_ ?_
               rotate_left
               ·intro w'
                go_simp
                with_reducible rfl
               rotate_left
               ·exact pt_
               refine pure_ (i := 2) (N := some 107) (v := ?_) (a' := ?_) #[true, true, true, false, false, false, false, false, false, false, false, false, false, false, false, false, false, false, false, false, false, false, false, false, false, false, false, false, false, false, false, false, false] rfl rfl (any_of HT_.out (by kernel_rfl)) (fun _ _ _ h => h) (Or.inl ⟨by rfl, ?_⟩) ?_ ?_
               rotate_left
               ·intro w'
                go_simp
                with_reducible rfl
               rotate_left
               ·exact pt_
               refine take_ (i := 3) (N := some 108) (v := ?_) (a' := ?_) #[true, true, true, true, false, false, false, false, false, false, false, false, false, false, false, false, false, false, false, false, false, false, false, false, false, false, false, false, false, false, false, false, false] rfl rfl (take_ofW HT_.out HW_.out (by kernel_rfl)) (fun _ _ _ h => h) (Or.inl ⟨by rfl, ?_⟩) hHeld ?_ ?_
               rotate_left
               ·rintro w' ⟨s0, s1, s2, s3, s4, s5, s6, s7, s8, s9, s10, s11, s12, s13, s14, s15⟩
                go_simp
                with_reducible rfl
               rotate_left
               ·exact pt_
               refine one_ (i := 4) (N := some 109) #[true, true, true, true, true, false, false, false, false, false, false, false, false, false, false, false, false, false, false, false, false, false, false, false, false, false, false, false, false, false, false, false, false] rfl rfl (one_of HT_.out (by kernel_rfl)) (by decide) (fun K hK => ?_)
               refine goes_ Try.func33 (by kernel_rfl) rfl #[.agg #[.int .i64 ((rd_T23 t589 x13_2).f0), .int .i64 ((rd_T23 t589 x13_2).f1), .int .i64 ((rd_T23 t589 x13_2).f2), .int .i64 ((rd_T23 t589 x13_2).f3)]] (by rfl) rfl rfl mp_ ?_
               with_reducible refine (discs_IsRoot.calls k2 ((rd_T23 t589 x13_2).f0) ((rd_T23 t589 x13_2).f1) ((rd_T23 t589 x13_2).f2) ((rd_T23 t589 x13_2).f3) true _ A26.out).mono ?_
               rintro e w37 ⟨rfl, hb⟩
               have HS0_ := (hb.cell (World.block_lt_of_cell? _ _ (hHeld.1))).trans (hHeld.1)
               have HS1_ := (hb.cell (World.block_lt_of_cell? _ _ (hHeld.2.1))).trans (hHeld.2.1)
               have HS2_ := (hb.cell (World.block_lt_of_cell? _ _ (hHeld.2.2.1))).trans (hHeld.2.2.1)
               have HS3_ := (hb.cell (World.block_lt_of_cell? _ _ (hHeld.2.2.2.1))).trans (hHeld.2.2.2.1)
               have HS4_ := (hb.cell (World.block_lt_of_cell? _ _ (hHeld.2.2.2.2.1))).trans (hHeld.2.2.2.2.1)
               have HS5_ := (hb.cell (World.block_lt_of_cell? _ _ (hHeld.2.2.2.2.2.1))).trans (hHeld.2.2.2.2.2.1)
               have HS6_ := (hb.cell (World.block_lt_of_cell? _ _ (hHeld.2.2.2.2.2.2.1))).trans (hHeld.2.2.2.2.2.2.1)
               have HS7_ := (hb.cell (World.block_lt_of_cell? _ _ (hHeld.2.2.2.2.2.2.2.1))).trans (hHeld.2.2.2.2.2.2.2.1)
               have HS8_ := (hb.cell (World.block_lt_of_cell? _ _ (hHeld.2.2.2.2.2.2.2.2.1))).trans (hHeld.2.2.2.2.2.2.2.2.1)
               have HS9_ := (hb.cell (World.block_lt_of_cell? _ _ (hHeld.2.2.2.2.2.2.2.2.2.1))).trans (hHeld.2.2.2.2.2.2.2.2.2.1)
               have HS10_ := (hb.cell (World.block_lt_of_cell? _ _ (hHeld.2.2.2.2.2.2.2.2.2.2.1))).trans (hHeld.2.2.2.2.2.2.2.2.2.2.1)
               have HS11_ := (hb.cell (World.block_lt_of_cell? _ _ (hHeld.2.2.2.2.2.2.2.2.2.2.2.1))).trans (hHeld.2.2.2.2.2.2.2.2.2.2.2.1)
               have HS12_ := (hb.cell (World.block_lt_of_cell? _ _ (hHeld.2.2.2.2.2.2.2.2.2.2.2.2.1))).trans (hHeld.2.2.2.2.2.2.2.2.2.2.2.2.1)
               have HS13_ := (hb.cell (World.block_lt_of_cell? _ _ (hHeld.2.2.2.2.2.2.2.2.2.2.2.2.2.1))).trans (hHeld.2.2.2.2.2.2.2.2.2.2.2.2.2.1)
               have HS14_ := (hb.cell (World.block_lt_of_cell? _ _ (hHeld.2.2.2.2.2.2.2.2.2.2.2.2.2.2.1))).trans (hHeld.2.2.2.2.2.2.2.2.2.2.2.2.2.2.1)
               have HS15_ := (hb.cell (World.block_lt_of_cell? _ _ (hHeld.2.2.2.2.2.2.2.2.2.2.2.2.2.2.2))).trans (hHeld.2.2.2.2.2.2.2.2.2.2.2.2.2.2.2)
               refine ⟨_, rfl, ?_⟩
               have n0_ := Aside0.mk (Kd.R_below (by refine kr_ ?_; exact HO_4.out) hb)
               have n1_ := Aside0.mk (below_step (lw_ HB.out) hb)
               clear HO_4
               clear HB
               have HO_4 := n0_
               have HB := n1_
               clear n0_ n1_
               (try clear hb)
               (try clear hb2)
               (try clear hk)
               (try clear hi)
               refine hK.out _ _ ⟨HS0_, HS1_, HS2_, HS3_, HS4_, HS5_, HS6_, HS7_, HS8_, HS9_, HS10_, HS11_, HS12_, HS13_, HS14_, HS15_⟩ (fun hHeld => ?_)
               clear hK K
               refine norm_ (a' := ?_) ?_ ?_
               rotate_left
               ·show Act.put _ (some 109) _ = _
                exact pt_
               refine pure_ (i := 5) (N := some 110) (v := ?_) (a' := ?_) #[true, true, true, true, true, true, false, false, false, false, false, false, false, false, false, false, false, false, false, false, false, false, false, false, false, false, false, false, false, false, false, false, false] rfl rfl (any_of HT_.out (by kernel_rfl)) (fun _ _ _ h => h) (Or.inl ⟨by rfl, ?_⟩) ?_ ?_
               rotate_left
               ·intro w'
                go_simp
                with_reducible rfl
               rotate_left
               ·exact pt_
               refine pure_ (i := 6) (N := some 111) (v := ?_) (a' := ?_) #[true, true, true, true, true, true, true, false, false, false, false, false, false, false, false, false, false, false, false, false, false, false, false, false, false, false, false, false, false, false, false, false, false] rfl rfl (any_of HT_.out (by kernel_rfl)) (fun _ _ _ h => h) (Or.inl ⟨by rfl, ?_⟩) ?_ ?_
               rotate_left
               ·intro w'
                go_simp
                with_reducible rfl
               rotate_left
               ·exact pt_
               refine pure_ (i := 7) (N := some 112) (v := ?_) (a' := ?_) #[true, true, true, true, true, true, true, true, false, false, false, false, false, false, false, false, false, false, false, false, false, false, false, false, false, false, false, false, false, false, false, false, false] rfl rfl (any_of HT_.out (by kernel_rfl)) (fun _ _ _ h => h) (Or.inl ⟨by rfl, ?_⟩) ?_ ?_
               rotate_left
               ·intro w'
                go_simp
                with_reducible rfl
               rotate_left
               ·exact pt_
               refine pure_ (i := 8) (N := some 113) (v := ?_) (a' := ?_) #[true, true, true, true, true, true, true, true, true, false, false, false, false, false, false, false, false, false, false, false, false, false, false, false, false, false, false, false, false, false, false, false, false] rfl rfl (any_of HT_.out (by kernel_rfl)) (fun _ _ _ h => h) (Or.inl ⟨by rfl, ?_⟩) ?_ ?_
               rotate_left
               ·intro w'
                go_simp
                with_reducible rfl
               rotate_left
               ·exact pt_
               refine pure_ (i := 9) (N := some 114) (v := ?_) (a' := ?_) #[true, true, true, true, true, true, true, true, true, true, false, false, false, false, false, false, false, false, false, false, false, false, false, false, false, false, false, false, false, false, false, false, false] rfl rfl (any_of HT_.out (by kernel_rfl)) (fun _ _ _ h => h) (Or.inl ⟨by rfl, ?_⟩) ?_ ?_
               rotate_left
               ·intro w'
                go_simp
                with_reducible rfl
               rotate_left
               ·exact pt_
               refine pure_ (i := 10) (N := some 115) (v := ?_) (a' := ?_) #[true, true, true, true, true, true, true, true, true, true, true, false, false, false, false, false, false, false, false, false, false, false, false, false, false, false, false, false, false, false, false, false, false] rfl rfl (any_of HT_.out (by kernel_rfl)) (fun _ _ _ h => h) (Or.inl ⟨by rfl, ?_⟩) ?_ ?_
               rotate_left
               ·intro w'
                go_simp
                with_reducible rfl
               rotate_left
               ·exact pt_
               refine pure_ (i := 12) (N := some 117) (v := ?_) (a' := ?_) #[true, true, true, true, true, true, true, true, true, true, true, false, true, false, false, false, false, false, false, false, false, false, false, false, false, false, false, false, false, false, false, false, false] rfl rfl (any_of HT_.out (by kernel_rfl)) (fun _ _ _ h => h) (Or.inl ⟨by rfl, ?_⟩) ?_ ?_
               rotate_left
               ·intro w'
                go_simp
                with_reducible rfl
               rotate_left
               ·exact pt_
               refine pure_ (i := 13) (N := some 118) (v := ?_) (a' := ?_) #[true, true, true, true, true, true, true, true, true, true, true, false, true, true, false, false, false, false, false, false, false, false, false, false, false, false, false, false, false, false, false, false, false] rfl rfl (any_of HT_.out (by kernel_rfl)) (fun _ _ _ h => h) (Or.inl ⟨by rfl, ?_⟩) ?_ ?_
               rotate_left
               ·intro w'
                go_simp
                with_reducible rfl
               rotate_left
               ·exact pt_
               refine take_ (i := 11) (N := some 116) (v := ?_) (a' := ?_) #[true, true, true, true, true, true, true, true, true, true, true, true, true, true, false, false, false, false, false, false, false, false, false, false, false, false, false, false, false, false, false, false, false] rfl rfl (take_ofW HT_.out HW_.out (by kernel_rfl)) (fun _ _ _ h => h) (Or.inl ⟨by rfl, ?_⟩) hHeld ?_ ?_
               rotate_left
               ·rintro w' ⟨s0, s1, s2, s3, s4, s5, s6, s7, s8, s9, s10, s11, s12, s13, s14, s15⟩
                go_simp
                with_reducible rfl
               rotate_left
               ·exact pt_
               refine pure_ (i := 14) (N := some 119) (v := ?_) (a' := ?_) #[true, true, true, true, true, true, true, true, true, true, true, true, true, true, true, false, false, false, false, false, false, false, false, false, false, false, false, false, false, false, false, false, false] rfl rfl (any_of HT_.out (by kernel_rfl)) (fun _ _ _ h => h) (Or.inl ⟨by rfl, ?_⟩) ?_ ?_
               rotate_left
               ·intro w'
                go_simp
                with_reducible rfl
               rotate_left
               ·exact pt_
               refine pure_ (i := 15) (N := some 120) (v := ?_) (a' := ?_) #[true, true, true, true, true, true, true, true, true, true, true, true, true, true, true, true, false, false, false, false, false, false, false, false, false, false, false, false, false, false, false, false, false] rfl rfl (any_of HT_.out (by kernel_rfl)) (fun _ _ _ h => h) (Or.inl ⟨by rfl, ?_⟩) ?_ ?_
               rotate_left
               ·intro w'
                go_simp
                with_reducible rfl
               rotate_left
               ·exact pt_
               refine pure_ (i := 16) (N := some 121) (v := ?_) (a' := ?_) #[true, true, true, true, true, true, true, true, true, true, true, true, true, true, true, true, true, false, false, false, false, false, false, false, false, false, false, false, false, false, false, false, false] rfl rfl (any_of HT_.out (by kernel_rfl)) (fun _ _ _ h => h) (Or.inl ⟨by rfl, ?_⟩) ?_ ?_
               rotate_left
               ·intro w'
                go_simp
                with_reducible rfl
               rotate_left
               ·exact pt_
               refine pure_ (i := 17) (N := some 122) (v := ?_) (a' := ?_) #[true, true, true, true, true, true, true, true, true, true, true, true, true, true, true, true, true, true, false, false, false, false, false, false, false, false, false, false, false, false, false, false, false] rfl rfl (any_of HT_.out (by kernel_rfl)) (fun _ _ _ h => h) (Or.inl ⟨by rfl, ?_⟩) ?_ ?_
               rotate_left
               ·intro w'
                go_simp
                with_reducible rfl
               rotate_left
               ·exact pt_
               refine pure_ (i := 18) (N := some 123) (v := ?_) (a' := ?_) #[true, true, true, true, true, true, true, true, true, true, true, true, true, true, true, true, true, true, true, false, false, false, false, false, false, false, false, false, false, false, false, false, false] rfl rfl (any_of HT_.out (by kernel_rfl)) (fun _ _ _ h => h) (Or.inl ⟨by rfl, ?_⟩) ?_ ?_
               rotate_left
               ·intro w'
                go_simp
                with_reducible rfl
               rotate_left
               ·exact pt_
               refine pure_ (i := 19) (N := some 124) (v := ?_) (a' := ?_) #[true, true, true, true, true, true, true, true, true, true, true, true, true, true, true, true, true, true, true, true, false, false, false, false, false, false, false, false, false, false, false, false, false] rfl rfl (any_of HT_.out (by kernel_rfl)) (fun _ _ _ h => h) (Or.inl ⟨by rfl, ?_⟩) ?_ ?_
               rotate_left
               ·intro w'
                go_simp
                with_reducible rfl
               rotate_left
               ·exact pt_
               refine pure_ (i := 20) (N := some 125) (v := ?_) (a' := ?_) #[true, true, true, true, true, true, true, true, true, true, true, true, true, true, true, true, true, true, true, true, true, false, false, false, false, false, false, false, false, false, false, false, false] rfl rfl (any_of HT_.out (by kernel_rfl)) (fun _ _ _ h => h) (Or.inl ⟨by rfl, ?_⟩) ?_ ?_
               rotate_left
               ·intro w'
                go_simp
                with_reducible rfl
               rotate_left
               ·exact pt_
               refine pure_ (i := 21) (N := some 126) (v := ?_) (a' := ?_) #[true, true, true, true, true, true, true, true, true, true, true, true, true, true, true, true, true, true, true, true, true, true, false, false, false, false, false, false, false, false, false, false, false] rfl rfl (any_of HT_.out (by kernel_rfl)) (fun _ _ _ h => h) (Or.inl ⟨by rfl, ?_⟩) ?_ ?_
               rotate_left
               ·intro w'
                go_simp
                with_reducible rfl
               rotate_left
               ·exact pt_
               refine pure_ (i := 22) (N := some 127) (v := ?_) (a' := ?_) #[true, true, true, true, true, true, true, true, true, true, true, true, true, true, true, true, true, true, true, true, true, true, true, false, false, false, false, false, false, false, false, false, false] rfl rfl (any_of HT_.out (by kernel_rfl)) (fun _ _ _ h => h) (Or.inl ⟨by rfl, ?_⟩) ?_ ?_
               rotate_left
               ·intro w'
                go_simp
                with_reducible rfl
               rotate_left
               ·exact pt_
               refine pure_ (i := 23) (N := some 128) (v := ?_) (a' := ?_) #[true, true, true, true, true, true, true, true, true, true, true, true, true, true, true, true, true, true, true, true, true, true, true, true, false, false, false, false, false, false, false, false, false] rfl rfl (any_of HT_.out (by kernel_rfl)) (fun _ _ _ h => h) (Or.inl ⟨by rfl, ?_⟩) ?_ ?_
               rotate_left
               ·intro w'
                go_simp
                with_reducible rfl
               rotate_left
               ·exact pt_
               refine pure_ (i := 25) (N := some 130) (v := ?_) (a' := ?_) #[true, true, true, true, true, true, true, true, true, true, true, true, true, true, true, true, true, true, true, true, true, true, true, true, false, true, false, false, false, false, false, false, false] rfl rfl (any_of HT_.out (by kernel_rfl)) (fun _ _ _ h => h) (Or.inl ⟨by rfl, ?_⟩) ?_ ?_
               rotate_left
               ·intro w'
                go_simp
                with_reducible rfl
               rotate_left
               ·exact pt_
               refine pure_ (i := 26) (N := some 131) (v := ?_) (a' := ?_) #[true, true, true, true, true, true, true, true, true, true, true, true, true, true, true, true, true, true, true, true, true, true, true, true, false, true, true, false, false, false, false, false, false] rfl rfl (any_of HT_.out (by kernel_rfl)) (fun _ _ _ h => h) (Or.inl ⟨by rfl, ?_⟩) ?_ ?_
               rotate_left
               ·intro w'
                go_simp
                with_reducible rfl
               rotate_left
               ·exact pt_
               refine pure_ (i := 27) (N := some 132) (v := ?_) (a' := ?_) #[true, true, true, true, true, true, true, true, true, true, true, true, true, true, true, true, true, true, true, true, true, true, true, true, false, true, true, true, false, false, false, false, false] rfl rfl (any_of HT_.out (by kernel_rfl)) (fun _ _ _ h => h) (Or.inl ⟨by rfl, ?_⟩) ?_ ?_
               rotate_left
               ·intro w'
                go_simp
                with_reducible rfl
               rotate_left
               ·exact pt_
               refine take_ (i := 24) (N := some 129) (v := ?_) (a' := ?_) #[true, true, true, true, true, true, true, true, true, true, true, true, true, true, true, true, true, true, true, true, true, true, true, true, true, true, true, true, false, false, false, false, false] rfl rfl (take_ofW HT_.out HW_.out (by kernel_rfl)) (fun _ _ _ h => h) (Or.inl ⟨by rfl, ?_⟩) hHeld ?_ ?_
               rotate_left
               ·rintro w' ⟨s0, s1, s2, s3, s4, s5, s6, s7, s8, s9, s10, s11, s12, s13, s14, s15⟩
                go_simp
                with_reducible rfl
               rotate_left
               ·exact pt_
               refine take_ (i := 28) (N := some 133) (v := ?_) (a' := ?_) #[true, true, true, true, true, true, true, true, true, true, true, true, true, true, true, true, true, true, true, true, true, true, true, true, true, true, true, true, true, false, false, false, false] rfl rfl (take_ofW HT_.out HW_.out (by kernel_rfl)) (fun _ _ _ h => h) (Or.inl ⟨by rfl, ?_⟩) hHeld ?_ ?_
               rotate_left
               ·rintro w' ⟨s0, s1, s2, s3, s4, s5, s6, s7, s8, s9, s10, s11, s12, s13, s14, s15⟩
                go_simp
                with_reducible rfl
               rotate_left
               ·exact pt_
               refine one_ (i := 29) (N := some 134) #[true, true, true, true, true, true, true, true, true, true, true, true, true, true, true, true, true, true, true, true, true, true, true, true, true, true, true, true, true, true, false, false, false] rfl rfl (one_of HT_.out (by kernel_rfl)) (by decide) (fun K hK => ?_)
               refine goes_ Try.func34 (by kernel_rfl) rfl #[.agg #[.int .i64 ((rd_T23 t589 (ji30)).f0), .int .i64 ((rd_T23 t589 (ji30)).f1), .int .i64 ((rd_T23 t589 (ji30)).f2), .int .i64 ((rd_T23 t589 (ji30)).f3)], .agg #[.int .i64 ((rd_T23 t589 x13_2).f0), .int .i64 ((rd_T23 t589 x13_2).f1), .int .i64 ((rd_T23 t589 x13_2).f2), .int .i64 ((rd_T23 t589 x13_2).f3)]] (by rfl) rfl rfl (by (try simp only [List.map_toArray, List.map_cons, List.map_nil]); first | done | (simp only [hji30]; rfl) | rfl | (simp only [List.length_drop, List.length_take]; rfl)) ?_
               with_reducible refine (clochelaw01_less.calls k2 ((rd_T23 t589 (ji30)).f0) ((rd_T23 t589 (ji30)).f1) ((rd_T23 t589 (ji30)).f2) ((rd_T23 t589 (ji30)).f3) ((rd_T23 t589 x13_2).f0) ((rd_T23 t589 x13_2).f1) ((rd_T23 t589 x13_2).f2) ((rd_T23 t589 x13_2).f3) true _ A33.out).mono ?_
               rintro e w38 ⟨rfl, hb⟩
               have HS0_ := (hb.cell (World.block_lt_of_cell? _ _ (hHeld.1))).trans (hHeld.1)
               have HS1_ := (hb.cell (World.block_lt_of_cell? _ _ (hHeld.2.1))).trans (hHeld.2.1)
               have HS2_ := (hb.cell (World.block_lt_of_cell? _ _ (hHeld.2.2.1))).trans (hHeld.2.2.1)
               have HS3_ := (hb.cell (World.block_lt_of_cell? _ _ (hHeld.2.2.2.1))).trans (hHeld.2.2.2.1)
               have HS4_ := (hb.cell (World.block_lt_of_cell? _ _ (hHeld.2.2.2.2.1))).trans (hHeld.2.2.2.2.1)
               have HS5_ := (hb.cell (World.block_lt_of_cell? _ _ (hHeld.2.2.2.2.2.1))).trans (hHeld.2.2.2.2.2.1)
               have HS6_ := (hb.cell (World.block_lt_of_cell? _ _ (hHeld.2.2.2.2.2.2.1))).trans (hHeld.2.2.2.2.2.2.1)
               have HS7_ := (hb.cell (World.block_lt_of_cell? _ _ (hHeld.2.2.2.2.2.2.2.1))).trans (hHeld.2.2.2.2.2.2.2.1)
               have HS8_ := (hb.cell (World.block_lt_of_cell? _ _ (hHeld.2.2.2.2.2.2.2.2.1))).trans (hHeld.2.2.2.2.2.2.2.2.1)
               have HS9_ := (hb.cell (World.block_lt_of_cell? _ _ (hHeld.2.2.2.2.2.2.2.2.2.1))).trans (hHeld.2.2.2.2.2.2.2.2.2.1)
               have HS10_ := (hb.cell (World.block_lt_of_cell? _ _ (hHeld.2.2.2.2.2.2.2.2.2.2.1))).trans (hHeld.2.2.2.2.2.2.2.2.2.2.1)
               have HS11_ := (hb.cell (World.block_lt_of_cell? _ _ (hHeld.2.2.2.2.2.2.2.2.2.2.2.1))).trans (hHeld.2.2.2.2.2.2.2.2.2.2.2.1)
               have HS12_ := (hb.cell (World.block_lt_of_cell? _ _ (hHeld.2.2.2.2.2.2.2.2.2.2.2.2.1))).trans (hHeld.2.2.2.2.2.2.2.2.2.2.2.2.1)
               have HS13_ := (hb.cell (World.block_lt_of_cell? _ _ (hHeld.2.2.2.2.2.2.2.2.2.2.2.2.2.1))).trans (hHeld.2.2.2.2.2.2.2.2.2.2.2.2.2.1)
               have HS14_ := (hb.cell (World.block_lt_of_cell? _ _ (hHeld.2.2.2.2.2.2.2.2.2.2.2.2.2.2.1))).trans (hHeld.2.2.2.2.2.2.2.2.2.2.2.2.2.2.1)
               have HS15_ := (hb.cell (World.block_lt_of_cell? _ _ (hHeld.2.2.2.2.2.2.2.2.2.2.2.2.2.2.2))).trans (hHeld.2.2.2.2.2.2.2.2.2.2.2.2.2.2.2)
               refine ⟨_, rfl, ?_⟩
               have n0_ := Aside0.mk (Kd.R_below (by refine kr_ ?_; exact HO_4.out) hb)
               have n1_ := Aside0.mk (below_step (lw_ HB.out) hb)
               clear HO_4
               clear HB
               have HO_4 := n0_
               have HB := n1_
               clear n0_ n1_
               (try clear hb)
               (try clear hb2)
               (try clear hk)
               (try clear hi)
               refine hK.out _ _ ⟨HS0_, HS1_, HS2_, HS3_, HS4_, HS5_, HS6_, HS7_, HS8_, HS9_, HS10_, HS11_, HS12_, HS13_, HS14_, HS15_⟩ (fun hHeld => ?_)
               clear hK K
               refine norm_ (a' := ?_) ?_ ?_
               rotate_left
               ·show Act.put _ (some 134) _ = _
                exact pt_
               refine pure_ (i := 30) (N := some 135) (v := ?_) (a' := ?_) #[true, true, true, true, true, true, true, true, true, true, true, true, true, true, true, true, true, true, true, true, true, true, true, true, true, true, true, true, true, true, true, false, false] rfl rfl (any_of HT_.out (by kernel_rfl)) (fun _ _ _ h => h) (Or.inl ⟨by rfl, ?_⟩) ?_ ?_
               rotate_left
               ·intro w'
                go_simp
                with_reducible rfl
               rotate_left
               ·exact pt_
               refine pure_ (i := 31) (N := some 136) (v := ?_) (a' := ?_) #[true, true, true, true, true, true, true, true, true, true, true, true, true, true, true, true, true, true, true, true, true, true, true, true, true, true, true, true, true, true, true, true, false] rfl rfl (any_of HT_.out (by kernel_rfl)) (fun _ _ _ h => h) (Or.inl ⟨by rfl, ?_⟩) ?_ ?_
               rotate_left
               ·intro w'
                go_simp
                with_reducible rfl
               rotate_left
               ·exact pt_
               refine pure_ (i := 32) (N := some 137) (v := ?_) (a' := ?_) #[true, true, true, true, true, true, true, true, true, true, true, true, true, true, true, true, true, true, true, true, true, true, true, true, true, true, true, true, true, true, true, true, true] rfl rfl (any_of HT_.out (by kernel_rfl)) (fun _ _ _ h => h) (Or.inl ⟨by rfl, ?_⟩) ?_ ?_
               rotate_left
               ·intro w'
                go_simp
                with_reducible rfl
               rotate_left
               ·exact pt_
               refine done_ (done_of HT_.out (by kernel_rfl)) ?_
               try go_wp2
               go_roundg k2
               case measure => have := HK1.out; have := HK2.out; omega
               case rel => exact ⟨(wrap64 (x13_2 + 1)), eq_, H', ⟨by have := HK1.out; have := HK2.out; omega⟩, ⟨by refine kr_ ?_; exact HO_4.out⟩, ⟨by repeat (first | (with_reducible first | exact HB.out | apply below_alloc | apply pw_below_drewN | apply below_drew1) | exact HB.out)⟩⟩
              ·replace c34 := Bool.eq_false_iff.mpr c34
               subst c34
               have H1 : (none) = some r := by rw [if_neg (show ¬ (false = true) by decide)] at H; exact H
               clear H
               have H := H1
               clear H1
               exact absurd H (by simp)
             ·rw [if_neg c32] at H
              exact absurd H (by simp)
            ·rw [if_neg c31] at H
             exact absurd H (by simp)
           ·rw [if_neg c29] at H
            have c29b0 : decide (0 < x13_2) = false := decide_eq_false c29
            clear c29
            have H' := Aside0.mk H
            clear H
            obtain ⟨Ao39, co39, eo39⟩ := Kd.R_slice HO_4.out
            subst eo39
            try go_wp2
            have n0_ := Aside0.mk (Kd.R_drew HO_4.out)
            have n1_ := Aside0.mk (below_drew1 HB.out)
            clear HO_4
            clear HB
            have HO_4 := n0_
            have HB := n1_
            clear n0_ n1_
            have p600 : 0 ≤ (x13_2 : Int) := of_decide_eq_true as_
            have q600 : x13_2 < (t589.length : Int) := of_decide_eq_true as_
            obtain ⟨ad600, e600, hx600_0, hx600_1, hx600_2, hx600_3⟩ := at_T23 (Kd.R_reads' HO_4.out).2.2 x13_2 p600 q600
            cases e600
            replace p600 := eq_true p600
            replace q600 := eq_true q600
            have p602 : 0 ≤ (x13_2 : Int) := of_decide_eq_true as_
            have q602 : x13_2 < (t589.length : Int) := of_decide_eq_true as_
            obtain ⟨ad602, e602, hx602_0, hx602_1, hx602_2, hx602_3⟩ := at_T23 (Kd.R_reads' HO_4.out).2.2 x13_2 p602 q602
            obtain rfl : ad600 = ad602 := (by injection e602)
            replace p602 := eq_true p602
            replace q602 := eq_true q602
            refine start_ (n := 33) (S := fun w' => w'.cell? (ad600.add ((x13_2).toNat * 4)) = some (.int .i64 ((rd_T23 t589 x13_2).f0)) ∧ w'.cell? ⟨(ad600.add ((x13_2).toNat * 4)).block, (ad600.add ((x13_2).toNat * 4)).off + 1, none⟩ = some (.int .i64 ((rd_T23 t589 x13_2).f1)) ∧ w'.cell? ⟨(ad600.add ((x13_2).toNat * 4)).block, (ad600.add ((x13_2).toNat * 4)).off + 2, none⟩ = some (.int .i64 ((rd_T23 t589 x13_2).f2)) ∧ w'.cell? ⟨(ad600.add ((x13_2).toNat * 4)).block, (ad600.add ((x13_2).toNat * 4)).off + 3, none⟩ = some (.int .i64 ((rd_T23 t589 x13_2).f3)) ∧ w'.cell? (ad600.add ((x13_2).toNat * 4)) = some (.int .i64 ((rd_T23 t589 x13_2).f0)) ∧ w'.cell? ⟨(ad600.add ((x13_2).toNat * 4)).block, (ad600.add ((x13_2).toNat * 4)).off + 1, none⟩ = some (.int .i64 ((rd_T23 t589 x13_2).f1)) ∧ w'.cell? ⟨(ad600.add ((x13_2).toNat * 4)).block, (ad600.add ((x13_2).toNat * 4)).off + 2, none⟩ = some (.int .i64 ((rd_T23 t589 x13_2).f2)) ∧ w'.cell? ⟨(ad600.add ((x13_2).toNat * 4)).block, (ad600.add ((x13_2).toNat * 4)).off + 3, none⟩ = some (.int .i64 ((rd_T23 t589 x13_2).f3))) (ds := []) #[false, false, false, false, false, false, false, false, false, false, false, false, false, false, false, false, false, false, false, false, false, false, false, false, false, false, false, false, false, false, false, false, false] (by kernel_rfl) rfl rfl ⟨hx600_0, hx600_1, hx600_2, hx600_3, hx602_0, hx602_1, hx602_2, hx602_3⟩ (fun hHeld => ?_); refine with_tabW clochelaw01_DiscsFound.tab26 clochelaw01_DiscsFound.bits26 (fun HT_ HW_ => ?_)
            generalize wr.drew = w40 at HO_4 HB hx600_0 hx600_1 hx600_2 hx600_3 hx602_0 hx602_1 hx602_2 hx602_3 hHeld ⊢
            refine pure_ (i := 0) (N := some 105) (v := ?_) (a' := ?_) #[true, false, false, false, false, false, false, false, false, false, false, false, false, false, false, false, false, false, false, false, false, false, false, false, false, false, false, false, false, false, false, false, false] rfl rfl (any_of HT_.out (by kernel_rfl)) (fun _ _ _ h => h) (Or.inl ⟨by rfl, ?_⟩) ?_ ?_
            rotate_left
            ·intro w'
             go_simp
             with_reducible rfl
            rotate_left
            ·exact pt_
            refine pure_ (i := 1) (N := some 106) (v := ?_) (a' := ?_) #[true, true, false, false, false, false, false, false, false, false, false, false, false, false, false, false, false, false, false, false, false, false, false, false, false, false, false, false, false, false, false, false, false] rfl rfl (any_of HT_.out (by kernel_rfl)) (fun _ _ _ h => h) (Or.inl ⟨by rfl, ?_⟩) ?_ ?_
            rotate_left
            ·intro w'
             go_simp
             with_reducible rfl
            rotate_left
            ·exact pt_
            refine pure_ (i := 2) (N := some 107) (v := ?_) (a' := ?_) #[true, true, true, false, false, false, false, false, false, false, false, false, false, false, false, false, false, false, false, false, false, false, false, false, false, false, false, false, false, false, false, false, false] rfl rfl (any_of HT_.out (by kernel_rfl)) (fun _ _ _ h => h) (Or.inl ⟨by rfl, ?_⟩) ?_ ?_
            rotate_left
            ·intro w'
             go_simp
             with_reducible rfl
            rotate_left
            ·exact pt_
            refine take_ (i := 3) (N := some 108) (v := ?_) (a' := ?_) #[true, true, true, true, false, false, false, false, false, false, false, false, false, false, false, false, false, false, false, false, false, false, false, false, false, false, false, false, false, false, false, false, false] rfl rfl (take_ofW HT_.out HW_.out (by kernel_rfl)) (fun _ _ _ h => h) (Or.inl ⟨by rfl, ?_⟩) hHeld ?_ ?_
            rotate_left
            ·rintro w' ⟨s0, s1, s2, s3, s4, s5, s6, s7⟩
             go_simp
             with_reducible rfl
            rotate_left
            ·exact pt_
            refine one_ (i := 4) (N := some 109) #[true, true, true, true, true, false, false, false, false, false, false, false, false, false, false, false, false, false, false, false, false, false, false, false, false, false, false, false, false, false, false, false, false] rfl rfl (one_of HT_.out (by kernel_rfl)) (by decide) (fun K hK => ?_)
            refine goes_ Try.func33 (by kernel_rfl) rfl #[.agg #[.int .i64 ((rd_T23 t589 x13_2).f0), .int .i64 ((rd_T23 t589 x13_2).f1), .int .i64 ((rd_T23 t589 x13_2).f2), .int .i64 ((rd_T23 t589 x13_2).f3)]] (by rfl) rfl rfl mp_ ?_
            with_reducible refine (discs_IsRoot.calls k2 ((rd_T23 t589 x13_2).f0) ((rd_T23 t589 x13_2).f1) ((rd_T23 t589 x13_2).f2) ((rd_T23 t589 x13_2).f3) true _ A26.out).mono ?_
            rintro e w41 ⟨rfl, hb⟩
            have HS0_ := (hb.cell (World.block_lt_of_cell? _ _ (hHeld.1))).trans (hHeld.1)
            have HS1_ := (hb.cell (World.block_lt_of_cell? _ _ (hHeld.2.1))).trans (hHeld.2.1)
            have HS2_ := (hb.cell (World.block_lt_of_cell? _ _ (hHeld.2.2.1))).trans (hHeld.2.2.1)
            have HS3_ := (hb.cell (World.block_lt_of_cell? _ _ (hHeld.2.2.2.1))).trans (hHeld.2.2.2.1)
            have HS4_ := (hb.cell (World.block_lt_of_cell? _ _ (hHeld.2.2.2.2.1))).trans (hHeld.2.2.2.2.1)
            have HS5_ := (hb.cell (World.block_lt_of_cell? _ _ (hHeld.2.2.2.2.2.1))).trans (hHeld.2.2.2.2.2.1)
            have HS6_ := (hb.cell (World.block_lt_of_cell? _ _ (hHeld.2.2.2.2.2.2.1))).trans (hHeld.2.2.2.2.2.2.1)
            have HS7_ := (hb.cell (World.block_lt_of_cell? _ _ (hHeld.2.2.2.2.2.2.2))).trans (hHeld.2.2.2.2.2.2.2)
            refine ⟨_, rfl, ?_⟩
            have n0_ := Aside0.mk (Kd.R_below (by refine kr_ ?_; exact HO_4.out) hb)
            have n1_ := Aside0.mk (below_step (lw_ HB.out) hb)
            clear HO_4
            clear HB
            have HO_4 := n0_
            have HB := n1_
            clear n0_ n1_
            (try clear hb)
            (try clear hb2)
            (try clear hk)
            (try clear hi)
            refine hK.out _ _ ⟨HS0_, HS1_, HS2_, HS3_, HS4_, HS5_, HS6_, HS7_⟩ (fun hHeld => ?_)
            clear hK K
            refine norm_ (a' := ?_) ?_ ?_
            rotate_left
            ·show Act.put _ (some 109) _ = _
             exact pt_
            refine pure_ (i := 5) (N := some 110) (v := ?_) (a' := ?_) #[true, true, true, true, true, true, false, false, false, false, false, false, false, false, false, false, false, false, false, false, false, false, false, false, false, false, false, false, false, false, false, false, false] rfl rfl (any_of HT_.out (by kernel_rfl)) (fun _ _ _ h => h) (Or.inl ⟨by rfl, ?_⟩) ?_ ?_
            rotate_left
            ·intro w'
             go_simp
             with_reducible rfl
            rotate_left
            ·exact pt_
            refine pure_ (i := 6) (N := some 111) (v := ?_) (a' := ?_) #[true, true, true, true, true, true, true, false, false, false, false, false, false, false, false, false, false, false, false, false, false, false, false, false, false, false, false, false, false, false, false, false, false] rfl rfl (any_of HT_.out (by kernel_rfl)) (fun _ _ _ h => h) (Or.inl ⟨by rfl, ?_⟩) ?_ ?_
            rotate_left
            ·intro w'
             go_simp
             with_reducible rfl
            rotate_left
            ·exact pt_
            refine pure_ (i := 7) (N := some 112) (v := ?_) (a' := ?_) #[true, true, true, true, true, true, true, true, false, false, false, false, false, false, false, false, false, false, false, false, false, false, false, false, false, false, false, false, false, false, false, false, false] rfl rfl (any_of HT_.out (by kernel_rfl)) (fun _ _ _ h => h) (Or.inl ⟨by rfl, ?_⟩) ?_ ?_
            rotate_left
            ·intro w'
             go_simp
             with_reducible rfl
            rotate_left
            ·exact pt_
            refine pure_ (i := 8) (N := some 113) (v := ?_) (a' := ?_) #[true, true, true, true, true, true, true, true, true, false, false, false, false, false, false, false, false, false, false, false, false, false, false, false, false, false, false, false, false, false, false, false, false] rfl rfl (any_of HT_.out (by kernel_rfl)) (fun _ _ _ h => h) (Or.inl ⟨by rfl, ?_⟩) ?_ ?_
            rotate_left
            ·intro w'
             go_simp
             with_reducible rfl
            rotate_left
            ·exact pt_
            refine pure_ (i := 9) (N := some 114) (v := ?_) (a' := ?_) #[true, true, true, true, true, true, true, true, true, true, false, false, false, false, false, false, false, false, false, false, false, false, false, false, false, false, false, false, false, false, false, false, false] rfl rfl (any_of HT_.out (by kernel_rfl)) (fun _ _ _ h => h) (Or.inl ⟨by rfl, ?_⟩) ?_ ?_
            rotate_left
            ·intro w'
             go_simp
             with_reducible rfl
            rotate_left
            ·exact pt_
            refine pure_ (i := 10) (N := some 115) (v := ?_) (a' := ?_) #[true, true, true, true, true, true, true, true, true, true, true, false, false, false, false, false, false, false, false, false, false, false, false, false, false, false, false, false, false, false, false, false, false] rfl rfl (any_of HT_.out (by kernel_rfl)) (fun _ _ _ h => h) (Or.inl ⟨by rfl, ?_⟩) ?_ ?_
            rotate_left
            ·intro w'
             go_simp
             with_reducible rfl
            rotate_left
            ·exact pt_
            refine pure_ (i := 12) (N := some 117) (v := ?_) (a' := ?_) #[true, true, true, true, true, true, true, true, true, true, true, false, true, false, false, false, false, false, false, false, false, false, false, false, false, false, false, false, false, false, false, false, false] rfl rfl (any_of HT_.out (by kernel_rfl)) (fun _ _ _ h => h) (Or.inl ⟨by rfl, ?_⟩) ?_ ?_
            rotate_left
            ·intro w'
             go_simp
             with_reducible rfl
            rotate_left
            ·exact pt_
            refine pure_ (i := 13) (N := some 118) (v := ?_) (a' := ?_) #[true, true, true, true, true, true, true, true, true, true, true, false, true, true, false, false, false, false, false, false, false, false, false, false, false, false, false, false, false, false, false, false, false] rfl rfl (any_of HT_.out (by kernel_rfl)) (fun _ _ _ h => h) (Or.inl ⟨by rfl, ?_⟩) ?_ ?_
            rotate_left
            ·intro w'
             go_simp
             with_reducible rfl
            rotate_left
            ·exact pt_
            refine take_ (i := 11) (N := some 116) (v := ?_) (a' := ?_) #[true, true, true, true, true, true, true, true, true, true, true, true, true, true, false, false, false, false, false, false, false, false, false, false, false, false, false, false, false, false, false, false, false] rfl rfl (take_ofW HT_.out HW_.out (by kernel_rfl)) (fun _ _ _ h => h) (Or.inl ⟨by rfl, ?_⟩) hHeld ?_ ?_
            rotate_left
            ·rintro w' ⟨s0, s1, s2, s3, s4, s5, s6, s7⟩
             go_simp
             with_reducible rfl
            rotate_left
            ·exact pt_
            refine pure_ (i := 14) (N := some 119) (v := ?_) (a' := ?_) #[true, true, true, true, true, true, true, true, true, true, true, true, true, true, true, false, false, false, false, false, false, false, false, false, false, false, false, false, false, false, false, false, false] rfl rfl (any_of HT_.out (by kernel_rfl)) (fun _ _ _ h => h) (Or.inl ⟨by rfl, ?_⟩) ?_ ?_
            rotate_left
            ·intro w'
             go_simp
             with_reducible rfl
            rotate_left
            ·exact pt_
            refine pure_ (i := 15) (N := some 120) (v := ?_) (a' := ?_) #[true, true, true, true, true, true, true, true, true, true, true, true, true, true, true, true, false, false, false, false, false, false, false, false, false, false, false, false, false, false, false, false, false] rfl rfl (any_of HT_.out (by kernel_rfl)) (fun _ _ _ h => h) (Or.inl ⟨by rfl, ?_⟩) ?_ ?_
            rotate_left
            ·intro w'
             go_simp
             with_reducible rfl
            rotate_left
            ·exact pt_
            refine pure_ (i := 16) (N := some 121) (v := ?_) (a' := ?_) #[true, true, true, true, true, true, true, true, true, true, true, true, true, true, true, true, true, false, false, false, false, false, false, false, false, false, false, false, false, false, false, false, false] rfl rfl (any_of HT_.out (by kernel_rfl)) (fun _ _ _ h => h) (Or.inl ⟨by rfl, ?_⟩) ?_ ?_
            rotate_left
            ·intro w'
             go_simp
             with_reducible rfl
            rotate_left
            ·exact pt_
            refine pure_ (i := 17) (N := some 122) (v := ?_) (a' := ?_) #[true, true, true, true, true, true, true, true, true, true, true, true, true, true, true, true, true, true, false, false, false, false, false, false, false, false, false, false, false, false, false, false, false] rfl rfl (any_of HT_.out (by kernel_rfl)) (fun _ _ _ h => h) (Or.inl ⟨by rfl, ?_⟩) ?_ ?_
            rotate_left
            ·intro w'
             go_simp
             with_reducible rfl
            rotate_left
            ·exact pt_
            refine pure_ (i := 18) (N := some 123) (v := ?_) (a' := ?_) #[true, true, true, true, true, true, true, true, true, true, true, true, true, true, true, true, true, true, true, false, false, false, false, false, false, false, false, false, false, false, false, false, false] rfl rfl (any_of HT_.out (by kernel_rfl)) (fun _ _ _ h => h) (Or.inl ⟨by rfl, ?_⟩) ?_ ?_
            rotate_left
            ·intro w'
             go_simp
             with_reducible rfl
            rotate_left
            ·exact pt_
            refine pure_ (i := 19) (N := some 124) (v := ?_) (a' := ?_) #[true, true, true, true, true, true, true, true, true, true, true, true, true, true, true, true, true, true, true, true, false, false, false, false, false, false, false, false, false, false, false, false, false] rfl rfl (any_of HT_.out (by kernel_rfl)) (fun _ _ _ h => h) (Or.inl ⟨by rfl, ?_⟩) ?_ ?_
            rotate_left
            ·intro w'
             go_simp
             with_reducible rfl
            rotate_left
            ·exact pt_
            refine pure_ (i := 20) (N := some 125) (v := undef) (a' := ?_) #[true, true, true, true, true, true, true, true, true, true, true, true, true, true, true, true, true, true, true, true, true, false, false, false, false, false, false, false, false, false, false, false, false] rfl rfl (any_of HT_.out (by kernel_rfl)) (fun _ _ _ h => h) (Or.inr ⟨by rfl, rfl⟩) ?_ ?_
            rotate_left
            ·exact pt_
            refine pure_ (i := 21) (N := some 126) (v := undef) (a' := ?_) #[true, true, true, true, true, true, true, true, true, true, true, true, true, true, true, true, true, true, true, true, true, true, false, false, false, false, false, false, false, false, false, false, false] rfl rfl (any_of HT_.out (by kernel_rfl)) (fun _ _ _ h => h) (Or.inr ⟨by rfl, rfl⟩) ?_ ?_
            rotate_left
            ·exact pt_
            refine pure_ (i := 22) (N := some 127) (v := undef) (a' := ?_) #[true, true, true, true, true, true, true, true, true, true, true, true, true, true, true, true, true, true, true, true, true, true, true, false, false, false, false, false, false, false, false, false, false] rfl rfl (any_of HT_.out (by kernel_rfl)) (fun _ _ _ h => h) (Or.inr ⟨by rfl, rfl⟩) ?_ ?_
            rotate_left
            ·exact pt_
            refine pure_ (i := 23) (N := some 128) (v := undef) (a' := ?_) #[true, true, true, true, true, true, true, true, true, true, true, true, true, true, true, true, true, true, true, true, true, true, true, true, false, false, false, false, false, false, false, false, false] rfl rfl (any_of HT_.out (by kernel_rfl)) (fun _ _ _ h => h) (Or.inr ⟨by rfl, rfl⟩) ?_ ?_
            rotate_left
            ·exact pt_
            refine pure_ (i := 24) (N := some 129) (v := undef) (a' := ?_) #[true, true, true, true, true, true, true, true, true, true, true, true, true, true, true, true, true, true, true, true, true, true, true, true, true, false, false, false, false, false, false, false, false] rfl rfl (any_of HT_.out (by kernel_rfl)) (fun _ _ _ h => h) (Or.inr ⟨by rfl, rfl⟩) ?_ ?_
            rotate_left
            ·exact pt_
            refine pure_ (i := 25) (N := some 130) (v := undef) (a' := ?_) #[true, true, true, true, true, true, true, true, true, true, true, true, true, true, true, true, true, true, true, true, true, true, true, true, true, true, false, false, false, false, false, false, false] rfl rfl (any_of HT_.out (by kernel_rfl)) (fun _ _ _ h => h) (Or.inr ⟨by rfl, rfl⟩) ?_ ?_
            rotate_left
            ·exact pt_
            refine pure_ (i := 26) (N := some 131) (v := undef) (a' := ?_) #[true, true, true, true, true, true, true, true, true, true, true, true, true, true, true, true, true, true, true, true, true, true, true, true, true, true, true, false, false, false, false, false, false] rfl rfl (any_of HT_.out (by kernel_rfl)) (fun _ _ _ h => h) (Or.inr ⟨by rfl, rfl⟩) ?_ ?_
            rotate_left
            ·exact pt_
            refine pure_ (i := 27) (N := some 132) (v := undef) (a' := ?_) #[true, true, true, true, true, true, true, true, true, true, true, true, true, true, true, true, true, true, true, true, true, true, true, true, true, true, true, true, false, false, false, false, false] rfl rfl (any_of HT_.out (by kernel_rfl)) (fun _ _ _ h => h) (Or.inr ⟨by rfl, rfl⟩) ?_ ?_
            rotate_left
            ·exact pt_
            refine pure_ (i := 28) (N := some 133) (v := undef) (a' := ?_) #[true, true, true, true, true, true, true, true, true, true, true, true, true, true, true, true, true, true, true, true, true, true, true, true, true, true, true, true, true, false, false, false, false] rfl rfl (any_of HT_.out (by kernel_rfl)) (fun _ _ _ h => h) (Or.inr ⟨by rfl, rfl⟩) ?_ ?_
            rotate_left
            ·exact pt_
            refine pure_ (i := 29) (N := some 134) (v := undef) (a' := ?_) #[true, true, true, true, true, true, true, true, true, true, true, true, true, true, true, true, true, true, true, true, true, true, true, true, true, true, true, true, true, true, false, false, false] rfl rfl (any_of HT_.out (by kernel_rfl)) (fun _ _ _ h => h) (Or.inr ⟨by rfl, rfl⟩) ?_ ?_
            rotate_left
            ·exact pt_
            refine pure_ (i := 30) (N := some 135) (v := undef) (a' := ?_) #[true, true, true, true, true, true, true, true, true, true, true, true, true, true, true, true, true, true, true, true, true, true, true, true, true, true, true, true, true, true, true, false, false] rfl rfl (any_of HT_.out (by kernel_rfl)) (fun _ _ _ h => h) (Or.inr ⟨by rfl, rfl⟩) ?_ ?_
            rotate_left
            ·exact pt_
            refine pure_ (i := 31) (N := some 136) (v := ?_) (a' := ?_) #[true, true, true, true, true, true, true, true, true, true, true, true, true, true, true, true, true, true, true, true, true, true, true, true, true, true, true, true, true, true, true, true, false] rfl rfl (any_of HT_.out (by kernel_rfl)) (fun _ _ _ h => h) (Or.inl ⟨by rfl, ?_⟩) ?_ ?_
            rotate_left
            ·intro w'
             go_simp
             with_reducible rfl
            rotate_left
            ·exact pt_
            refine pure_ (i := 32) (N := some 137) (v := ?_) (a' := ?_) #[true, true, true, true, true, true, true, true, true, true, true, true, true, true, true, true, true, true, true, true, true, true, true, true, true, true, true, true, true, true, true, true, true] rfl rfl (any_of HT_.out (by kernel_rfl)) (fun _ _ _ h => h) (Or.inl ⟨by rfl, ?_⟩) ?_ ?_
            rotate_left
            ·intro w'
             go_simp
             with_reducible rfl
            rotate_left
            ·exact pt_
            refine done_ (done_of HT_.out (by kernel_rfl)) ?_
            try go_wp2
            go_roundg k2
            case measure => have := HK1.out; have := HK2.out; omega
            case rel => exact ⟨(wrap64 (x13_2 + 1)), eq_, H', ⟨by have := HK1.out; have := HK2.out; omega⟩, ⟨by refine kr_ ?_; exact HO_4.out⟩, ⟨by repeat (first | (with_reducible first | exact HB.out | apply below_alloc | apply pw_below_drewN | apply below_drew1) | exact HB.out)⟩⟩
          ·rw [if_neg c28] at H
           exact absurd H (by simp)
         ·replace c27 := Bool.eq_false_iff.mpr c27
          subst c27
          have H1 : (none) = some r := by rw [if_neg (show ¬ (false = true) by decide)] at H; exact H
          clear H
          have H := H1
          clear H1
          exact absurd H (by simp)
        ·rw [if_neg c25] at H
         exact absurd H (by simp)
       ·rw [if_neg c24] at H
        have c24b0 : decide (x13_2 < (t589.length : Int)) = false := decide_eq_false c24
        clear c24
        by_cases c42 : x6_1 = (t589.length : Int)
        ·rw [if_pos c42] at H
         have c42b0 : (x6_1 == (t589.length : Int)) = true := beq_iff_eq.mpr c42
         have c42b1 : (x6_1 != (t589.length : Int)) = false := bne_eq_false_iff_eq.mpr c42
         clear c42
         by_cases c43 : x6_1 > 0
         ·rw [if_pos c43] at H
          have c43b0 : decide (0 < x6_1) = true := decide_eq_true c43
          clear c43
          replace H := Option.bind_eq_some_iff.mp H
          obtain ⟨t599, A440, H⟩ := H
          replace H : (some t599) = some r := H
          have A44 := Aside0.mk A440
          clear A440
          obtain rfl := Option.some.inj H
          obtain ⟨Ao45, co45, eo45⟩ := Kd.R_slice HO_4.out
          subst eo45
          go_wp2_with (first | (go_at_call 19; (with_reducible refine (clochelaw01_alive.calls k2  t599 _ A44.out).mono ?_); rintro e w46 ⟨rfl, hb⟩; have n0_ := Aside0.mk (Kd.R_below (by refine kr_ ?_; exact HO_4.out) hb); have n1_ := Aside0.mk (below_step (lw_ HB.out) hb); clear HO_4; clear HB; have HO_4 := n0_; have HB := n1_; clear n0_ n1_; (try clear hb); (try clear hb2); (try clear hk); (try clear hi)))
          go_ret
          exact ⟨by first | rfl | (simp [errW_none, errW_some] <;> rfl) | (simp [*, errW_none, errW_some] <;> rfl), by repeat (first | (with_reducible first | exact HB.out | apply below_alloc | apply pw_below_drewN | apply below_drew1) | exact HB.out)⟩
         ·rw [if_neg c43] at H
          exact absurd H (by simp)
        ·rw [if_neg c42] at H
         exact absurd H (by simp)
 ·rw [if_neg c3] at H
  exact absurd H (by simp)

/-- THE ONE PURE STATEMENT of clochelaw01_DiscsFound: yours. -/
def clochelaw01_DiscsFound.Pure : Prop := ∀ (a0 : Int), (Lit.int .u8 a0).wf = true → ∃ k, clochelaw01_DiscsFound.f k a0 = some true
theorem clochelaw01_DiscsFound.walk (P : clochelaw01_DiscsFound.Pure) (a0 : Int) (w : World) (w0 : (Lit.int .u8 a0).wf = true) :
  Calls Try.prog 10 #[.int .u8 a0] w fun e w' => e = .returned (.bool true) ∧ Below w.heap.size w w' := by
 obtain ⟨k, h⟩ := P a0 w0
 refine (clochelaw01_DiscsFound.calls k a0 true w h).mono ?_
 rintro e w' ⟨rfl, hd⟩
 exact ⟨rfl, hd⟩

end Go.Proofs.Ytlfmafebmnggeaa.Print
