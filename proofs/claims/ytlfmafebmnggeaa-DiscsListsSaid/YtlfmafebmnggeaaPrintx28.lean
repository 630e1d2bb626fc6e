/- What the functions of the discs compute, printed by this repo's hand printer. -/
import Derived.Test.YtlfmafebmnggeaaShort
import Derived.Test.YtlfmafebmnggeaaPrintx0
import Derived.Test.YtlfmafebmnggeaaPrintx1
import Derived.Test.YtlfmafebmnggeaaPrintx21
import Derived.Test.YtlfmafebmnggeaaPrintx24
namespace Go.Proofs.Ytlfmafebmnggeaa.Print
open Go.RowKit Go.Proofs.YtlfmafebmnggeaaW.PrintWords Go.Proofs.YtlfmafebmnggeaaW.PrintLast Go.Proofs.YtlfmafebmnggeaaW.PrintMore
attribute [local go_sem] max2_int min2_int max_two min_two max_three min_three max_four min_four
set_option maxHeartbeats 8000000 -- slim
set_option maxRecDepth 100000
set_option linter.unusedVariables false
set_option linter.unusedSimpArgs false

attribute [local go_sem high] eqA23
/-! ### clocheref01_Roots: function 21 -/
mutual
def clocheref01_Roots.j0 : Nat → Int → Bool → Option ((List (S23)) × Int)
 | 0, _, _ => none
 | k + 1, x0, x16 => if x16 = true then (some (([] : List (S23)), 2)) else (clocheref01_Roots.l0 k x0 ([] : List (S23)) x0)
def clocheref01_Roots.l0 : Nat → Int → List (S23) → Int → Option ((List (S23)) × Int)
 | 0, _, _, _ => none
 | k + 1, x0, x4, x5 => if x5 ≤ (wrap64 (3 * x0)) then (clocheref01_Roots.l1 k x0 x4 x5 x5) else (some (x4, 0))
def clocheref01_Roots.l1 : Nat → Int → List (S23) → Int → Int → Option ((List (S23)) × Int)
 | 0, _, _, _, _ => none
 | k + 1, x0, x4, x5, x6 => if x6 ≤ (wrap64 (x0 * (wrap64 (x0 + 1)))) then (if (wrap64 ((wrap64 (x5 * x6)) - (wrap64 (x0 * (wrap64 (x5 + x6)))))) > 0 then ((clocheref01_root.f k (wrap64 ((wrap64 (x5 * x6)) - (wrap64 (x0 * (wrap64 (x5 + x6))))))).bind fun t566 => (clocheref01_Roots.j3 k x0 x4 x5 x6 (wrap64 ((wrap64 (x5 * x6)) - (wrap64 (x0 * (wrap64 (x5 + x6)))))) t566)) else (clocheref01_Roots.j3 k x0 x4 x5 x6 (wrap64 ((wrap64 (x5 * x6)) - (wrap64 (x0 * (wrap64 (x5 + x6)))))) 0)) else (clocheref01_Roots.l0 k x0 x4 (wrap64 (x5 + 1)))
def clocheref01_Roots.j3 : Nat → Int → List (S23) → Int → Int → Int → Int → Option ((List (S23)) × Int)
 | 0, _, _, _, _, _, _ => none
 | k + 1, x0, x4, x5, x6, x7, x8 => if (wrap64 (x8 * x8)) = x7 then (clocheref01_Roots.l2 k x0 x4 x5 x6 x8 (-1)) else (clocheref01_Roots.l1 k x0 x4 x5 (wrap64 (x6 + 1)))
def clocheref01_Roots.l2 : Nat → Int → List (S23) → Int → Int → Int → Int → Option ((List (S23)) × Int)
 | 0, _, _, _, _, _, _ => none
 | k + 1, x0, x4, x5, x6, x8, x9 => if x9 ≤ 1 then ((clocheref01_IsRoot.f k (wrap64 (-x0)) x5 x6 (wrap64 ((wrap64 ((wrap64 ((wrap64 (-x0)) + x5)) + x6)) + (wrap64 ((wrap64 (2 * x9)) * x8))))).bind fun t568 => (if t568 = true then (if (x4.length : Int) = 0 then (if x4.length < 4398046511104 then (clocheref01_Roots.l2 k x0 (x4 ++ [(⟨wrap64 (-x0), x5, x6, wrap64 ((wrap64 ((wrap64 ((wrap64 (-x0)) + x5)) + x6)) + (wrap64 ((wrap64 (2 * x9)) * x8)))⟩ : S23)]) x5 x6 x8 (wrap64 (x9 + 2))) else (none)) else (if 0 ≤ (wrap64 ((x4.length : Int) - 1)) then (if (wrap64 ((x4.length : Int) - 1)) < (x4.length : Int) then (if (!(((rd_T23 x4 (wrap64 ((x4.length : Int) - 1))).f0) == (wrap64 (-x0))) || (!(((rd_T23 x4 (wrap64 ((x4.length : Int) - 1))).f1) == x5) || (!(((rd_T23 x4 (wrap64 ((x4.length : Int) - 1))).f2) == x6) || (!(((rd_T23 x4 (wrap64 ((x4.length : Int) - 1))).f3) == (wrap64 ((wrap64 ((wrap64 ((wrap64 (-x0)) + x5)) + x6)) + (wrap64 ((wrap64 (2 * x9)) * x8))))))))) = true then (if x4.length < 4398046511104 then (clocheref01_Roots.l2 k x0 (x4 ++ [(⟨wrap64 (-x0), x5, x6, wrap64 ((wrap64 ((wrap64 ((wrap64 (-x0)) + x5)) + x6)) + (wrap64 ((wrap64 (2 * x9)) * x8)))⟩ : S23)]) x5 x6 x8 (wrap64 (x9 + 2))) else (none)) else (clocheref01_Roots.l2 k x0 x4 x5 x6 x8 (wrap64 (x9 + 2)))) else (none)) else (none))) else (clocheref01_Roots.l2 k x0 x4 x5 x6 x8 (wrap64 (x9 + 2))))) else (clocheref01_Roots.l1 k x0 x4 x5 (wrap64 (x6 + 1)))
end
def clocheref01_Roots.f (k : Nat) (a0 : Int) : Option ((List (S23)) × Int) := if a0 < 1 then (clocheref01_Roots.j0 k a0 true) else (clocheref01_Roots.j0 k a0 (decide (a0 > 100)))
theorem clocheref01_Roots.mono_l : ∀ k, (∀ y0 y1, LeO (clocheref01_Roots.j0 k y0 y1) (clocheref01_Roots.j0 (k + 1) y0 y1)) ∧ (∀ y0 y1 y2, LeO (clocheref01_Roots.l0 k y0 y1 y2) (clocheref01_Roots.l0 (k + 1) y0 y1 y2)) ∧ (∀ y0 y1 y2 y3, LeO (clocheref01_Roots.l1 k y0 y1 y2 y3) (clocheref01_Roots.l1 (k + 1) y0 y1 y2 y3)) ∧ (∀ y0 y1 y2 y3 y4 y5, LeO (clocheref01_Roots.j3 k y0 y1 y2 y3 y4 y5) (clocheref01_Roots.j3 (k + 1) y0 y1 y2 y3 y4 y5)) ∧ (∀ y0 y1 y2 y3 y4 y5, LeO (clocheref01_Roots.l2 k y0 y1 y2 y3 y4 y5) (clocheref01_Roots.l2 (k + 1) y0 y1 y2 y3 y4 y5))
 | 0 => ⟨fun _ _ r h => by simp [clocheref01_Roots.j0] at h, fun _ _ _ r h => by simp [clocheref01_Roots.l0] at h, fun _ _ _ _ r h => by simp [clocheref01_Roots.l1] at h, fun _ _ _ _ _ _ r h => by simp [clocheref01_Roots.j3] at h, fun _ _ _ _ _ _ r h => by simp [clocheref01_Roots.l2] at h⟩
 | k + 1 => by
  obtain ⟨ih0, ih1, ih2, ih3, ih4⟩ := clocheref01_Roots.mono_l k
  refine ⟨?_, ?_, ?_, ?_, ?_⟩
  ·intro y0 y1
   unfold clocheref01_Roots.j0
   repeat' first
   | (with_reducible exact ih0 _ _)
   | (with_reducible exact ih1 _ _ _)
   | (with_reducible exact ih2 _ _ _ _)
   | (with_reducible exact ih3 _ _ _ _ _ _)
   | (with_reducible exact ih4 _ _ _ _ _ _)
   | (with_reducible exact clocheref01_IsRoot.mono _ _ _ _ _)
   | (with_reducible exact clocheref01_root.mono _ _)
   | (with_reducible exact LeO.refl _)
   | (with_reducible exact LeO.none _)
   | (with_reducible refine LeO.ite ?_ ?_)
   | (with_reducible refine LeO.bind ?_ (fun _ => ?_))
   | exact ih0 _ _
   | exact ih1 _ _ _
   | exact ih2 _ _ _ _
   | exact ih3 _ _ _ _ _ _
   | exact ih4 _ _ _ _ _ _
   | exact clocheref01_IsRoot.mono _ _ _ _ _
   | exact clocheref01_root.mono _ _
   | exact LeO.none _
   | refine LeO.ite ?_ ?_
   | refine LeO.bind ?_ (fun _ => ?_)
  ·intro y0 y1 y2
   unfold clocheref01_Roots.l0
   repeat' first
   | (with_reducible exact ih0 _ _)
   | (with_reducible exact ih1 _ _ _)
   | (with_reducible exact ih2 _ _ _ _)
   | (with_reducible exact ih3 _ _ _ _ _ _)
   | (with_reducible exact ih4 _ _ _ _ _ _)
   | (with_reducible exact clocheref01_IsRoot.mono _ _ _ _ _)
   | (with_reducible exact clocheref01_root.mono _ _)
   | (with_reducible exact LeO.refl _)
   | (with_reducible exact LeO.none _)
   | (with_reducible refine LeO.ite ?_ ?_)
   | (with_reducible refine LeO.bind ?_ (fun _ => ?_))
   | exact ih0 _ _
   | exact ih1 _ _ _
   | exact ih2 _ _ _ _
   | exact ih3 _ _ _ _ _ _
   | exact ih4 _ _ _ _ _ _
   | exact clocheref01_IsRoot.mono _ _ _ _ _
   | exact clocheref01_root.mono _ _
   | exact LeO.none _
   | refine LeO.ite ?_ ?_
   | refine LeO.bind ?_ (fun _ => ?_)
  ·intro y0 y1 y2 y3
   unfold clocheref01_Roots.l1
   repeat' first
   | (with_reducible exact ih0 _ _)
   | (with_reducible exact ih1 _ _ _)
   | (with_reducible exact ih2 _ _ _ _)
   | (with_reducible exact ih3 _ _ _ _ _ _)
   | (with_reducible exact ih4 _ _ _ _ _ _)
   | (with_reducible exact clocheref01_IsRoot.mono _ _ _ _ _)
   | (with_reducible exact clocheref01_root.mono _ _)
   | (with_reducible exact LeO.refl _)
   | (with_reducible exact LeO.none _)
   | (with_reducible refine LeO.ite ?_ ?_)
   | (with_reducible refine LeO.bind ?_ (fun _ => ?_))
   | exact ih0 _ _
   | exact ih1 _ _ _
   | exact ih2 _ _ _ _
   | exact ih3 _ _ _ _ _ _
   | exact ih4 _ _ _ _ _ _
   | exact clocheref01_IsRoot.mono _ _ _ _ _
   | exact clocheref01_root.mono _ _
   | exact LeO.none _
   | refine LeO.ite ?_ ?_
   | refine LeO.bind ?_ (fun _ => ?_)
  ·intro y0 y1 y2 y3 y4 y5
   unfold clocheref01_Roots.j3
   repeat' first
   | (with_reducible exact ih0 _ _)
   | (with_reducible exact ih1 _ _ _)
   | (with_reducible exact ih2 _ _ _ _)
   | (with_reducible exact ih3 _ _ _ _ _ _)
   | (with_reducible exact ih4 _ _ _ _ _ _)
   | (with_reducible exact clocheref01_IsRoot.mono _ _ _ _ _)
   | (with_reducible exact clocheref01_root.mono _ _)
   | (with_reducible exact LeO.refl _)
   | (with_reducible exact LeO.none _)
   | (with_reducible refine LeO.ite ?_ ?_)
   | (with_reducible refine LeO.bind ?_ (fun _ => ?_))
   | exact ih0 _ _
   | exact ih1 _ _ _
   | exact ih2 _ _ _ _
   | exact ih3 _ _ _ _ _ _
   | exact ih4 _ _ _ _ _ _
   | exact clocheref01_IsRoot.mono _ _ _ _ _
   | exact clocheref01_root.mono _ _
   | exact LeO.none _
   | refine LeO.ite ?_ ?_
   | refine LeO.bind ?_ (fun _ => ?_)
  ·intro y0 y1 y2 y3 y4 y5
   unfold clocheref01_Roots.l2
   repeat' first
   | (with_reducible exact ih0 _ _)
   | (with_reducible exact ih1 _ _ _)
   | (with_reducible exact ih2 _ _ _ _)
   | (with_reducible exact ih3 _ _ _ _ _ _)
   | (with_reducible exact ih4 _ _ _ _ _ _)
   | (with_reducible exact clocheref01_IsRoot.mono _ _ _ _ _)
   | (with_reducible exact clocheref01_root.mono _ _)
   | (with_reducible exact LeO.refl _)
   | (with_reducible exact LeO.none _)
   | (with_reducible refine LeO.ite ?_ ?_)
   | (with_reducible refine LeO.bind ?_ (fun _ => ?_))
   | exact ih0 _ _
   | exact ih1 _ _ _
   | exact ih2 _ _ _ _
   | exact ih3 _ _ _ _ _ _
   | exact ih4 _ _ _ _ _ _
   | exact clocheref01_IsRoot.mono _ _ _ _ _
   | exact clocheref01_root.mono _ _
   | exact LeO.none _
   | refine LeO.ite ?_ ?_
   | refine LeO.bind ?_ (fun _ => ?_)
theorem clocheref01_Roots.mono : ∀ a0 k, LeO (clocheref01_Roots.f k a0) (clocheref01_Roots.f (k + 1) a0) := by
 intro a0 k
 obtain ⟨ih0, ih1, ih2, ih3, ih4⟩ := clocheref01_Roots.mono_l k
 unfold clocheref01_Roots.f
 repeat' first
   | (with_reducible exact ih0 _ _)
   | (with_reducible exact ih1 _ _ _)
   | (with_reducible exact ih2 _ _ _ _)
   | (with_reducible exact ih3 _ _ _ _ _ _)
   | (with_reducible exact ih4 _ _ _ _ _ _)
   | (with_reducible exact clocheref01_IsRoot.mono _ _ _ _ _)
   | (with_reducible exact clocheref01_root.mono _ _)
   | (with_reducible exact LeO.refl _)
   | (with_reducible exact LeO.none _)
   | (with_reducible refine LeO.ite ?_ ?_)
   | (with_reducible refine LeO.bind ?_ (fun _ => ?_))
   | exact ih0 _ _
   | exact ih1 _ _ _
   | exact ih2 _ _ _ _
   | exact ih3 _ _ _ _ _ _
   | exact ih4 _ _ _ _ _ _
   | exact clocheref01_IsRoot.mono _ _ _ _ _
   | exact clocheref01_root.mono _ _
   | exact LeO.none _
   | refine LeO.ite ?_ ?_
   | refine LeO.bind ?_ (fun _ => ?_)
def clocheref01_Roots.T19 : Bool × List (List Nat × List Nat) := (true, [([], []), ([0], [0]), ([1, 1], [1]), ([2], [2]), ([3, 2], [2, 3]), ([4, 2], [2, 4]), ([5, 2, 2], [2, 5]), ([6], [6]), ([6], [6]), ([8, 6], [6, 8]), ([9, 6], [6, 9]), ([7, 10, 6], [6, 7, 10]), ([11, 6], [6, 11]), ([6], [6]), ([12, 13, 6], [6, 12, 13]), ([6, 14, 2], [2, 6, 14]), ([2, 15], [2, 15])])
def clocheref01_Roots.B19 : List Nat := [0, 1, 3, 7, 15, 31, 63, 127, 127, 383, 895, 2047, 4095, 127, 16383, 32767, 65535]
theorem clocheref01_Roots.tab19 : rtab .any (opsOf Try.f21 19) = clocheref01_Roots.T19 := by kernel_rfl
theorem clocheref01_Roots.bits19 : waitsOk clocheref01_Roots.T19.2 clocheref01_Roots.B19 = true := by kernel_rfl
theorem clocheref01_Roots.calls (k : Nat) (a0 : Int) (r1 : List (S23)) (r2 : Int) (w : World) (h : clocheref01_Roots.f k a0 = some (r1, r2)) :
  Calls Try.prog 21 #[.int .i64 a0] w fun e w' => ∃ v0_ : Value, e = .returned (.tuple #[v0_, .int .i64 r2]) ∧ Kd.R k23 23 w' w.heap.size (fun _ => True) v0_ r1 ∧ Below w.heap.size w w' := by
 have hu23 := Try.underlying23
 have HB := Aside0.mk (Below.refl w.heap.size w)
 have H : (if a0 < 1 then (clocheref01_Roots.j0 k a0 true) else (clocheref01_Roots.j0 k a0 (decide (a0 > 100)))) = some (r1, r2) := h
 clear h
 have HC2 := Aside0.mk H
 clear H
 go_enter Try.func21, Try.ntmps21
 go_upto_region 1 with (fail)
 go_cut [16] (fun v16 wc => ∃ (kq : Nat) (x16_1 : Bool), v16 = .bool x16_1 ∧ Aside0 (clocheref01_Roots.j0 kq a0 x16_1 = some (r1, r2)) ∧ Aside0 (kq ≤ k) ∧ Aside0 (Below w.heap.size w wc))
 case first =>
  have H := HC2.out
  clear HC2
  by_cases c3 : a0 < 1
  ·rw [if_pos c3] at H
   have c3b0 : decide (a0 < 1) = true := decide_eq_true c3
   clear c3
   (first | rw [c3b0] | (simp only [i64_w, i32_w]; rw [c3b0]) | skip)
   have H' := Aside0.mk H
   clear H
   go_wp2
   go_meet
   case rel => exact ⟨_, (true), eq_, H', ⟨by first | omega | exact Nat.le_refl _⟩, ⟨by repeat (first | (with_reducible first | exact HB.out | apply below_alloc | apply pw_below_drewN | apply below_drew1) | exact HB.out)⟩⟩
  ·rw [if_neg c3] at H
   have c3b0 : decide (a0 < 1) = false := decide_eq_false c3
   clear c3
   (first | rw [c3b0] | (simp only [i64_w, i32_w]; rw [c3b0]) | skip)
   have H' := Aside0.mk H
   clear H
   go_wp2
   go_meet
   case rel => exact ⟨_, (decide (a0 > 100)), eq_, H', ⟨by first | omega | exact Nat.le_refl _⟩, ⟨by repeat (first | (with_reducible first | exact HB.out | apply below_alloc | apply pw_below_drewN | apply below_drew1) | exact HB.out)⟩⟩
 case rest =>
  clear HC2
  try clear c2
  try clear p2
  try clear c3
  try clear c3b0
  obtain ⟨kq, x16_1, rfl, HA, HJ1, HB⟩ := hcut
  cases kq with
  | zero => exact absurd HA.out (by simp [clocheref01_Roots.j0])
  | succ kj1 =>
   have H := HA.out
   clear HA
   simp only [clocheref01_Roots.j0] at H
   by_cases c4 : x16_1 = true
   ·subst c4
    have H1 : (some (([] : List (S23)), 2)) = some (r1, r2) := by rw [if_pos rfl] at H; exact H
    clear H
    have H := H1
    clear H1
    simp only [Option.some.injEq, Prod.mk.injEq] at H
    obtain ⟨rfl, rfl⟩ := H
    go_wp2
    go_ret2
    exact ⟨_, by first | rfl | (simp [errW_none, errW_some] <;> rfl) | (simp [*, errW_none, errW_some] <;> rfl), by first | exact Kd.R_nil _ _ _ _ _ | exact Kd.N_nil _ _ _ _ _ | exact Kd.V_nil _ _ _ _ _ | exact Kd.Q_nil _ _ _ _ _ | exact Kd.S_nil _ _ _ _ _, by repeat (first | (with_reducible first | exact HB.out | apply below_alloc | apply pw_below_drewN | apply below_drew1) | exact HB.out)⟩
   ·replace c4 := Bool.eq_false_iff.mpr c4
    subst c4
    have H1 : (clocheref01_Roots.l0 kj1 a0 ([] : List (S23)) a0) = some (r1, r2) := by rw [if_neg (show ¬ (false = true) by decide)] at H; exact H
    clear H
    have H := H1
    clear H1
    have H' := Aside0.mk H
    clear H
    go_wp2
    go_loopg [4, 5] kj1 (fun kq v4 v5 w' => ∃ (x4_2 : List (S23)) (x5_2 : Int), v5 = .int .i64 x5_2 ∧ Aside0 (clocheref01_Roots.l0 kq a0 x4_2 x5_2 = some (r1, r2)) ∧ Aside0 (kq ≤ kj1) ∧ Aside0 (Kd.R k23 23 w' w.heap.size (fun _ => True) v4 x4_2) ∧ Aside0 (Below w.heap.size w w'))
    case atStart => exact ⟨(([] : List (S23))), (a0), eq_, H', ⟨Nat.le_refl _⟩, ⟨by first | exact Kd.R_nil _ _ _ _ _ | exact Kd.N_nil _ _ _ _ _ | exact Kd.V_nil _ _ _ _ _ | exact Kd.Q_nil _ _ _ _ _ | exact Kd.S_nil _ _ _ _ _⟩, ⟨by repeat (first | (with_reducible first | exact HB.out | apply below_alloc | apply pw_below_drewN | apply below_drew1) | exact HB.out)⟩⟩
    case round =>
     clear H'
     try clear c2
     try clear p2
     try clear c3
     try clear c3b0
     try clear c4
     try clear p2
     obtain ⟨x4_2, x5_2, rfl, HA, HK2, HO_4, HB⟩ := hrel
     cases gk with
     | zero => exact absurd HA.out (by simp [clocheref01_Roots.l0])
     | succ k2 =>
      have H := HA.out
      clear HA
      simp only [clocheref01_Roots.l0] at H
      by_cases c5 : x5_2 ≤ (wrap64 (3 * a0))
      ·rw [if_pos c5] at H
       have c5b0 : decide (x5_2 ≤ (wrap64 (3 * a0))) = true := decide_eq_true c5
       clear c5
       have H' := Aside0.mk H
       clear H
       go_wp2
       go_loopg [4, 6] k2 (fun kq v4 v6 w' => ∃ (x4_3 : List (S23)) (x6_3 : Int), v6 = .int .i64 x6_3 ∧ Aside0 (clocheref01_Roots.l1 kq a0 x4_3 x5_2 x6_3 = some (r1, r2)) ∧ Aside0 (kq ≤ k2) ∧ Aside0 (Kd.R k23 23 w' w.heap.size (fun _ => True) v4 x4_3) ∧ Aside0 (Below w.heap.size w w'))
       case atStart => exact ⟨(x4_2), (x5_2), eq_, H', ⟨Nat.le_refl _⟩, ⟨by refine kr_ ?_; exact HO_4.out⟩, ⟨by repeat (first | (with_reducible first | exact HB.out | apply below_alloc | apply pw_below_drewN | apply below_drew1) | exact HB.out)⟩⟩
       case round =>
        clear H'
        try clear c2
        try clear p2
        try clear c3
        try clear c3b0
        try clear c4
        try clear c5
        try clear c5b0
        try clear p2
        obtain ⟨x4_3, x6_3, rfl, HA, HK3, HO_4, HB⟩ := hrel
        cases gk with
        | zero => exact absurd HA.out (by simp [clocheref01_Roots.l1])
        | succ k3 =>
         have H := HA.out
         clear HA
         simp only [clocheref01_Roots.l1] at H
         by_cases c6 : x6_3 ≤ (wrap64 (a0 * (wrap64 (a0 + 1))))
         ·rw [if_pos c6] at H
          have c6b0 : decide (x6_3 ≤ (wrap64 (a0 * (wrap64 (a0 + 1))))) = true := decide_eq_true c6
          clear c6
          have HC7 := Aside0.mk H
          clear H
          go_upto_if 43 with (fail)
          go_cut [8] (fun v8 wc => ∃ (kq : Nat) (x8_6 : Int), v8 = .int .i64 x8_6 ∧ Aside0 (clocheref01_Roots.j3 kq a0 x4_3 x5_2 x6_3 (wrap64 ((wrap64 (x5_2 * x6_3)) - (wrap64 (a0 * (wrap64 (x5_2 + x6_3)))))) x8_6 = some (r1, r2)) ∧ Aside0 (kq ≤ k3) ∧ Aside0 (Kd.R k23 23 wc w.heap.size (fun _ => True) u4 x4_3) ∧ Aside0 (Below w.heap.size w wc))
          case first =>
           have H := HC7.out
           clear HC7
           by_cases c8 : (wrap64 ((wrap64 (x5_2 * x6_3)) - (wrap64 (a0 * (wrap64 (x5_2 + x6_3)))))) > 0
           ·rw [if_pos c8] at H
            have c8b0 : decide (0 < (wrap64 ((wrap64 (x5_2 * x6_3)) - (wrap64 (a0 * (wrap64 (x5_2 + x6_3))))))) = true := decide_eq_true c8
            clear c8
            (first | rw [c8b0] | (simp only [i64_w, i32_w]; rw [c8b0]) | skip)
            replace H := Option.bind_eq_some_iff.mp H
            obtain ⟨t566, A90, H⟩ := H
            replace H : (clocheref01_Roots.j3 k3 a0 x4_3 x5_2 x6_3 (wrap64 ((wrap64 (x5_2 * x6_3)) - (wrap64 (a0 * (wrap64 (x5_2 + x6_3)))))) t566) = some (r1, r2) := H
            have A9 := Aside0.mk A90
            clear A90
            have H' := Aside0.mk H
            clear H
            go_wp2_with (first | ((with_reducible refine gate_callee (f := 44) rfl ?_); refine goesL_ (some 45) rfl rfl Try.func44 (by kernel_rfl) rfl #[.int .i64 (wrap64 ((wrap64 (x5_2 * x6_3)) - (wrap64 (a0 * (wrap64 (x5_2 + x6_3))))))] rfl mp_ ?_; (with_reducible refine (clocheref01_root.calls k3 (wrap64 ((wrap64 (x5_2 * x6_3)) - (wrap64 (a0 * (wrap64 (x5_2 + x6_3)))))) t566 _ A9.out).mono ?_); rintro e w' ⟨rfl, ⟨nd, rfl⟩⟩; refine ⟨_, rfl, ?_⟩))
            go_meet
            case rel => exact ⟨_, (t566), eq_, H', ⟨by have := HJ1.out; have := HK2.out; have := HK3.out; first | omega | exact Nat.le_refl _⟩, ⟨by refine kr_ ?_; exact HO_4.out⟩, ⟨by repeat (first | (with_reducible first | exact HB.out | apply below_alloc | apply pw_below_drewN | apply below_drew1) | exact HB.out)⟩⟩
           ·rw [if_neg c8] at H
            have c8b0 : decide (0 < (wrap64 ((wrap64 (x5_2 * x6_3)) - (wrap64 (a0 * (wrap64 (x5_2 + x6_3))))))) = false := decide_eq_false c8
            clear c8
            (first | rw [c8b0] | (simp only [i64_w, i32_w]; rw [c8b0]) | skip)
            have H' := Aside0.mk H
            clear H
            go_wp2
            go_meet
            case rel => exact ⟨_, (0), eq_, H', ⟨by have := HJ1.out; have := HK2.out; have := HK3.out; first | omega | exact Nat.le_refl _⟩, ⟨by refine kr_ ?_; exact HO_4.out⟩, ⟨by repeat (first | (with_reducible first | exact HB.out | apply below_alloc | apply pw_below_drewN | apply below_drew1) | exact HB.out)⟩⟩
          case rest =>
           clear HC7
           try clear c2
           try clear p2
           try clear c3
           try clear c3b0
           try clear c4
           try clear c5
           try clear c5b0
           try clear c6
           try clear c6b0
           try clear p6
           try clear c8
           try clear c8b0
           try clear p2
           obtain ⟨kq, x8_6, rfl, HA, HJ6, HO_4, HB⟩ := hcut
           cases kq with
           | zero => exact absurd HA.out (by simp [clocheref01_Roots.j3])
           | succ kj6 =>
            have H := HA.out
            clear HA
            simp only [clocheref01_Roots.j3] at H
            by_cases c10 : (wrap64 (x8_6 * x8_6)) = (wrap64 ((wrap64 (x5_2 * x6_3)) - (wrap64 (a0 * (wrap64 (x5_2 + x6_3))))))
            ·rw [if_pos c10] at H
             have c10b0 : ((wrap64 (x8_6 * x8_6)) == (wrap64 ((wrap64 (x5_2 * x6_3)) - (wrap64 (a0 * (wrap64 (x5_2 + x6_3))))))) = true := beq_iff_eq.mpr c10
             have c10b1 : ((wrap64 (x8_6 * x8_6)) != (wrap64 ((wrap64 (x5_2 * x6_3)) - (wrap64 (a0 * (wrap64 (x5_2 + x6_3))))))) = false := bne_eq_false_iff_eq.mpr c10
             clear c10
             have H' := Aside0.mk H
             clear H
             go_wp2
             go_loopg [4, 9] kj6 (fun kq v4 v9 w' => ∃ (x4_5 : List (S23)) (x9_5 : Int), v9 = .int .i64 x9_5 ∧ Aside0 (clocheref01_Roots.l2 kq a0 x4_5 x5_2 x6_3 x8_6 x9_5 = some (r1, r2)) ∧ Aside0 (kq ≤ kj6) ∧ Aside0 (Kd.R k23 23 w' w.heap.size (fun _ => True) v4 x4_5) ∧ Aside0 (Below w.heap.size w w'))
             case atStart => exact ⟨(x4_3), ((-1)), eq_, H', ⟨Nat.le_refl _⟩, ⟨by refine kr_ ?_; exact HO_4.out⟩, ⟨by repeat (first | (with_reducible first | exact HB.out | apply below_alloc | apply pw_below_drewN | apply below_drew1) | exact HB.out)⟩⟩
             case round =>
              clear H'
              try clear c1
              try clear c2
              try clear p2
              try clear c3
              try clear c3b0
              try clear c4
              try clear c5
              try clear c5b0
              try clear c6
              try clear c6b0
              try clear p6
              try clear c8
              try clear c8b0
              try clear c10
              try clear c10b0
              try clear c10b1
              try clear p2
              try clear p6
              obtain ⟨x4_5, x9_5, rfl, HA, HK5, HO_4, HB⟩ := hrel
              cases gk with
              | zero => exact absurd HA.out (by simp [clocheref01_Roots.l2])
              | succ k5 =>
               have H := HA.out
               clear HA
               simp only [clocheref01_Roots.l2] at H
               by_cases c11 : x9_5 ≤ 1
               ·rw [if_pos c11] at H
                have c11b0 : decide (x9_5 ≤ 1) = true := decide_eq_true c11
                clear c11
                replace H := Option.bind_eq_some_iff.mp H
                obtain ⟨t568, A120, H⟩ := H
                replace H : (if t568 = true then (if (x4_5.length : Int) = 0 then (if x4_5.length < 4398046511104 then (clocheref01_Roots.l2 k5 a0 (x4_5 ++ [(⟨wrap64 (-a0), x5_2, x6_3, wrap64 ((wrap64 ((wrap64 ((wrap64 (-a0)) + x5_2)) + x6_3)) + (wrap64 ((wrap64 (2 * x9_5)) * x8_6)))⟩ : S23)]) x5_2 x6_3 x8_6 (wrap64 (x9_5 + 2))) else (none)) else (if 0 ≤ (wrap64 ((x4_5.length : Int) - 1)) then (if (wrap64 ((x4_5.length : Int) - 1)) < (x4_5.length : Int) then (if (!(((rd_T23 x4_5 (wrap64 ((x4_5.length : Int) - 1))).f0) == (wrap64 (-a0))) || (!(((rd_T23 x4_5 (wrap64 ((x4_5.length : Int) - 1))).f1) == x5_2) || (!(((rd_T23 x4_5 (wrap64 ((x4_5.length : Int) - 1))).f2) == x6_3) || (!(((rd_T23 x4_5 (wrap64 ((x4_5.length : Int) - 1))).f3) == (wrap64 ((wrap64 ((wrap64 ((wrap64 (-a0)) + x5_2)) + x6_3)) + (wrap64 ((wrap64 (2 * x9_5)) * x8_6))))))))) = true then (if x4_5.length < 4398046511104 then (clocheref01_Roots.l2 k5 a0 (x4_5 ++ [(⟨wrap64 (-a0), x5_2, x6_3, wrap64 ((wrap64 ((wrap64 ((wrap64 (-a0)) + x5_2)) + x6_3)) + (wrap64 ((wrap64 (2 * x9_5)) * x8_6)))⟩ : S23)]) x5_2 x6_3 x8_6 (wrap64 (x9_5 + 2))) else (none)) else (clocheref01_Roots.l2 k5 a0 x4_5 x5_2 x6_3 x8_6 (wrap64 (x9_5 + 2)))) else (none)) else (none))) else (clocheref01_Roots.l2 k5 a0 x4_5 x5_2 x6_3 x8_6 (wrap64 (x9_5 + 2)))) = some (r1, r2) := H
                have A12 := Aside0.mk A120
                clear A120
                by_cases c13 : t568 = true
                ·subst c13
                 have H1 : (if (x4_5.length : Int) = 0 then (if x4_5.length < 4398046511104 then (clocheref01_Roots.l2 k5 a0 (x4_5 ++ [(⟨wrap64 (-a0), x5_2, x6_3, wrap64 ((wrap64 ((wrap64 ((wrap64 (-a0)) + x5_2)) + x6_3)) + (wrap64 ((wrap64 (2 * x9_5)) * x8_6)))⟩ : S23)]) x5_2 x6_3 x8_6 (wrap64 (x9_5 + 2))) else (none)) else (if 0 ≤ (wrap64 ((x4_5.length : Int) - 1)) then (if (wrap64 ((x4_5.length : Int) - 1)) < (x4_5.length : Int) then (if (!(((rd_T23 x4_5 (wrap64 ((x4_5.length : Int) - 1))).f0) == (wrap64 (-a0))) || (!(((rd_T23 x4_5 (wrap64 ((x4_5.length : Int) - 1))).f1) == x5_2) || (!(((rd_T23 x4_5 (wrap64 ((x4_5.length : Int) - 1))).f2) == x6_3) || (!(((rd_T23 x4_5 (wrap64 ((x4_5.length : Int) - 1))).f3) == (wrap64 ((wrap64 ((wrap64 ((wrap64 (-a0)) + x5_2)) + x6_3)) + (wrap64 ((wrap64 (2 * x9_5)) * x8_6))))))))) = true then (if x4_5.length < 4398046511104 then (clocheref01_Roots.l2 k5 a0 (x4_5 ++ [(⟨wrap64 (-a0), x5_2, x6_3, wrap64 ((wrap64 ((wrap64 ((wrap64 (-a0)) + x5_2)) + x6_3)) + (wrap64 ((wrap64 (2 * x9_5)) * x8_6)))⟩ : S23)]) x5_2 x6_3 x8_6 (wrap64 (x9_5 + 2))) else (none)) else (clocheref01_Roots.l2 k5 a0 x4_5 x5_2 x6_3 x8_6 (wrap64 (x9_5 + 2)))) else (none)) else (none))) = some (r1, r2) := by rw [if_pos rfl] at H; exact H
                 clear H
                 have H := H1
                 clear H1
                 by_cases c14 : (x4_5.length : Int) = 0
                 ·rw [if_pos c14] at H
                  have c14b0 : ((x4_5.length : Int) == 0) = true := beq_iff_eq.mpr c14
                  have c14b1 : ((x4_5.length : Int) != 0) = false := bne_eq_false_iff_eq.mpr c14
                  clear c14
                  by_cases c15 : x4_5.length < 4398046511104
                  ·rw [if_pos c15] at H
                   have LMc15 := Aside0.mk c15
                   clear c15
                   obtain ⟨y569, hy569⟩ : ∃ y_ : List (S23), y_ = (x4_5 ++ [(⟨wrap64 (-a0), x5_2, x6_3, wrap64 ((wrap64 ((wrap64 ((wrap64 (-a0)) + x5_2)) + x6_3)) + (wrap64 ((wrap64 (2 * x9_5)) * x8_6)))⟩ : S23)]) := ⟨_, rfl⟩
                   replace H : (clocheref01_Roots.l2 k5 a0 y569 x5_2 x6_3 x8_6 (wrap64 (x9_5 + 2))) = some (r1, r2) := by first | (rw [hy569]; with_reducible exact H) | (have H2_ := (Option.bind_some _ _).symm.trans H; rw [hy569]; with_reducible exact H2_) | (have H2_ := (Option.bind_some _ _).symm.trans H; with_reducible exact H2_) | with_reducible exact H | (rw [hy569]; exact H) | exact H
                   have Ny569 := Aside0.mk hy569
                   clear hy569
                   have H' := Aside0.mk H
                   clear H
                   try go_wp2_with (first | ((with_reducible refine gate_dst (N := 10) rfl ?_); (try (refine gate_guard (by rfl) ?_; dsimp only)); refine box_event ?hg (N := 10) ?hd (cs := #[.int .i64 0, .int .i64 0, .int .i64 0, .int .i64 0]) (t := 23) ?hr ?_; (case hd => rfl); (case hg => rfl); (case hr => exact gs_); intro gb567 hg w16 hbox hb; have n0_ := Aside0.mk (Kd.R_below (Kd.R_elderB (by refine kr_ ?_; exact HO_4.out) gb567 (Nat.le_of_eq hg.symm)) hb); have n1_ := Aside0.mk (below_step (lw_ HB.out) hb); have n2_ := Aside0.mk (hbox); have n3_ := Aside0.mk ((by rw [hg]; exact (below_size (lw_ HB.out)) : w.heap.size ≤ gb567)); have n4_ := Aside0.mk ((by rw [hg]; exact (below_size (lw_ HB.out)) : w.heap.size ≤ gb567)); clear HO_4; clear HB; have HO_4 := n0_; have HB := n1_; have BK567 := n2_; have GW567 := n3_; have GE567 := n4_; clear n0_ n1_ n2_ n3_ n4_; clear hb hbox hg; have hcz17_0 : w16.cell? ⟨gb567, 0, none⟩ = some (.int .i64 0) := (blk_cell BK567.out 0).trans rfl; have hcz17_1 : w16.cell? ⟨gb567, 1, none⟩ = some (.int .i64 0) := (blk_cell BK567.out 1).trans rfl; have hcz17_2 : w16.cell? ⟨gb567, 2, none⟩ = some (.int .i64 0) := (blk_cell BK567.out 2).trans rfl; have hcz17_3 : w16.cell? ⟨gb567, 3, none⟩ = some (.int .i64 0) := (blk_cell BK567.out 3).trans rfl; have hfz17_0 := blk_frozen BK567.out 0; have hfz17_1 := blk_frozen BK567.out 1; have hfz17_2 := blk_frozen BK567.out 2; have hfz17_3 := blk_frozen BK567.out 3))
                   have n0_ : Aside0 (Kd.R k23 23 ((((w16.setCell ⟨gb567, 0, none⟩ (.int .i64 (wrap64 (-a0)))).setCell ⟨gb567, 1, none⟩ (.int .i64 x5_2)).setCell ⟨gb567, 2, none⟩ (.int .i64 x6_3)).setCell ⟨gb567, 3, none⟩ (.int .i64 (wrap64 ((wrap64 ((wrap64 ((wrap64 (-a0)) + x5_2)) + x6_3)) + (wrap64 ((wrap64 (2 * x9_5)) * x8_6)))))) w.heap.size (fun k_ => k_ ≠ gb567) u4 x4_5) := ⟨by refine kr_ ?_; exact Kd.R_mono (Kd.R_far (p := ⟨gb567, 3, none⟩) (Kd.R_far (p := ⟨gb567, 2, none⟩) (Kd.R_far (p := ⟨gb567, 1, none⟩) (Kd.R_far (p := ⟨gb567, 0, none⟩) (Kd.R_mono HO_4.out (fun k_ hk => (⟨hk, hk.2⟩ : _ ∧ k_ ≠ gb567))) (fun _ hk => hk.2) (.int .i64 (wrap64 (-a0)))) (fun _ hk => hk.2) (.int .i64 x5_2)) (fun _ hk => hk.2) (.int .i64 x6_3)) (fun _ hk => hk.2) (.int .i64 (wrap64 ((wrap64 ((wrap64 ((wrap64 (-a0)) + x5_2)) + x6_3)) + (wrap64 ((wrap64 (2 * x9_5)) * x8_6)))))) (fun _ hk => hk.1.2)⟩
                   have n1_ : Aside0 (((((w16.setCell ⟨gb567, 0, none⟩ (.int .i64 (wrap64 (-a0)))).setCell ⟨gb567, 1, none⟩ (.int .i64 x5_2)).setCell ⟨gb567, 2, none⟩ (.int .i64 x6_3)).setCell ⟨gb567, 3, none⟩ (.int .i64 (wrap64 ((wrap64 ((wrap64 ((wrap64 (-a0)) + x5_2)) + x6_3)) + (wrap64 ((wrap64 (2 * x9_5)) * x8_6)))))).heap[gb567]? = some (.cells #[.int .i64 (wrap64 (-a0)), .int .i64 x5_2, .int .i64 x6_3, .int .i64 (wrap64 ((wrap64 ((wrap64 ((wrap64 (-a0)) + x5_2)) + x6_3)) + (wrap64 ((wrap64 (2 * x9_5)) * x8_6))))] 23 (0, 0))) := ⟨by refine bs_ ?_; refine blk_put (cs := #[.int .i64 (wrap64 (-a0)), .int .i64 x5_2, .int .i64 x6_3, .int .i64 0]) ?_ 3 _ rfl; refine bs_ ?_; refine blk_put (cs := #[.int .i64 (wrap64 (-a0)), .int .i64 x5_2, .int .i64 0, .int .i64 0]) ?_ 2 _ rfl; refine bs_ ?_; refine blk_put (cs := #[.int .i64 (wrap64 (-a0)), .int .i64 0, .int .i64 0, .int .i64 0]) ?_ 1 _ rfl; refine bs_ ?_; refine blk_put (cs := #[.int .i64 0, .int .i64 0, .int .i64 0, .int .i64 0]) ?_ 0 _ rfl; refine bs_ ?_; exact BK567.out⟩
                   have n2_ : Aside0 (Below w.heap.size w ((((w16.setCell ⟨gb567, 0, none⟩ (.int .i64 (wrap64 (-a0)))).setCell ⟨gb567, 1, none⟩ (.int .i64 x5_2)).setCell ⟨gb567, 2, none⟩ (.int .i64 x6_3)).setCell ⟨gb567, 3, none⟩ (.int .i64 (wrap64 ((wrap64 ((wrap64 ((wrap64 (-a0)) + x5_2)) + x6_3)) + (wrap64 ((wrap64 (2 * x9_5)) * x8_6))))))) := ⟨by repeat (first | (with_reducible first | exact HB.out | apply below_alloc | apply pw_below_drewN | apply below_drew1 | refine below_set ?_ GE567.out) | exact HB.out)⟩
                   (try clear HO_4)
                   (try clear BK567)
                   (try clear HB)
                   generalize ((((w16.setCell ⟨gb567, 0, none⟩ (.int .i64 (wrap64 (-a0)))).setCell ⟨gb567, 1, none⟩ (.int .i64 x5_2)).setCell ⟨gb567, 2, none⟩ (.int .i64 x6_3)).setCell ⟨gb567, 3, none⟩ (.int .i64 (wrap64 ((wrap64 ((wrap64 ((wrap64 (-a0)) + x5_2)) + x6_3)) + (wrap64 ((wrap64 (2 * x9_5)) * x8_6)))))) = w18 at n0_ n1_ n2_ ⊢
                   have HO_4 := n0_
                   have BK567 := n1_
                   have HB := n2_
                   clear n0_ n1_ n2_
                   have n0_ := Aside0.mk (Kd.R_drew HO_4.out)
                   have n1_ := Aside0.mk (blk_drew BK567.out)
                   have n2_ := Aside0.mk (below_drew1 HB.out)
                   clear HO_4
                   clear BK567
                   clear HB
                   have HO_4 := n0_
                   have BK567 := n1_
                   have HB := n2_
                   clear n0_ n1_ n2_
                   refine start_ (n := 17) (S := fun w' => w'.cell? ⟨gb567, 0, none⟩ = some (.int .i64 (wrap64 (-a0))) ∧ w'.cell? ⟨gb567, 1, none⟩ = some (.int .i64 x5_2) ∧ w'.cell? ⟨gb567, 2, none⟩ = some (.int .i64 x6_3) ∧ w'.cell? ⟨gb567, 3, none⟩ = some (.int .i64 (wrap64 ((wrap64 ((wrap64 ((wrap64 (-a0)) + x5_2)) + x6_3)) + (wrap64 ((wrap64 (2 * x9_5)) * x8_6)))))) (ds := []) #[false, false, false, false, false, false, false, false, false, false, false, false, false, false, false, false, false] (by kernel_rfl) rfl rfl ⟨(blk_cell BK567.out 0).trans rfl, (blk_cell BK567.out 1).trans rfl, (blk_cell BK567.out 2).trans rfl, (blk_cell BK567.out 3).trans rfl⟩ (fun hHeld => ?_); refine with_tabW clocheref01_Roots.tab19 clocheref01_Roots.bits19 (fun HT_ HW_ => ?_)
                   generalize w18.drew = w19 at HO_4 BK567 HB hHeld ⊢
                   refine take_ (i := 0) (N := some 71) (v := ?_) (a' := ?_) #[true, false, false, false, false, false, false, false, false, false, false, false, false, false, false, false, false] rfl rfl (take_ofW HT_.out HW_.out (by kernel_rfl)) (fun _ _ _ h => h) (Or.inl ⟨by rfl, ?_⟩) hHeld ?_ ?_
                   rotate_left
                   ·rintro w' ⟨s0, s1, s2, s3⟩
                    go_simp
                    with_reducible rfl
                   rotate_left
                   ·exact pt_
                   refine one_ (i := 1) (N := some 72) #[true, true, false, false, false, false, false, false, false, false, false, false, false, false, false, false, false] rfl rfl (one_of HT_.out (by kernel_rfl)) (by decide) (fun K hK => ?_)
                   refine goes_ Try.func39 (by kernel_rfl) rfl #[.agg #[.int .i64 (wrap64 (-a0)), .int .i64 x5_2, .int .i64 x6_3, .int .i64 (wrap64 ((wrap64 ((wrap64 ((wrap64 (-a0)) + x5_2)) + x6_3)) + (wrap64 ((wrap64 (2 * x9_5)) * x8_6))))]] (by rfl) rfl rfl mp_ ?_
                   with_reducible refine (clocheref01_IsRoot.calls k5 (wrap64 (-a0)) x5_2 x6_3 (wrap64 ((wrap64 ((wrap64 ((wrap64 (-a0)) + x5_2)) + x6_3)) + (wrap64 ((wrap64 (2 * x9_5)) * x8_6)))) true _ A12.out).mono ?_
                   rintro e w20 ⟨rfl, hb⟩
                   refine ⟨_, rfl, ?_⟩
                   have n0_ := Aside0.mk (Kd.R_below (by refine kr_ ?_; exact HO_4.out) hb)
                   have n1_ := Aside0.mk (blk_below (g := gb567) (o := .cells #[.int .i64 (wrap64 (-a0)), .int .i64 x5_2, .int .i64 x6_3, .int .i64 (wrap64 ((wrap64 ((wrap64 ((wrap64 (-a0)) + x5_2)) + x6_3)) + (wrap64 ((wrap64 (2 * x9_5)) * x8_6))))] 23 (0, 0)) (by refine bs_ ?_; exact BK567.out) hb)
                   have n2_ := Aside0.mk (below_step (by repeat (first | (with_reducible first | exact HB.out | apply below_alloc | apply pw_below_drewN | apply below_drew1 | refine below_set ?_ GE567.out) | exact HB.out)) hb)
                   clear HO_4
                   clear BK567
                   clear HB
                   have HO_4 := n0_
                   have BK567 := n1_
                   have HB := n2_
                   clear n0_ n1_ n2_
                   (try clear hb)
                   (try clear hb2)
                   (try clear hk)
                   (try clear hi)
                   obtain ⟨Ao21, co21, eo21⟩ := Kd.R_slice HO_4.out
                   (first | subst eo21 | (injection eo21 with f1_ f2_ f3_; have f4_ := f1_.symm; have f5_ := f3_.symm; clear f1_ f2_ f3_; subst f4_; subst f5_))
                   refine hK.out _ _ ⟨(blk_cell BK567.out 0).trans rfl, (blk_cell BK567.out 1).trans rfl, (blk_cell BK567.out 2).trans rfl, (blk_cell BK567.out 3).trans rfl⟩ (fun hHeld => ?_)
                   clear hK K
                   refine norm_ (a' := ?_) ?_ ?_
                   rotate_left
                   ·show Act.put _ (some 72) _ = _
                    exact pt_
                   refine pure_ (i := 2) (N := some 73) (v := ?_) (a' := ?_) #[true, true, true, false, false, false, false, false, false, false, false, false, false, false, false, false, false] rfl rfl (any_of HT_.out (by kernel_rfl)) (fun _ _ _ h => h) (Or.inl ⟨by rfl, ?_⟩) ?_ ?_
                   rotate_left
                   ·intro w'
                    go_simp
                    with_reducible rfl
                   rotate_left
                   ·exact pt_
                   refine pure_ (i := 3) (N := some 74) (v := ?_) (a' := ?_) #[true, true, true, true, false, false, false, false, false, false, false, false, false, false, false, false, false] rfl rfl (any_of HT_.out (by kernel_rfl)) (fun _ _ _ h => h) (Or.inl ⟨by rfl, ?_⟩) ?_ ?_
                   rotate_left
                   ·intro w'
                    go_simp
                    with_reducible rfl
                   rotate_left
                   ·exact pt_
                   refine pure_ (i := 4) (N := some 75) (v := ?_) (a' := ?_) #[true, true, true, true, true, false, false, false, false, false, false, false, false, false, false, false, false] rfl rfl (any_of HT_.out (by kernel_rfl)) (fun _ _ _ h => h) (Or.inl ⟨by rfl, ?_⟩) ?_ ?_
                   rotate_left
                   ·intro w'
                    go_simp
                    with_reducible rfl
                   rotate_left
                   ·exact pt_
                   refine pure_ (i := 5) (N := some 76) (v := ?_) (a' := ?_) #[true, true, true, true, true, true, false, false, false, false, false, false, false, false, false, false, false] rfl rfl (any_of HT_.out (by kernel_rfl)) (fun _ _ _ h => h) (Or.inl ⟨by rfl, ?_⟩) ?_ ?_
                   rotate_left
                   ·intro w'
                    go_simp
                    with_reducible rfl
                   rotate_left
                   ·exact pt_
                   refine pure_ (i := 6) (N := some 77) (v := ?_) (a' := ?_) #[true, true, true, true, true, true, true, false, false, false, false, false, false, false, false, false, false] rfl rfl (any_of HT_.out (by kernel_rfl)) (fun _ _ _ h => h) (Or.inl ⟨by rfl, ?_⟩) ?_ ?_
                   rotate_left
                   ·intro w'
                    go_simp
                    with_reducible rfl
                   rotate_left
                   ·exact pt_
                   refine pure_ (i := 7) (N := some 78) (v := undef) (a' := ?_) #[true, true, true, true, true, true, true, true, false, false, false, false, false, false, false, false, false] rfl rfl (any_of HT_.out (by kernel_rfl)) (fun _ _ _ h => h) (Or.inr ⟨by rfl, rfl⟩) ?_ ?_
                   rotate_left
                   ·exact pt_
                   refine pure_ (i := 8) (N := some 79) (v := undef) (a' := ?_) #[true, true, true, true, true, true, true, true, true, false, false, false, false, false, false, false, false] rfl rfl (any_of HT_.out (by kernel_rfl)) (fun _ _ _ h => h) (Or.inr ⟨by rfl, rfl⟩) ?_ ?_
                   rotate_left
                   ·exact pt_
                   refine pure_ (i := 9) (N := some 80) (v := undef) (a' := ?_) #[true, true, true, true, true, true, true, true, true, true, false, false, false, false, false, false, false] rfl rfl (any_of HT_.out (by kernel_rfl)) (fun _ _ _ h => h) (Or.inr ⟨by rfl, rfl⟩) ?_ ?_
                   rotate_left
                   ·exact pt_
                   refine pure_ (i := 10) (N := some 81) (v := undef) (a' := ?_) #[true, true, true, true, true, true, true, true, true, true, true, false, false, false, false, false, false] rfl rfl (any_of HT_.out (by kernel_rfl)) (fun _ _ _ h => h) (Or.inr ⟨by rfl, rfl⟩) ?_ ?_
                   rotate_left
                   ·exact pt_
                   refine pure_ (i := 11) (N := some 82) (v := undef) (a' := ?_) #[true, true, true, true, true, true, true, true, true, true, true, true, false, false, false, false, false] rfl rfl (any_of HT_.out (by kernel_rfl)) (fun _ _ _ h => h) (Or.inr ⟨by rfl, rfl⟩) ?_ ?_
                   rotate_left
                   ·exact pt_
                   refine pure_ (i := 12) (N := some 83) (v := undef) (a' := ?_) #[true, true, true, true, true, true, true, true, true, true, true, true, true, false, false, false, false] rfl rfl (any_of HT_.out (by kernel_rfl)) (fun _ _ _ h => h) (Or.inr ⟨by rfl, rfl⟩) ?_ ?_
                   rotate_left
                   ·exact pt_
                   refine pure_ (i := 13) (N := some 84) (v := undef) (a' := ?_) #[true, true, true, true, true, true, true, true, true, true, true, true, true, true, false, false, false] rfl rfl (any_of HT_.out (by kernel_rfl)) (fun _ _ _ h => h) (Or.inr ⟨by rfl, rfl⟩) ?_ ?_
                   rotate_left
                   ·exact pt_
                   refine pure_ (i := 14) (N := some 85) (v := undef) (a' := ?_) #[true, true, true, true, true, true, true, true, true, true, true, true, true, true, true, false, false] rfl rfl (any_of HT_.out (by kernel_rfl)) (fun _ _ _ h => h) (Or.inr ⟨by rfl, rfl⟩) ?_ ?_
                   rotate_left
                   ·exact pt_
                   refine pure_ (i := 15) (N := some 86) (v := ?_) (a' := ?_) #[true, true, true, true, true, true, true, true, true, true, true, true, true, true, true, true, false] rfl rfl (any_of HT_.out (by kernel_rfl)) (fun _ _ _ h => h) (Or.inl ⟨by rfl, ?_⟩) ?_ ?_
                   rotate_left
                   ·intro w'
                    go_simp
                    with_reducible rfl
                   rotate_left
                   ·exact pt_
                   refine pure_ (i := 16) (N := some 87) (v := ?_) (a' := ?_) #[true, true, true, true, true, true, true, true, true, true, true, true, true, true, true, true, true] rfl rfl (any_of HT_.out (by kernel_rfl)) (fun _ _ _ h => h) (Or.inl ⟨by rfl, ?_⟩) ?_ ?_
                   rotate_left
                   ·intro w'
                    go_simp
                    with_reducible rfl
                   rotate_left
                   ·exact pt_
                   refine done_ (done_of HT_.out (by kernel_rfl)) ?_
                   have hcz22_0 : w20.cell? ⟨gb567, 0, none⟩ = some (.int .i64 (wrap64 (-a0))) := (blk_cell BK567.out 0).trans rfl
                   have hcz22_1 : w20.cell? ⟨gb567, 1, none⟩ = some (.int .i64 x5_2) := (blk_cell BK567.out 1).trans rfl
                   have hcz22_2 : w20.cell? ⟨gb567, 2, none⟩ = some (.int .i64 x6_3) := (blk_cell BK567.out 2).trans rfl
                   have hcz22_3 : w20.cell? ⟨gb567, 3, none⟩ = some (.int .i64 (wrap64 ((wrap64 ((wrap64 ((wrap64 (-a0)) + x5_2)) + x6_3)) + (wrap64 ((wrap64 (2 * x9_5)) * x8_6))))) := (blk_cell BK567.out 3).trans rfl
                   have hfz22_0 := blk_frozen BK567.out 0
                   have hfz22_1 := blk_frozen BK567.out 1
                   have hfz22_2 := blk_frozen BK567.out 2
                   have hfz22_3 := blk_frozen BK567.out 3
                   try go_wp2_with (first | ((with_reducible refine gate_builtin (b := .append) (xs := #[.tmp 88, .tmp 90]) rfl ?_); (try (refine gate_guard (by rfl) ?_; dsimp only)); at_builtin; refine Kd.R_append k23 (w0 := w) w.heap.size rfl (.tmp 88) (.tmp 90) 31 23 (.agg #[(.int .i64 0), (.int .i64 0), (.int .i64 0), (.int .i64 0)]) 32 rfl Try.underlying31 info23 rfl (by decide) (by omega) (.slice Ao21 x4_5.length co21) x4_5 (⟨wrap64 (-a0), x5_2, x6_3, wrap64 ((wrap64 ((wrap64 ((wrap64 (-a0)) + x5_2)) + x6_3)) + (wrap64 ((wrap64 (2 * x9_5)) * x8_6)))⟩ : S23) [.int .i64 (wrap64 (-a0)), .int .i64 x5_2, .int .i64 x6_3, .int .i64 (wrap64 ((wrap64 ((wrap64 ((wrap64 (-a0)) + x5_2)) + x6_3)) + (wrap64 ((wrap64 (2 * x9_5)) * x8_6))))] (fun k_ => k_ ≠ gb567) (fun _ => False) rfl rfl ?aP (fun _ hk => hk.elim) ?aF ?aO ?aB ?aS ?aL ?_; (case aP => exact k23_mkM _ _ _ (⟨wrap64 (-a0), x5_2, x6_3, wrap64 ((wrap64 ((wrap64 ((wrap64 (-a0)) + x5_2)) + x6_3)) + (wrap64 ((wrap64 (2 * x9_5)) * x8_6)))⟩ : S23)); (case aB => exact (by repeat (first | (with_reducible first | exact HB.out | apply below_alloc | apply pw_below_drewN | apply below_drew1 | refine below_set ?_ GE567.out) | exact HB.out))); (case aF => exact (fun k_ hk => Kd.freshB (g := gb567) (o := .cells #[.int .i64 (wrap64 (-a0)), .int .i64 x5_2, .int .i64 x6_3, .int .i64 (wrap64 ((wrap64 ((wrap64 ((wrap64 (-a0)) + x5_2)) + x6_3)) + (wrap64 ((wrap64 (2 * x9_5)) * x8_6))))] 23 (0, 0)) (by refine bs_ ?_; exact BK567.out) k_ hk)); (case aO => exact (by refine kr_ ?_; exact HO_4.out)); (case aS => exact (below_size (by repeat (first | (with_reducible first | exact HB.out | apply below_alloc | apply pw_below_drewN | apply below_drew1 | refine below_set ?_ GE567.out) | exact HB.out)))); (case aL => have := LMc15.out; omega); intro v570 w23 ho hb hg hat; rw [← Ny569.out] at ho; have n0_ := Aside0.mk (blk_grown (g := gb567) (o := .cells #[.int .i64 (wrap64 (-a0)), .int .i64 x5_2, .int .i64 x6_3, .int .i64 (wrap64 ((wrap64 ((wrap64 ((wrap64 (-a0)) + x5_2)) + x6_3)) + (wrap64 ((wrap64 (2 * x9_5)) * x8_6))))] 23 (0, 0)) (by refine bs_ ?_; exact BK567.out) hg (Kd.R_away HO_4.out (fun _ hk => hk))); have n1_ := Aside0.mk (hb); have n2_ := Aside0.mk (ho); clear BK567; clear HB; clear HO_4; have BK567 := n0_; have HB := n1_; have HO571 := n2_; clear n0_ n1_ n2_; clear ho hb hg hat))
                   go_roundg k5
                   case measure => have := HJ1.out; have := HK2.out; have := HK3.out; have := HJ6.out; have := HK5.out; omega
                   case rel => exact ⟨(y569), (wrap64 (x9_5 + 2)), eq_, H', ⟨by have := HJ1.out; have := HK2.out; have := HK3.out; have := HJ6.out; have := HK5.out; omega⟩, ⟨by refine kr_ ?_; exact Kd.R_mono HO571.out (fun _ hk => trivial)⟩, ⟨by repeat (first | (with_reducible first | exact HB.out | apply below_alloc | apply pw_below_drewN | apply below_drew1 | refine below_set ?_ GE567.out) | exact HB.out)⟩⟩
                  ·rw [if_neg c15] at H
                   exact absurd H (by simp)
                 ·rw [if_neg c14] at H
                  have c14b0 : ((x4_5.length : Int) == 0) = false := beq_eq_false_iff_ne.mpr c14
                  have c14b1 : ((x4_5.length : Int) != 0) = true := bne_iff_ne.mpr c14
                  have c14b2 : ¬ (x4_5 = []) := fun h_ => c14 (by rw [h_]; rfl)
                  obtain ⟨ji24, hji24⟩ : ∃ j_ : Int, (wrap64 ((x4_5.length : Int) - 1)) = j_ := ⟨_, rfl⟩
                  replace H : (if 0 ≤ (ji24) then (if (ji24) < (x4_5.length : Int) then (if (!(((rd_T23 x4_5 (ji24)).f0) == (wrap64 (-a0))) || (!(((rd_T23 x4_5 (ji24)).f1) == x5_2) || (!(((rd_T23 x4_5 (ji24)).f2) == x6_3) || (!(((rd_T23 x4_5 (ji24)).f3) == (wrap64 ((wrap64 ((wrap64 ((wrap64 (-a0)) + x5_2)) + x6_3)) + (wrap64 ((wrap64 (2 * x9_5)) * x8_6))))))))) = true then (if x4_5.length < 4398046511104 then (clocheref01_Roots.l2 k5 a0 (x4_5 ++ [(⟨wrap64 (-a0), x5_2, x6_3, wrap64 ((wrap64 ((wrap64 ((wrap64 (-a0)) + x5_2)) + x6_3)) + (wrap64 ((wrap64 (2 * x9_5)) * x8_6)))⟩ : S23)]) x5_2 x6_3 x8_6 (wrap64 (x9_5 + 2))) else (none)) else (clocheref01_Roots.l2 k5 a0 x4_5 x5_2 x6_3 x8_6 (wrap64 (x9_5 + 2)))) else (none)) else (none)) = some (r1, r2) := by first | (rw [hji24] at H; exact H) | (simp only [hji24] at H ⊢; exact H)
                  (try rw [hji24] at A12)
                  have hji24w : (IntKind.i64.wrap ((x4_5.length : Int) - 1)) = ji24 := (i64_w _).trans hji24
                  by_cases c25 : 0 ≤ (ji24)
                  ·rw [if_pos c25] at H
                   have c25b0 : decide (0 ≤ (ji24)) = true := decide_eq_true c25
                   clear c25
                   by_cases c26 : (ji24) < (x4_5.length : Int)
                   ·rw [if_pos c26] at H
                    have c26b0 : decide ((ji24) < (x4_5.length : Int)) = true := decide_eq_true c26
                    clear c26
                    by_cases c27 : (!(((rd_T23 x4_5 (ji24)).f0) == (wrap64 (-a0))) || (!(((rd_T23 x4_5 (ji24)).f1) == x5_2) || (!(((rd_T23 x4_5 (ji24)).f2) == x6_3) || (!(((rd_T23 x4_5 (ji24)).f3) == (wrap64 ((wrap64 ((wrap64 ((wrap64 (-a0)) + x5_2)) + x6_3)) + (wrap64 ((wrap64 (2 * x9_5)) * x8_6))))))))) = true
                    ·rw [if_pos c27] at H
                     have c27b0 : (!(((rd_T23 x4_5 (ji24)).f0) == (wrap64 (-a0))) || (!(((rd_T23 x4_5 (ji24)).f1) == x5_2) || (!(((rd_T23 x4_5 (ji24)).f2) == x6_3) || (!(((rd_T23 x4_5 (ji24)).f3) == (wrap64 ((wrap64 ((wrap64 ((wrap64 (-a0)) + x5_2)) + x6_3)) + (wrap64 ((wrap64 (2 * x9_5)) * x8_6))))))))) = true := c27
                     clear c27
                     by_cases c28 : x4_5.length < 4398046511104
                     ·rw [if_pos c28] at H
                      have LMc28 := Aside0.mk c28
                      clear c28
                      obtain ⟨y573, hy573⟩ : ∃ y_ : List (S23), y_ = (x4_5 ++ [(⟨wrap64 (-a0), x5_2, x6_3, wrap64 ((wrap64 ((wrap64 ((wrap64 (-a0)) + x5_2)) + x6_3)) + (wrap64 ((wrap64 (2 * x9_5)) * x8_6)))⟩ : S23)]) := ⟨_, rfl⟩
                      replace H : (clocheref01_Roots.l2 k5 a0 y573 x5_2 x6_3 x8_6 (wrap64 (x9_5 + 2))) = some (r1, r2) := by first | (rw [hy573]; with_reducible exact H) | (have H2_ := (Option.bind_some _ _).symm.trans H; rw [hy573]; with_reducible exact H2_) | (have H2_ := (Option.bind_some _ _).symm.trans H; with_reducible exact H2_) | with_reducible exact H | (rw [hy573]; exact H) | exact H
                      have Ny573 := Aside0.mk hy573
                      clear hy573
                      have H' := Aside0.mk H
                      clear H
                      try go_wp2_with (first | ((with_reducible refine gate_dst (N := 10) rfl ?_); (try (refine gate_guard (by rfl) ?_; dsimp only)); refine box_event ?hg (N := 10) ?hd (cs := #[.int .i64 0, .int .i64 0, .int .i64 0, .int .i64 0]) (t := 23) ?hr ?_; (case hd => rfl); (case hg => rfl); (case hr => exact gs_); intro gb567 hg w29 hbox hb; have n0_ := Aside0.mk (Kd.R_below (Kd.R_elderB (by refine kr_ ?_; exact HO_4.out) gb567 (Nat.le_of_eq hg.symm)) hb); have n1_ := Aside0.mk (below_step (lw_ HB.out) hb); have n2_ := Aside0.mk (hbox); have n3_ := Aside0.mk ((by rw [hg]; exact (below_size (lw_ HB.out)) : w.heap.size ≤ gb567)); have n4_ := Aside0.mk ((by rw [hg]; exact (below_size (lw_ HB.out)) : w.heap.size ≤ gb567)); clear HO_4; clear HB; have HO_4 := n0_; have HB := n1_; have BK567 := n2_; have GW567 := n3_; have GE567 := n4_; clear n0_ n1_ n2_ n3_ n4_; clear hb hbox hg; have hcz30_0 : w29.cell? ⟨gb567, 0, none⟩ = some (.int .i64 0) := (blk_cell BK567.out 0).trans rfl; have hcz30_1 : w29.cell? ⟨gb567, 1, none⟩ = some (.int .i64 0) := (blk_cell BK567.out 1).trans rfl; have hcz30_2 : w29.cell? ⟨gb567, 2, none⟩ = some (.int .i64 0) := (blk_cell BK567.out 2).trans rfl; have hcz30_3 : w29.cell? ⟨gb567, 3, none⟩ = some (.int .i64 0) := (blk_cell BK567.out 3).trans rfl; have hfz30_0 := blk_frozen BK567.out 0; have hfz30_1 := blk_frozen BK567.out 1; have hfz30_2 := blk_frozen BK567.out 2; have hfz30_3 := blk_frozen BK567.out 3))
                      have n0_ : Aside0 (Kd.R k23 23 ((((w29.setCell ⟨gb567, 0, none⟩ (.int .i64 (wrap64 (-a0)))).setCell ⟨gb567, 1, none⟩ (.int .i64 x5_2)).setCell ⟨gb567, 2, none⟩ (.int .i64 x6_3)).setCell ⟨gb567, 3, none⟩ (.int .i64 (wrap64 ((wrap64 ((wrap64 ((wrap64 (-a0)) + x5_2)) + x6_3)) + (wrap64 ((wrap64 (2 * x9_5)) * x8_6)))))) w.heap.size (fun k_ => k_ ≠ gb567) u4 x4_5) := ⟨by refine kr_ ?_; exact Kd.R_mono (Kd.R_far (p := ⟨gb567, 3, none⟩) (Kd.R_far (p := ⟨gb567, 2, none⟩) (Kd.R_far (p := ⟨gb567, 1, none⟩) (Kd.R_far (p := ⟨gb567, 0, none⟩) (Kd.R_mono HO_4.out (fun k_ hk => (⟨hk, hk.2⟩ : _ ∧ k_ ≠ gb567))) (fun _ hk => hk.2) (.int .i64 (wrap64 (-a0)))) (fun _ hk => hk.2) (.int .i64 x5_2)) (fun _ hk => hk.2) (.int .i64 x6_3)) (fun _ hk => hk.2) (.int .i64 (wrap64 ((wrap64 ((wrap64 ((wrap64 (-a0)) + x5_2)) + x6_3)) + (wrap64 ((wrap64 (2 * x9_5)) * x8_6)))))) (fun _ hk => hk.1.2)⟩
                      have n1_ : Aside0 (((((w29.setCell ⟨gb567, 0, none⟩ (.int .i64 (wrap64 (-a0)))).setCell ⟨gb567, 1, none⟩ (.int .i64 x5_2)).setCell ⟨gb567, 2, none⟩ (.int .i64 x6_3)).setCell ⟨gb567, 3, none⟩ (.int .i64 (wrap64 ((wrap64 ((wrap64 ((wrap64 (-a0)) + x5_2)) + x6_3)) + (wrap64 ((wrap64 (2 * x9_5)) * x8_6)))))).heap[gb567]? = some (.cells #[.int .i64 (wrap64 (-a0)), .int .i64 x5_2, .int .i64 x6_3, .int .i64 (wrap64 ((wrap64 ((wrap64 ((wrap64 (-a0)) + x5_2)) + x6_3)) + (wrap64 ((wrap64 (2 * x9_5)) * x8_6))))] 23 (0, 0))) := ⟨by refine bs_ ?_; refine blk_put (cs := #[.int .i64 (wrap64 (-a0)), .int .i64 x5_2, .int .i64 x6_3, .int .i64 0]) ?_ 3 _ rfl; refine bs_ ?_; refine blk_put (cs := #[.int .i64 (wrap64 (-a0)), .int .i64 x5_2, .int .i64 0, .int .i64 0]) ?_ 2 _ rfl; refine bs_ ?_; refine blk_put (cs := #[.int .i64 (wrap64 (-a0)), .int .i64 0, .int .i64 0, .int .i64 0]) ?_ 1 _ rfl; refine bs_ ?_; refine blk_put (cs := #[.int .i64 0, .int .i64 0, .int .i64 0, .int .i64 0]) ?_ 0 _ rfl; refine bs_ ?_; exact BK567.out⟩
                      have n2_ : Aside0 (Below w.heap.size w ((((w29.setCell ⟨gb567, 0, none⟩ (.int .i64 (wrap64 (-a0)))).setCell ⟨gb567, 1, none⟩ (.int .i64 x5_2)).setCell ⟨gb567, 2, none⟩ (.int .i64 x6_3)).setCell ⟨gb567, 3, none⟩ (.int .i64 (wrap64 ((wrap64 ((wrap64 ((wrap64 (-a0)) + x5_2)) + x6_3)) + (wrap64 ((wrap64 (2 * x9_5)) * x8_6))))))) := ⟨by repeat (first | (with_reducible first | exact HB.out | apply below_alloc | apply pw_below_drewN | apply below_drew1 | refine below_set ?_ GE567.out) | exact HB.out)⟩
                      (try clear HO_4)
                      (try clear BK567)
                      (try clear HB)
                      generalize ((((w29.setCell ⟨gb567, 0, none⟩ (.int .i64 (wrap64 (-a0)))).setCell ⟨gb567, 1, none⟩ (.int .i64 x5_2)).setCell ⟨gb567, 2, none⟩ (.int .i64 x6_3)).setCell ⟨gb567, 3, none⟩ (.int .i64 (wrap64 ((wrap64 ((wrap64 ((wrap64 (-a0)) + x5_2)) + x6_3)) + (wrap64 ((wrap64 (2 * x9_5)) * x8_6)))))) = w31 at n0_ n1_ n2_ ⊢
                      have HO_4 := n0_
                      have BK567 := n1_
                      have HB := n2_
                      clear n0_ n1_ n2_
                      have n0_ := Aside0.mk (Kd.R_drew HO_4.out)
                      have n1_ := Aside0.mk (blk_drew BK567.out)
                      have n2_ := Aside0.mk (below_drew1 HB.out)
                      clear HO_4
                      clear BK567
                      clear HB
                      have HO_4 := n0_
                      have BK567 := n1_
                      have HB := n2_
                      clear n0_ n1_ n2_
                      have p572 : 0 ≤ ((ji24) : Int) := of_decide_eq_true as_
                      have q572 : (ji24) < (x4_5.length : Int) := of_decide_eq_true as_
                      obtain ⟨Az_, cz_, ez_⟩ := Kd.R_slice HO_4.out
                      (first | subst ez_ | clear ez_)
                      obtain ⟨ad572, e572, hx572_0, hx572_1, hx572_2, hx572_3⟩ := at_T23 (Kd.R_reads' HO_4.out).2.2 (ji24) p572 q572
                      cases e572
                      replace p572 := eq_true p572
                      replace q572 := eq_true q572
                      refine start_ (n := 17) (S := fun w' => w'.cell? ⟨gb567, 0, none⟩ = some (.int .i64 (wrap64 (-a0))) ∧ w'.cell? ⟨gb567, 1, none⟩ = some (.int .i64 x5_2) ∧ w'.cell? ⟨gb567, 2, none⟩ = some (.int .i64 x6_3) ∧ w'.cell? ⟨gb567, 3, none⟩ = some (.int .i64 (wrap64 ((wrap64 ((wrap64 ((wrap64 (-a0)) + x5_2)) + x6_3)) + (wrap64 ((wrap64 (2 * x9_5)) * x8_6))))) ∧ w'.cell? (ad572.add (((ji24)).toNat * 4)) = some (.int .i64 ((rd_T23 x4_5 (ji24)).f0)) ∧ w'.cell? ⟨(ad572.add (((ji24)).toNat * 4)).block, (ad572.add (((ji24)).toNat * 4)).off + 1, none⟩ = some (.int .i64 ((rd_T23 x4_5 (ji24)).f1)) ∧ w'.cell? ⟨(ad572.add (((ji24)).toNat * 4)).block, (ad572.add (((ji24)).toNat * 4)).off + 2, none⟩ = some (.int .i64 ((rd_T23 x4_5 (ji24)).f2)) ∧ w'.cell? ⟨(ad572.add (((ji24)).toNat * 4)).block, (ad572.add (((ji24)).toNat * 4)).off + 3, none⟩ = some (.int .i64 ((rd_T23 x4_5 (ji24)).f3))) (ds := []) #[false, false, false, false, false, false, false, false, false, false, false, false, false, false, false, false, false] (by kernel_rfl) rfl rfl ⟨(blk_cell BK567.out 0).trans rfl, (blk_cell BK567.out 1).trans rfl, (blk_cell BK567.out 2).trans rfl, (blk_cell BK567.out 3).trans rfl, hx572_0, hx572_1, hx572_2, hx572_3⟩ (fun hHeld => ?_); refine with_tabW clocheref01_Roots.tab19 clocheref01_Roots.bits19 (fun HT_ HW_ => ?_)
                      generalize w31.drew = w32 at HO_4 BK567 HB hx572_0 hx572_1 hx572_2 hx572_3 hHeld ⊢
                      refine take_ (i := 0) (N := some 71) (v := ?_) (a' := ?_) #[true, false, false, false, false, false, false, false, false, false, false, false, false, false, false, false, false] rfl rfl (take_ofW HT_.out HW_.out (by kernel_rfl)) (fun _ _ _ h => h) (Or.inl ⟨by rfl, ?_⟩) hHeld ?_ ?_
                      rotate_left
                      ·rintro w' ⟨s0, s1, s2, s3, s4, s5, s6, s7⟩
                       go_simp
                       with_reducible rfl
                      rotate_left
                      ·exact pt_
                      refine one_ (i := 1) (N := some 72) #[true, true, false, false, false, false, false, false, false, false, false, false, false, false, false, false, false] rfl rfl (one_of HT_.out (by kernel_rfl)) (by decide) (fun K hK => ?_)
                      refine goes_ Try.func39 (by kernel_rfl) rfl #[.agg #[.int .i64 (wrap64 (-a0)), .int .i64 x5_2, .int .i64 x6_3, .int .i64 (wrap64 ((wrap64 ((wrap64 ((wrap64 (-a0)) + x5_2)) + x6_3)) + (wrap64 ((wrap64 (2 * x9_5)) * x8_6))))]] (by rfl) rfl rfl mp_ ?_
                      with_reducible refine (clocheref01_IsRoot.calls k5 (wrap64 (-a0)) x5_2 x6_3 (wrap64 ((wrap64 ((wrap64 ((wrap64 (-a0)) + x5_2)) + x6_3)) + (wrap64 ((wrap64 (2 * x9_5)) * x8_6)))) true _ A12.out).mono ?_
                      rintro e w33 ⟨rfl, hb⟩
                      have HS4_ := (hb.cell (World.block_lt_of_cell? _ _ (hHeld.2.2.2.2.1))).trans (hHeld.2.2.2.2.1)
                      have HS5_ := (hb.cell (World.block_lt_of_cell? _ _ (hHeld.2.2.2.2.2.1))).trans (hHeld.2.2.2.2.2.1)
                      have HS6_ := (hb.cell (World.block_lt_of_cell? _ _ (hHeld.2.2.2.2.2.2.1))).trans (hHeld.2.2.2.2.2.2.1)
                      have HS7_ := (hb.cell (World.block_lt_of_cell? _ _ (hHeld.2.2.2.2.2.2.2))).trans (hHeld.2.2.2.2.2.2.2)
                      refine ⟨_, rfl, ?_⟩
                      have n0_ := Aside0.mk (Kd.R_below (by refine kr_ ?_; exact HO_4.out) hb)
                      have n1_ := Aside0.mk (blk_below (g := gb567) (o := .cells #[.int .i64 (wrap64 (-a0)), .int .i64 x5_2, .int .i64 x6_3, .int .i64 (wrap64 ((wrap64 ((wrap64 ((wrap64 (-a0)) + x5_2)) + x6_3)) + (wrap64 ((wrap64 (2 * x9_5)) * x8_6))))] 23 (0, 0)) (by refine bs_ ?_; exact BK567.out) hb)
                      have n2_ := Aside0.mk (below_step (by repeat (first | (with_reducible first | exact HB.out | apply below_alloc | apply pw_below_drewN | apply below_drew1 | refine below_set ?_ GE567.out) | exact HB.out)) hb)
                      clear HO_4
                      clear BK567
                      clear HB
                      have HO_4 := n0_
                      have BK567 := n1_
                      have HB := n2_
                      clear n0_ n1_ n2_
                      (try clear hb)
                      (try clear hb2)
                      (try clear hk)
                      (try clear hi)
                      obtain ⟨Ao34, co34, eo34⟩ := Kd.R_slice HO_4.out
                      (first | subst eo34 | (injection eo34 with f1_ f2_ f3_; have f4_ := f1_.symm; have f5_ := f3_.symm; clear f1_ f2_ f3_; subst f4_; subst f5_))
                      refine hK.out _ _ ⟨(blk_cell BK567.out 0).trans rfl, (blk_cell BK567.out 1).trans rfl, (blk_cell BK567.out 2).trans rfl, (blk_cell BK567.out 3).trans rfl, HS4_, HS5_, HS6_, HS7_⟩ (fun hHeld => ?_)
                      clear hK K
                      refine norm_ (a' := ?_) ?_ ?_
                      rotate_left
                      ·show Act.put _ (some 72) _ = _
                       exact pt_
                      refine pure_ (i := 2) (N := some 73) (v := ?_) (a' := ?_) #[true, true, true, false, false, false, false, false, false, false, false, false, false, false, false, false, false] rfl rfl (any_of HT_.out (by kernel_rfl)) (fun _ _ _ h => h) (Or.inl ⟨by rfl, ?_⟩) ?_ ?_
                      rotate_left
                      ·intro w'
                       go_simp
                       with_reducible rfl
                      rotate_left
                      ·exact pt_
                      refine pure_ (i := 3) (N := some 74) (v := ?_) (a' := ?_) #[true, true, true, true, false, false, false, false, false, false, false, false, false, false, false, false, false] rfl rfl (any_of HT_.out (by kernel_rfl)) (fun _ _ _ h => h) (Or.inl ⟨by rfl, ?_⟩) ?_ ?_
                      rotate_left
                      ·intro w'
                       go_simp
                       with_reducible rfl
                      rotate_left
                      ·exact pt_
                      refine pure_ (i := 4) (N := some 75) (v := ?_) (a' := ?_) #[true, true, true, true, true, false, false, false, false, false, false, false, false, false, false, false, false] rfl rfl (any_of HT_.out (by kernel_rfl)) (fun _ _ _ h => h) (Or.inl ⟨by rfl, ?_⟩) ?_ ?_
                      rotate_left
                      ·intro w'
                       go_simp
                       with_reducible rfl
                      rotate_left
                      ·exact pt_
                      refine pure_ (i := 5) (N := some 76) (v := ?_) (a' := ?_) #[true, true, true, true, true, true, false, false, false, false, false, false, false, false, false, false, false] rfl rfl (any_of HT_.out (by kernel_rfl)) (fun _ _ _ h => h) (Or.inl ⟨by rfl, ?_⟩) ?_ ?_
                      rotate_left
                      ·intro w'
                       go_simp
                       with_reducible rfl
                      rotate_left
                      ·exact pt_
                      refine pure_ (i := 6) (N := some 77) (v := ?_) (a' := ?_) #[true, true, true, true, true, true, true, false, false, false, false, false, false, false, false, false, false] rfl rfl (any_of HT_.out (by kernel_rfl)) (fun _ _ _ h => h) (Or.inl ⟨by rfl, ?_⟩) ?_ ?_
                      rotate_left
                      ·intro w'
                       go_simp
                       with_reducible rfl
                      rotate_left
                      ·exact pt_
                      refine pure_ (i := 7) (N := some 78) (v := ?_) (a' := ?_) #[true, true, true, true, true, true, true, true, false, false, false, false, false, false, false, false, false] rfl rfl (any_of HT_.out (by kernel_rfl)) (fun _ _ _ h => h) (Or.inl ⟨by rfl, ?_⟩) ?_ ?_
                      rotate_left
                      ·intro w'
                       go_simp
                       with_reducible rfl
                      rotate_left
                      ·exact pt_
                      refine pure_ (i := 8) (N := some 79) (v := ?_) (a' := ?_) #[true, true, true, true, true, true, true, true, true, false, false, false, false, false, false, false, false] rfl rfl (any_of HT_.out (by kernel_rfl)) (fun _ _ _ h => h) (Or.inl ⟨by rfl, ?_⟩) ?_ ?_
                      rotate_left
                      ·intro w'
                       go_simp
                       with_reducible rfl
                      rotate_left
                      ·exact pt_
                      refine pure_ (i := 9) (N := some 80) (v := ?_) (a' := ?_) #[true, true, true, true, true, true, true, true, true, true, false, false, false, false, false, false, false] rfl rfl (any_of HT_.out (by kernel_rfl)) (fun _ _ _ h => h) (Or.inl ⟨by rfl, ?_⟩) ?_ ?_
                      rotate_left
                      ·intro w'
                       go_simp
                       with_reducible rfl
                      rotate_left
                      ·exact pt_
                      refine pure_ (i := 10) (N := some 81) (v := ?_) (a' := ?_) #[true, true, true, true, true, true, true, true, true, true, true, false, false, false, false, false, false] rfl rfl (any_of HT_.out (by kernel_rfl)) (fun _ _ _ h => h) (Or.inl ⟨by rfl, ?_⟩) ?_ ?_
                      rotate_left
                      ·intro w'
                       go_simp
                       with_reducible rfl
                      rotate_left
                      ·exact pt_
                      refine pure_ (i := 11) (N := some 82) (v := ?_) (a' := ?_) #[true, true, true, true, true, true, true, true, true, true, true, true, false, false, false, false, false] rfl rfl (any_of HT_.out (by kernel_rfl)) (fun _ _ _ h => h) (Or.inl ⟨by rfl, ?_⟩) ?_ ?_
                      rotate_left
                      ·intro w'
                       go_simp
                       with_reducible rfl
                      rotate_left
                      ·exact pt_
                      refine take_ (i := 12) (N := some 83) (v := ?_) (a' := ?_) #[true, true, true, true, true, true, true, true, true, true, true, true, true, false, false, false, false] rfl rfl (take_ofW HT_.out HW_.out (by kernel_rfl)) (fun _ _ _ h => h) (Or.inl ⟨by rfl, ?_⟩) hHeld ?_ ?_
                      rotate_left
                      ·rintro w' ⟨s0, s1, s2, s3, s4, s5, s6, s7⟩
                       go_simp
                       with_reducible rfl
                      rotate_left
                      ·exact pt_
                      refine take_ (i := 13) (N := some 84) (v := ?_) (a' := ?_) #[true, true, true, true, true, true, true, true, true, true, true, true, true, true, false, false, false] rfl rfl (take_ofW HT_.out HW_.out (by kernel_rfl)) (fun _ _ _ h => h) (Or.inl ⟨by rfl, ?_⟩) hHeld ?_ ?_
                      rotate_left
                      ·rintro w' ⟨s0, s1, s2, s3, s4, s5, s6, s7⟩
                       go_simp
                       with_reducible rfl
                      rotate_left
                      ·exact pt_
                      refine pure_ (i := 14) (N := some 85) (v := ?_) (a' := ?_) #[true, true, true, true, true, true, true, true, true, true, true, true, true, true, true, false, false] rfl rfl (any_of HT_.out (by kernel_rfl)) (fun _ _ _ h => h) (Or.inl ⟨by rfl, ?_⟩) ?_ ?_
                      rotate_left
                      ·intro w'
                       go_simp
                       with_reducible rfl
                      rotate_left
                      ·exact pt_
                      refine pure_ (i := 15) (N := some 86) (v := ?_) (a' := ?_) #[true, true, true, true, true, true, true, true, true, true, true, true, true, true, true, true, false] rfl rfl (any_of HT_.out (by kernel_rfl)) (fun _ _ _ h => h) (Or.inl ⟨by rfl, ?_⟩) ?_ ?_
                      rotate_left
                      ·intro w'
                       go_simp
                       with_reducible rfl
                      rotate_left
                      ·exact pt_
                      refine pure_ (i := 16) (N := some 87) (v := ?_) (a' := ?_) #[true, true, true, true, true, true, true, true, true, true, true, true, true, true, true, true, true] rfl rfl (any_of HT_.out (by kernel_rfl)) (fun _ _ _ h => h) (Or.inl ⟨by rfl, ?_⟩) ?_ ?_
                      rotate_left
                      ·intro w'
                       go_simp
                       with_reducible rfl
                      rotate_left
                      ·exact pt_
                      refine done_ (done_of HT_.out (by kernel_rfl)) ?_
                      have hcz35_0 : w33.cell? ⟨gb567, 0, none⟩ = some (.int .i64 (wrap64 (-a0))) := (blk_cell BK567.out 0).trans rfl
                      have hcz35_1 : w33.cell? ⟨gb567, 1, none⟩ = some (.int .i64 x5_2) := (blk_cell BK567.out 1).trans rfl
                      have hcz35_2 : w33.cell? ⟨gb567, 2, none⟩ = some (.int .i64 x6_3) := (blk_cell BK567.out 2).trans rfl
                      have hcz35_3 : w33.cell? ⟨gb567, 3, none⟩ = some (.int .i64 (wrap64 ((wrap64 ((wrap64 ((wrap64 (-a0)) + x5_2)) + x6_3)) + (wrap64 ((wrap64 (2 * x9_5)) * x8_6))))) := (blk_cell BK567.out 3).trans rfl
                      have hfz35_0 := blk_frozen BK567.out 0
                      have hfz35_1 := blk_frozen BK567.out 1
                      have hfz35_2 := blk_frozen BK567.out 2
                      have hfz35_3 := blk_frozen BK567.out 3
                      try go_wp2_with (first | ((with_reducible refine gate_builtin (b := .append) (xs := #[.tmp 88, .tmp 90]) rfl ?_); (try (refine gate_guard (by rfl) ?_; dsimp only)); at_builtin; refine Kd.R_append k23 (w0 := w) w.heap.size rfl (.tmp 88) (.tmp 90) 31 23 (.agg #[(.int .i64 0), (.int .i64 0), (.int .i64 0), (.int .i64 0)]) 32 rfl Try.underlying31 info23 rfl (by decide) (by omega) (.slice (some ad572) x4_5.length co34) x4_5 (⟨wrap64 (-a0), x5_2, x6_3, wrap64 ((wrap64 ((wrap64 ((wrap64 (-a0)) + x5_2)) + x6_3)) + (wrap64 ((wrap64 (2 * x9_5)) * x8_6)))⟩ : S23) [.int .i64 (wrap64 (-a0)), .int .i64 x5_2, .int .i64 x6_3, .int .i64 (wrap64 ((wrap64 ((wrap64 ((wrap64 (-a0)) + x5_2)) + x6_3)) + (wrap64 ((wrap64 (2 * x9_5)) * x8_6))))] (fun k_ => k_ ≠ gb567) (fun _ => False) rfl rfl ?aP (fun _ hk => hk.elim) ?aF ?aO ?aB ?aS ?aL ?_; (case aP => exact k23_mkM _ _ _ (⟨wrap64 (-a0), x5_2, x6_3, wrap64 ((wrap64 ((wrap64 ((wrap64 (-a0)) + x5_2)) + x6_3)) + (wrap64 ((wrap64 (2 * x9_5)) * x8_6)))⟩ : S23)); (case aB => exact (by repeat (first | (with_reducible first | exact HB.out | apply below_alloc | apply pw_below_drewN | apply below_drew1 | refine below_set ?_ GE567.out) | exact HB.out))); (case aF => exact (fun k_ hk => Kd.freshB (g := gb567) (o := .cells #[.int .i64 (wrap64 (-a0)), .int .i64 x5_2, .int .i64 x6_3, .int .i64 (wrap64 ((wrap64 ((wrap64 ((wrap64 (-a0)) + x5_2)) + x6_3)) + (wrap64 ((wrap64 (2 * x9_5)) * x8_6))))] 23 (0, 0)) (by refine bs_ ?_; exact BK567.out) k_ hk)); (case aO => exact (by refine kr_ ?_; exact HO_4.out)); (case aS => exact (below_size (by repeat (first | (with_reducible first | exact HB.out | apply below_alloc | apply pw_below_drewN | apply below_drew1 | refine below_set ?_ GE567.out) | exact HB.out)))); (case aL => have := LMc28.out; omega); intro v574 w36 ho hb hg hat; rw [← Ny573.out] at ho; have n0_ := Aside0.mk (blk_grown (g := gb567) (o := .cells #[.int .i64 (wrap64 (-a0)), .int .i64 x5_2, .int .i64 x6_3, .int .i64 (wrap64 ((wrap64 ((wrap64 ((wrap64 (-a0)) + x5_2)) + x6_3)) + (wrap64 ((wrap64 (2 * x9_5)) * x8_6))))] 23 (0, 0)) (by refine bs_ ?_; exact BK567.out) hg (Kd.R_away HO_4.out (fun _ hk => hk))); have n1_ := Aside0.mk (hb); have n2_ := Aside0.mk (ho); clear BK567; clear HB; clear HO_4; have BK567 := n0_; have HB := n1_; have HO575 := n2_; clear n0_ n1_ n2_; clear ho hb hg hat))
                      go_roundg k5
                      case measure => have := HJ1.out; have := HK2.out; have := HK3.out; have := HJ6.out; have := HK5.out; omega
                      case rel => exact ⟨(y573), (wrap64 (x9_5 + 2)), eq_, H', ⟨by have := HJ1.out; have := HK2.out; have := HK3.out; have := HJ6.out; have := HK5.out; omega⟩, ⟨by refine kr_ ?_; exact Kd.R_mono HO575.out (fun _ hk => trivial)⟩, ⟨by repeat (first | (with_reducible first | exact HB.out | apply below_alloc | apply pw_below_drewN | apply below_drew1 | refine below_set ?_ GE567.out) | exact HB.out)⟩⟩
                     ·rw [if_neg c28] at H
                      exact absurd H (by simp)
                    ·rw [if_neg c27] at H
                     have c27b0 : (!(((rd_T23 x4_5 (ji24)).f0) == (wrap64 (-a0))) || (!(((rd_T23 x4_5 (ji24)).f1) == x5_2) || (!(((rd_T23 x4_5 (ji24)).f2) == x6_3) || (!(((rd_T23 x4_5 (ji24)).f3) == (wrap64 ((wrap64 ((wrap64 ((wrap64 (-a0)) + x5_2)) + x6_3)) + (wrap64 ((wrap64 (2 * x9_5)) * x8_6))))))))) = false := by simpa using c27
                     clear c27
                     have H' := Aside0.mk H
                     clear H
                     try go_wp2_with (first | ((with_reducible refine gate_dst (N := 10) rfl ?_); (try (refine gate_guard (by rfl) ?_; dsimp only)); refine box_event ?hg (N := 10) ?hd (cs := #[.int .i64 0, .int .i64 0, .int .i64 0, .int .i64 0]) (t := 23) ?hr ?_; (case hd => rfl); (case hg => rfl); (case hr => exact gs_); intro gb567 hg w37 hbox hb; have n0_ := Aside0.mk (Kd.R_below (Kd.R_elderB (by refine kr_ ?_; exact HO_4.out) gb567 (Nat.le_of_eq hg.symm)) hb); have n1_ := Aside0.mk (below_step (lw_ HB.out) hb); have n2_ := Aside0.mk (hbox); have n3_ := Aside0.mk ((by rw [hg]; exact (below_size (lw_ HB.out)) : w.heap.size ≤ gb567)); have n4_ := Aside0.mk ((by rw [hg]; exact (below_size (lw_ HB.out)) : w.heap.size ≤ gb567)); clear HO_4; clear HB; have HO_4 := n0_; have HB := n1_; have BK567 := n2_; have GW567 := n3_; have GE567 := n4_; clear n0_ n1_ n2_ n3_ n4_; clear hb hbox hg; have hcz38_0 : w37.cell? ⟨gb567, 0, none⟩ = some (.int .i64 0) := (blk_cell BK567.out 0).trans rfl; have hcz38_1 : w37.cell? ⟨gb567, 1, none⟩ = some (.int .i64 0) := (blk_cell BK567.out 1).trans rfl; have hcz38_2 : w37.cell? ⟨gb567, 2, none⟩ = some (.int .i64 0) := (blk_cell BK567.out 2).trans rfl; have hcz38_3 : w37.cell? ⟨gb567, 3, none⟩ = some (.int .i64 0) := (blk_cell BK567.out 3).trans rfl; have hfz38_0 := blk_frozen BK567.out 0; have hfz38_1 := blk_frozen BK567.out 1; have hfz38_2 := blk_frozen BK567.out 2; have hfz38_3 := blk_frozen BK567.out 3))
                     have n0_ : Aside0 (Kd.R k23 23 ((((w37.setCell ⟨gb567, 0, none⟩ (.int .i64 (wrap64 (-a0)))).setCell ⟨gb567, 1, none⟩ (.int .i64 x5_2)).setCell ⟨gb567, 2, none⟩ (.int .i64 x6_3)).setCell ⟨gb567, 3, none⟩ (.int .i64 (wrap64 ((wrap64 ((wrap64 ((wrap64 (-a0)) + x5_2)) + x6_3)) + (wrap64 ((wrap64 (2 * x9_5)) * x8_6)))))) w.heap.size (fun k_ => k_ ≠ gb567) u4 x4_5) := ⟨by refine kr_ ?_; exact Kd.R_mono (Kd.R_far (p := ⟨gb567, 3, none⟩) (Kd.R_far (p := ⟨gb567, 2, none⟩) (Kd.R_far (p := ⟨gb567, 1, none⟩) (Kd.R_far (p := ⟨gb567, 0, none⟩) (Kd.R_mono HO_4.out (fun k_ hk => (⟨hk, hk.2⟩ : _ ∧ k_ ≠ gb567))) (fun _ hk => hk.2) (.int .i64 (wrap64 (-a0)))) (fun _ hk => hk.2) (.int .i64 x5_2)) (fun _ hk => hk.2) (.int .i64 x6_3)) (fun _ hk => hk.2) (.int .i64 (wrap64 ((wrap64 ((wrap64 ((wrap64 (-a0)) + x5_2)) + x6_3)) + (wrap64 ((wrap64 (2 * x9_5)) * x8_6)))))) (fun _ hk => hk.1.2)⟩
                     have n1_ : Aside0 (((((w37.setCell ⟨gb567, 0, none⟩ (.int .i64 (wrap64 (-a0)))).setCell ⟨gb567, 1, none⟩ (.int .i64 x5_2)).setCell ⟨gb567, 2, none⟩ (.int .i64 x6_3)).setCell ⟨gb567, 3, none⟩ (.int .i64 (wrap64 ((wrap64 ((wrap64 ((wrap64 (-a0)) + x5_2)) + x6_3)) + (wrap64 ((wrap64 (2 * x9_5)) * x8_6)))))).heap[gb567]? = some (.cells #[.int .i64 (wrap64 (-a0)), .int .i64 x5_2, .int .i64 x6_3, .int .i64 (wrap64 ((wrap64 ((wrap64 ((wrap64 (-a0)) + x5_2)) + x6_3)) + (wrap64 ((wrap64 (2 * x9_5)) * x8_6))))] 23 (0, 0))) := ⟨by refine bs_ ?_; refine blk_put (cs := #[.int .i64 (wrap64 (-a0)), .int .i64 x5_2, .int .i64 x6_3, .int .i64 0]) ?_ 3 _ rfl; refine bs_ ?_; refine blk_put (cs := #[.int .i64 (wrap64 (-a0)), .int .i64 x5_2, .int .i64 0, .int .i64 0]) ?_ 2 _ rfl; refine bs_ ?_; refine blk_put (cs := #[.int .i64 (wrap64 (-a0)), .int .i64 0, .int .i64 0, .int .i64 0]) ?_ 1 _ rfl; refine bs_ ?_; refine blk_put (cs := #[.int .i64 0, .int .i64 0, .int .i64 0, .int .i64 0]) ?_ 0 _ rfl; refine bs_ ?_; exact BK567.out⟩
                     have n2_ : Aside0 (Below w.heap.size w ((((w37.setCell ⟨gb567, 0, none⟩ (.int .i64 (wrap64 (-a0)))).setCell ⟨gb567, 1, none⟩ (.int .i64 x5_2)).setCell ⟨gb567, 2, none⟩ (.int .i64 x6_3)).setCell ⟨gb567, 3, none⟩ (.int .i64 (wrap64 ((wrap64 ((wrap64 ((wrap64 (-a0)) + x5_2)) + x6_3)) + (wrap64 ((wrap64 (2 * x9_5)) * x8_6))))))) := ⟨by repeat (first | (with_reducible first | exact HB.out | apply below_alloc | apply pw_below_drewN | apply below_drew1 | refine below_set ?_ GE567.out) | exact HB.out)⟩
                     (try clear HO_4)
                     (try clear BK567)
                     (try clear HB)
                     generalize ((((w37.setCell ⟨gb567, 0, none⟩ (.int .i64 (wrap64 (-a0)))).setCell ⟨gb567, 1, none⟩ (.int .i64 x5_2)).setCell ⟨gb567, 2, none⟩ (.int .i64 x6_3)).setCell ⟨gb567, 3, none⟩ (.int .i64 (wrap64 ((wrap64 ((wrap64 ((wrap64 (-a0)) + x5_2)) + x6_3)) + (wrap64 ((wrap64 (2 * x9_5)) * x8_6)))))) = w39 at n0_ n1_ n2_ ⊢
                     have HO_4 := n0_
                     have BK567 := n1_
                     have HB := n2_
                     clear n0_ n1_ n2_
                     have n0_ := Aside0.mk (Kd.R_drew HO_4.out)
                     have n1_ := Aside0.mk (blk_drew BK567.out)
                     have n2_ := Aside0.mk (below_drew1 HB.out)
                     clear HO_4
                     clear BK567
                     clear HB
                     have HO_4 := n0_
                     have BK567 := n1_
                     have HB := n2_
                     clear n0_ n1_ n2_
                     have p572 : 0 ≤ ((ji24) : Int) := of_decide_eq_true as_
                     have q572 : (ji24) < (x4_5.length : Int) := of_decide_eq_true as_
                     obtain ⟨Az_, cz_, ez_⟩ := Kd.R_slice HO_4.out
                     (first | subst ez_ | clear ez_)
                     obtain ⟨ad572, e572, hx572_0, hx572_1, hx572_2, hx572_3⟩ := at_T23 (Kd.R_reads' HO_4.out).2.2 (ji24) p572 q572
                     cases e572
                     replace p572 := eq_true p572
                     replace q572 := eq_true q572
                     refine start_ (n := 17) (S := fun w' => w'.cell? ⟨gb567, 0, none⟩ = some (.int .i64 (wrap64 (-a0))) ∧ w'.cell? ⟨gb567, 1, none⟩ = some (.int .i64 x5_2) ∧ w'.cell? ⟨gb567, 2, none⟩ = some (.int .i64 x6_3) ∧ w'.cell? ⟨gb567, 3, none⟩ = some (.int .i64 (wrap64 ((wrap64 ((wrap64 ((wrap64 (-a0)) + x5_2)) + x6_3)) + (wrap64 ((wrap64 (2 * x9_5)) * x8_6))))) ∧ w'.cell? (ad572.add (((ji24)).toNat * 4)) = some (.int .i64 ((rd_T23 x4_5 (ji24)).f0)) ∧ w'.cell? ⟨(ad572.add (((ji24)).toNat * 4)).block, (ad572.add (((ji24)).toNat * 4)).off + 1, none⟩ = some (.int .i64 ((rd_T23 x4_5 (ji24)).f1)) ∧ w'.cell? ⟨(ad572.add (((ji24)).toNat * 4)).block, (ad572.add (((ji24)).toNat * 4)).off + 2, none⟩ = some (.int .i64 ((rd_T23 x4_5 (ji24)).f2)) ∧ w'.cell? ⟨(ad572.add (((ji24)).toNat * 4)).block, (ad572.add (((ji24)).toNat * 4)).off + 3, none⟩ = some (.int .i64 ((rd_T23 x4_5 (ji24)).f3))) (ds := []) #[false, false, false, false, false, false, false, false, false, false, false, false, false, false, false, false, false] (by kernel_rfl) rfl rfl ⟨(blk_cell BK567.out 0).trans rfl, (blk_cell BK567.out 1).trans rfl, (blk_cell BK567.out 2).trans rfl, (blk_cell BK567.out 3).trans rfl, hx572_0, hx572_1, hx572_2, hx572_3⟩ (fun hHeld => ?_); refine with_tabW clocheref01_Roots.tab19 clocheref01_Roots.bits19 (fun HT_ HW_ => ?_)
                     generalize w39.drew = w40 at HO_4 BK567 HB hx572_0 hx572_1 hx572_2 hx572_3 hHeld ⊢
                     refine take_ (i := 0) (N := some 71) (v := ?_) (a' := ?_) #[true, false, false, false, false, false, false, false, false, false, false, false, false, false, false, false, false] rfl rfl (take_ofW HT_.out HW_.out (by kernel_rfl)) (fun _ _ _ h => h) (Or.inl ⟨by rfl, ?_⟩) hHeld ?_ ?_
                     rotate_left
                     ·rintro w' ⟨s0, s1, s2, s3, s4, s5, s6, s7⟩
                      go_simp
                      with_reducible rfl
                     rotate_left
                     ·exact pt_
                     refine one_ (i := 1) (N := some 72) #[true, true, false, false, false, false, false, false, false, false, false, false, false, false, false, false, false] rfl rfl (one_of HT_.out (by kernel_rfl)) (by decide) (fun K hK => ?_)
                     refine goes_ Try.func39 (by kernel_rfl) rfl #[.agg #[.int .i64 (wrap64 (-a0)), .int .i64 x5_2, .int .i64 x6_3, .int .i64 (wrap64 ((wrap64 ((wrap64 ((wrap64 (-a0)) + x5_2)) + x6_3)) + (wrap64 ((wrap64 (2 * x9_5)) * x8_6))))]] (by rfl) rfl rfl mp_ ?_
                     with_reducible refine (clocheref01_IsRoot.calls k5 (wrap64 (-a0)) x5_2 x6_3 (wrap64 ((wrap64 ((wrap64 ((wrap64 (-a0)) + x5_2)) + x6_3)) + (wrap64 ((wrap64 (2 * x9_5)) * x8_6)))) true _ A12.out).mono ?_
                     rintro e w41 ⟨rfl, hb⟩
                     have HS4_ := (hb.cell (World.block_lt_of_cell? _ _ (hHeld.2.2.2.2.1))).trans (hHeld.2.2.2.2.1)
                     have HS5_ := (hb.cell (World.block_lt_of_cell? _ _ (hHeld.2.2.2.2.2.1))).trans (hHeld.2.2.2.2.2.1)
                     have HS6_ := (hb.cell (World.block_lt_of_cell? _ _ (hHeld.2.2.2.2.2.2.1))).trans (hHeld.2.2.2.2.2.2.1)
                     have HS7_ := (hb.cell (World.block_lt_of_cell? _ _ (hHeld.2.2.2.2.2.2.2))).trans (hHeld.2.2.2.2.2.2.2)
                     refine ⟨_, rfl, ?_⟩
                     have n0_ := Aside0.mk (Kd.R_below (by refine kr_ ?_; exact HO_4.out) hb)
                     have n1_ := Aside0.mk (blk_below (g := gb567) (o := .cells #[.int .i64 (wrap64 (-a0)), .int .i64 x5_2, .int .i64 x6_3, .int .i64 (wrap64 ((wrap64 ((wrap64 ((wrap64 (-a0)) + x5_2)) + x6_3)) + (wrap64 ((wrap64 (2 * x9_5)) * x8_6))))] 23 (0, 0)) (by refine bs_ ?_; exact BK567.out) hb)
                     have n2_ := Aside0.mk (below_step (by repeat (first | (with_reducible first | exact HB.out | apply below_alloc | apply pw_below_drewN | apply below_drew1 | refine below_set ?_ GE567.out) | exact HB.out)) hb)
                     clear HO_4
                     clear BK567
                     clear HB
                     have HO_4 := n0_
                     have BK567 := n1_
                     have HB := n2_
                     clear n0_ n1_ n2_
                     (try clear hb)
                     (try clear hb2)
                     (try clear hk)
                     (try clear hi)
                     obtain ⟨Ao42, co42, eo42⟩ := Kd.R_slice HO_4.out
                     (first | subst eo42 | (injection eo42 with f1_ f2_ f3_; have f4_ := f1_.symm; have f5_ := f3_.symm; clear f1_ f2_ f3_; subst f4_; subst f5_))
                     refine hK.out _ _ ⟨(blk_cell BK567.out 0).trans rfl, (blk_cell BK567.out 1).trans rfl, (blk_cell BK567.out 2).trans rfl, (blk_cell BK567.out 3).trans rfl, HS4_, HS5_, HS6_, HS7_⟩ (fun hHeld => ?_)
                     clear hK K
                     refine norm_ (a' := ?_) ?_ ?_
                     rotate_left
                     ·show Act.put _ (some 72) _ = _
                      exact pt_
                     refine pure_ (i := 2) (N := some 73) (v := ?_) (a' := ?_) #[true, true, true, false, false, false, false, false, false, false, false, false, false, false, false, false, false] rfl rfl (any_of HT_.out (by kernel_rfl)) (fun _ _ _ h => h) (Or.inl ⟨by rfl, ?_⟩) ?_ ?_
                     rotate_left
                     ·intro w'
                      go_simp
                      with_reducible rfl
                     rotate_left
                     ·exact pt_
                     refine pure_ (i := 3) (N := some 74) (v := ?_) (a' := ?_) #[true, true, true, true, false, false, false, false, false, false, false, false, false, false, false, false, false] rfl rfl (any_of HT_.out (by kernel_rfl)) (fun _ _ _ h => h) (Or.inl ⟨by rfl, ?_⟩) ?_ ?_
                     rotate_left
                     ·intro w'
                      go_simp
                      with_reducible rfl
                     rotate_left
                     ·exact pt_
                     refine pure_ (i := 4) (N := some 75) (v := ?_) (a' := ?_) #[true, true, true, true, true, false, false, false, false, false, false, false, false, false, false, false, false] rfl rfl (any_of HT_.out (by kernel_rfl)) (fun _ _ _ h => h) (Or.inl ⟨by rfl, ?_⟩) ?_ ?_
                     rotate_left
                     ·intro w'
                      go_simp
                      with_reducible rfl
                     rotate_left
                     ·exact pt_
                     refine pure_ (i := 5) (N := some 76) (v := ?_) (a' := ?_) #[true, true, true, true, true, true, false, false, false, false, false, false, false, false, false, false, false] rfl rfl (any_of HT_.out (by kernel_rfl)) (fun _ _ _ h => h) (Or.inl ⟨by rfl, ?_⟩) ?_ ?_
                     rotate_left
                     ·intro w'
                      go_simp
                      with_reducible rfl
                     rotate_left
                     ·exact pt_
                     refine pure_ (i := 6) (N := some 77) (v := ?_) (a' := ?_) #[true, true, true, true, true, true, true, false, false, false, false, false, false, false, false, false, false] rfl rfl (any_of HT_.out (by kernel_rfl)) (fun _ _ _ h => h) (Or.inl ⟨by rfl, ?_⟩) ?_ ?_
                     rotate_left
                     ·intro w'
                      go_simp
                      with_reducible rfl
                     rotate_left
                     ·exact pt_
                     refine pure_ (i := 7) (N := some 78) (v := ?_) (a' := ?_) #[true, true, true, true, true, true, true, true, false, false, false, false, false, false, false, false, false] rfl rfl (any_of HT_.out (by kernel_rfl)) (fun _ _ _ h => h) (Or.inl ⟨by rfl, ?_⟩) ?_ ?_
                     rotate_left
                     ·intro w'
                      go_simp
                      with_reducible rfl
                     rotate_left
                     ·exact pt_
                     refine pure_ (i := 8) (N := some 79) (v := ?_) (a' := ?_) #[true, true, true, true, true, true, true, true, true, false, false, false, false, false, false, false, false] rfl rfl (any_of HT_.out (by kernel_rfl)) (fun _ _ _ h => h) (Or.inl ⟨by rfl, ?_⟩) ?_ ?_
                     rotate_left
                     ·intro w'
                      go_simp
                      with_reducible rfl
                     rotate_left
                     ·exact pt_
                     refine pure_ (i := 9) (N := some 80) (v := ?_) (a' := ?_) #[true, true, true, true, true, true, true, true, true, true, false, false, false, false, false, false, false] rfl rfl (any_of HT_.out (by kernel_rfl)) (fun _ _ _ h => h) (Or.inl ⟨by rfl, ?_⟩) ?_ ?_
                     rotate_left
                     ·intro w'
                      go_simp
                      with_reducible rfl
                     rotate_left
                     ·exact pt_
                     refine pure_ (i := 10) (N := some 81) (v := ?_) (a' := ?_) #[true, true, true, true, true, true, true, true, true, true, true, false, false, false, false, false, false] rfl rfl (any_of HT_.out (by kernel_rfl)) (fun _ _ _ h => h) (Or.inl ⟨by rfl, ?_⟩) ?_ ?_
                     rotate_left
                     ·intro w'
                      go_simp
                      with_reducible rfl
                     rotate_left
                     ·exact pt_
                     refine pure_ (i := 11) (N := some 82) (v := ?_) (a' := ?_) #[true, true, true, true, true, true, true, true, true, true, true, true, false, false, false, false, false] rfl rfl (any_of HT_.out (by kernel_rfl)) (fun _ _ _ h => h) (Or.inl ⟨by rfl, ?_⟩) ?_ ?_
                     rotate_left
                     ·intro w'
                      go_simp
                      with_reducible rfl
                     rotate_left
                     ·exact pt_
                     refine take_ (i := 12) (N := some 83) (v := ?_) (a' := ?_) #[true, true, true, true, true, true, true, true, true, true, true, true, true, false, false, false, false] rfl rfl (take_ofW HT_.out HW_.out (by kernel_rfl)) (fun _ _ _ h => h) (Or.inl ⟨by rfl, ?_⟩) hHeld ?_ ?_
                     rotate_left
                     ·rintro w' ⟨s0, s1, s2, s3, s4, s5, s6, s7⟩
                      go_simp
                      with_reducible rfl
                     rotate_left
                     ·exact pt_
                     refine take_ (i := 13) (N := some 84) (v := ?_) (a' := ?_) #[true, true, true, true, true, true, true, true, true, true, true, true, true, true, false, false, false] rfl rfl (take_ofW HT_.out HW_.out (by kernel_rfl)) (fun _ _ _ h => h) (Or.inl ⟨by rfl, ?_⟩) hHeld ?_ ?_
                     rotate_left
                     ·rintro w' ⟨s0, s1, s2, s3, s4, s5, s6, s7⟩
                      go_simp
                      with_reducible rfl
                     rotate_left
                     ·exact pt_
                     refine pure_ (i := 14) (N := some 85) (v := ?_) (a' := ?_) #[true, true, true, true, true, true, true, true, true, true, true, true, true, true, true, false, false] rfl rfl (any_of HT_.out (by kernel_rfl)) (fun _ _ _ h => h) (Or.inl ⟨by rfl, ?_⟩) ?_ ?_
                     rotate_left
                     ·intro w'
                      go_simp
                      with_reducible rfl
                     rotate_left
                     ·exact pt_
                     refine pure_ (i := 15) (N := some 86) (v := ?_) (a' := ?_) #[true, true, true, true, true, true, true, true, true, true, true, true, true, true, true, true, false] rfl rfl (any_of HT_.out (by kernel_rfl)) (fun _ _ _ h => h) (Or.inl ⟨by rfl, ?_⟩) ?_ ?_
                     rotate_left
                     ·intro w'
                      go_simp
                      with_reducible rfl
                     rotate_left
                     ·exact pt_
                     refine pure_ (i := 16) (N := some 87) (v := ?_) (a' := ?_) #[true, true, true, true, true, true, true, true, true, true, true, true, true, true, true, true, true] rfl rfl (any_of HT_.out (by kernel_rfl)) (fun _ _ _ h => h) (Or.inl ⟨by rfl, ?_⟩) ?_ ?_
                     rotate_left
                     ·intro w'
                      go_simp
                      with_reducible rfl
                     rotate_left
                     ·exact pt_
                     refine done_ (done_of HT_.out (by kernel_rfl)) ?_
                     try go_wp2
                     go_roundg k5
                     case measure => have := HJ1.out; have := HK2.out; have := HK3.out; have := HJ6.out; have := HK5.out; omega
                     case rel => exact ⟨(x4_5), (wrap64 (x9_5 + 2)), eq_, H', ⟨by have := HJ1.out; have := HK2.out; have := HK3.out; have := HJ6.out; have := HK5.out; omega⟩, ⟨by refine kr_ ?_; exact Kd.R_mono HO_4.out (fun _ hk => trivial)⟩, ⟨by repeat (first | (with_reducible first | exact HB.out | apply below_alloc | apply pw_below_drewN | apply below_drew1 | refine below_set ?_ GE567.out) | exact HB.out)⟩⟩
                   ·rw [if_neg c26] at H
                    exact absurd H (by simp)
                  ·rw [if_neg c25] at H
                   exact absurd H (by simp)
                ·replace c13 := Bool.eq_false_iff.mpr c13
                 subst c13
                 have H1 : (clocheref01_Roots.l2 k5 a0 x4_5 x5_2 x6_3 x8_6 (wrap64 (x9_5 + 2))) = some (r1, r2) := by rw [if_neg (show ¬ (false = true) by decide)] at H; exact H
                 clear H
                 have H := H1
                 clear H1
                 have H' := Aside0.mk H
                 clear H
                 try go_wp2_with (first | ((with_reducible refine gate_dst (N := 10) rfl ?_); (try (refine gate_guard (by rfl) ?_; dsimp only)); refine box_event ?hg (N := 10) ?hd (cs := #[.int .i64 0, .int .i64 0, .int .i64 0, .int .i64 0]) (t := 23) ?hr ?_; (case hd => rfl); (case hg => rfl); (case hr => exact gs_); intro gb567 hg w43 hbox hb; have n0_ := Aside0.mk (Kd.R_below (Kd.R_elderB (by refine kr_ ?_; exact HO_4.out) gb567 (Nat.le_of_eq hg.symm)) hb); have n1_ := Aside0.mk (below_step (lw_ HB.out) hb); have n2_ := Aside0.mk (hbox); have n3_ := Aside0.mk ((by rw [hg]; exact (below_size (lw_ HB.out)) : w.heap.size ≤ gb567)); have n4_ := Aside0.mk ((by rw [hg]; exact (below_size (lw_ HB.out)) : w.heap.size ≤ gb567)); clear HO_4; clear HB; have HO_4 := n0_; have HB := n1_; have BK567 := n2_; have GW567 := n3_; have GE567 := n4_; clear n0_ n1_ n2_ n3_ n4_; clear hb hbox hg; have hcz44_0 : w43.cell? ⟨gb567, 0, none⟩ = some (.int .i64 0) := (blk_cell BK567.out 0).trans rfl; have hcz44_1 : w43.cell? ⟨gb567, 1, none⟩ = some (.int .i64 0) := (blk_cell BK567.out 1).trans rfl; have hcz44_2 : w43.cell? ⟨gb567, 2, none⟩ = some (.int .i64 0) := (blk_cell BK567.out 2).trans rfl; have hcz44_3 : w43.cell? ⟨gb567, 3, none⟩ = some (.int .i64 0) := (blk_cell BK567.out 3).trans rfl; have hfz44_0 := blk_frozen BK567.out 0; have hfz44_1 := blk_frozen BK567.out 1; have hfz44_2 := blk_frozen BK567.out 2; have hfz44_3 := blk_frozen BK567.out 3))
                 have n0_ : Aside0 (Kd.R k23 23 ((((w43.setCell ⟨gb567, 0, none⟩ (.int .i64 (wrap64 (-a0)))).setCell ⟨gb567, 1, none⟩ (.int .i64 x5_2)).setCell ⟨gb567, 2, none⟩ (.int .i64 x6_3)).setCell ⟨gb567, 3, none⟩ (.int .i64 (wrap64 ((wrap64 ((wrap64 ((wrap64 (-a0)) + x5_2)) + x6_3)) + (wrap64 ((wrap64 (2 * x9_5)) * x8_6)))))) w.heap.size (fun k_ => k_ ≠ gb567) u4 x4_5) := ⟨by refine kr_ ?_; exact Kd.R_mono (Kd.R_far (p := ⟨gb567, 3, none⟩) (Kd.R_far (p := ⟨gb567, 2, none⟩) (Kd.R_far (p := ⟨gb567, 1, none⟩) (Kd.R_far (p := ⟨gb567, 0, none⟩) (Kd.R_mono HO_4.out (fun k_ hk => (⟨hk, hk.2⟩ : _ ∧ k_ ≠ gb567))) (fun _ hk => hk.2) (.int .i64 (wrap64 (-a0)))) (fun _ hk => hk.2) (.int .i64 x5_2)) (fun _ hk => hk.2) (.int .i64 x6_3)) (fun _ hk => hk.2) (.int .i64 (wrap64 ((wrap64 ((wrap64 ((wrap64 (-a0)) + x5_2)) + x6_3)) + (wrap64 ((wrap64 (2 * x9_5)) * x8_6)))))) (fun _ hk => hk.1.2)⟩
                 have n1_ : Aside0 (((((w43.setCell ⟨gb567, 0, none⟩ (.int .i64 (wrap64 (-a0)))).setCell ⟨gb567, 1, none⟩ (.int .i64 x5_2)).setCell ⟨gb567, 2, none⟩ (.int .i64 x6_3)).setCell ⟨gb567, 3, none⟩ (.int .i64 (wrap64 ((wrap64 ((wrap64 ((wrap64 (-a0)) + x5_2)) + x6_3)) + (wrap64 ((wrap64 (2 * x9_5)) * x8_6)))))).heap[gb567]? = some (.cells #[.int .i64 (wrap64 (-a0)), .int .i64 x5_2, .int .i64 x6_3, .int .i64 (wrap64 ((wrap64 ((wrap64 ((wrap64 (-a0)) + x5_2)) + x6_3)) + (wrap64 ((wrap64 (2 * x9_5)) * x8_6))))] 23 (0, 0))) := ⟨by refine bs_ ?_; refine blk_put (cs := #[.int .i64 (wrap64 (-a0)), .int .i64 x5_2, .int .i64 x6_3, .int .i64 0]) ?_ 3 _ rfl; refine bs_ ?_; refine blk_put (cs := #[.int .i64 (wrap64 (-a0)), .int .i64 x5_2, .int .i64 0, .int .i64 0]) ?_ 2 _ rfl; refine bs_ ?_; refine blk_put (cs := #[.int .i64 (wrap64 (-a0)), .int .i64 0, .int .i64 0, .int .i64 0]) ?_ 1 _ rfl; refine bs_ ?_; refine blk_put (cs := #[.int .i64 0, .int .i64 0, .int .i64 0, .int .i64 0]) ?_ 0 _ rfl; refine bs_ ?_; exact BK567.out⟩
                 have n2_ : Aside0 (Below w.heap.size w ((((w43.setCell ⟨gb567, 0, none⟩ (.int .i64 (wrap64 (-a0)))).setCell ⟨gb567, 1, none⟩ (.int .i64 x5_2)).setCell ⟨gb567, 2, none⟩ (.int .i64 x6_3)).setCell ⟨gb567, 3, none⟩ (.int .i64 (wrap64 ((wrap64 ((wrap64 ((wrap64 (-a0)) + x5_2)) + x6_3)) + (wrap64 ((wrap64 (2 * x9_5)) * x8_6))))))) := ⟨by repeat (first | (with_reducible first | exact HB.out | apply below_alloc | apply pw_below_drewN | apply below_drew1 | refine below_set ?_ GE567.out) | exact HB.out)⟩
                 (try clear HO_4)
                 (try clear BK567)
                 (try clear HB)
                 generalize ((((w43.setCell ⟨gb567, 0, none⟩ (.int .i64 (wrap64 (-a0)))).setCell ⟨gb567, 1, none⟩ (.int .i64 x5_2)).setCell ⟨gb567, 2, none⟩ (.int .i64 x6_3)).setCell ⟨gb567, 3, none⟩ (.int .i64 (wrap64 ((wrap64 ((wrap64 ((wrap64 (-a0)) + x5_2)) + x6_3)) + (wrap64 ((wrap64 (2 * x9_5)) * x8_6)))))) = w45 at n0_ n1_ n2_ ⊢
                 have HO_4 := n0_
                 have BK567 := n1_
                 have HB := n2_
                 clear n0_ n1_ n2_
                 have n0_ := Aside0.mk (Kd.R_drew HO_4.out)
                 have n1_ := Aside0.mk (blk_drew BK567.out)
                 have n2_ := Aside0.mk (below_drew1 HB.out)
                 clear HO_4
                 clear BK567
                 clear HB
                 have HO_4 := n0_
                 have BK567 := n1_
                 have HB := n2_
                 clear n0_ n1_ n2_
                 refine start_ (n := 17) (S := fun w' => w'.cell? ⟨gb567, 0, none⟩ = some (.int .i64 (wrap64 (-a0))) ∧ w'.cell? ⟨gb567, 1, none⟩ = some (.int .i64 x5_2) ∧ w'.cell? ⟨gb567, 2, none⟩ = some (.int .i64 x6_3) ∧ w'.cell? ⟨gb567, 3, none⟩ = some (.int .i64 (wrap64 ((wrap64 ((wrap64 ((wrap64 (-a0)) + x5_2)) + x6_3)) + (wrap64 ((wrap64 (2 * x9_5)) * x8_6)))))) (ds := []) #[false, false, false, false, false, false, false, false, false, false, false, false, false, false, false, false, false] (by kernel_rfl) rfl rfl ⟨(blk_cell BK567.out 0).trans rfl, (blk_cell BK567.out 1).trans rfl, (blk_cell BK567.out 2).trans rfl, (blk_cell BK567.out 3).trans rfl⟩ (fun hHeld => ?_); refine with_tabW clocheref01_Roots.tab19 clocheref01_Roots.bits19 (fun HT_ HW_ => ?_)
                 generalize w45.drew = w46 at HO_4 BK567 HB hHeld ⊢
                 refine take_ (i := 0) (N := some 71) (v := ?_) (a' := ?_) #[true, false, false, false, false, false, false, false, false, false, false, false, false, false, false, false, false] rfl rfl (take_ofW HT_.out HW_.out (by kernel_rfl)) (fun _ _ _ h => h) (Or.inl ⟨by rfl, ?_⟩) hHeld ?_ ?_
                 rotate_left
                 ·rintro w' ⟨s0, s1, s2, s3⟩
                  go_simp
                  with_reducible rfl
                 rotate_left
                 ·exact pt_
                 refine one_ (i := 1) (N := some 72) #[true, true, false, false, false, false, false, false, false, false, false, false, false, false, false, false, false] rfl rfl (one_of HT_.out (by kernel_rfl)) (by decide) (fun K hK => ?_)
                 refine goes_ Try.func39 (by kernel_rfl) rfl #[.agg #[.int .i64 (wrap64 (-a0)), .int .i64 x5_2, .int .i64 x6_3, .int .i64 (wrap64 ((wrap64 ((wrap64 ((wrap64 (-a0)) + x5_2)) + x6_3)) + (wrap64 ((wrap64 (2 * x9_5)) * x8_6))))]] (by rfl) rfl rfl mp_ ?_
                 with_reducible refine (clocheref01_IsRoot.calls k5 (wrap64 (-a0)) x5_2 x6_3 (wrap64 ((wrap64 ((wrap64 ((wrap64 (-a0)) + x5_2)) + x6_3)) + (wrap64 ((wrap64 (2 * x9_5)) * x8_6)))) false _ A12.out).mono ?_
                 rintro e w47 ⟨rfl, hb⟩
                 refine ⟨_, rfl, ?_⟩
                 have n0_ := Aside0.mk (Kd.R_below (by refine kr_ ?_; exact HO_4.out) hb)
                 have n1_ := Aside0.mk (blk_below (g := gb567) (o := .cells #[.int .i64 (wrap64 (-a0)), .int .i64 x5_2, .int .i64 x6_3, .int .i64 (wrap64 ((wrap64 ((wrap64 ((wrap64 (-a0)) + x5_2)) + x6_3)) + (wrap64 ((wrap64 (2 * x9_5)) * x8_6))))] 23 (0, 0)) (by refine bs_ ?_; exact BK567.out) hb)
                 have n2_ := Aside0.mk (below_step (by repeat (first | (with_reducible first | exact HB.out | apply below_alloc | apply pw_below_drewN | apply below_drew1 | refine below_set ?_ GE567.out) | exact HB.out)) hb)
                 clear HO_4
                 clear BK567
                 clear HB
                 have HO_4 := n0_
                 have BK567 := n1_
                 have HB := n2_
                 clear n0_ n1_ n2_
                 (try clear hb)
                 (try clear hb2)
                 (try clear hk)
                 (try clear hi)
                 refine hK.out _ _ ⟨(blk_cell BK567.out 0).trans rfl, (blk_cell BK567.out 1).trans rfl, (blk_cell BK567.out 2).trans rfl, (blk_cell BK567.out 3).trans rfl⟩ (fun hHeld => ?_)
                 clear hK K
                 refine norm_ (a' := ?_) ?_ ?_
                 rotate_left
                 ·show Act.put _ (some 72) _ = _
                  exact pt_
                 refine pure_ (i := 2) (N := some 73) (v := ?_) (a' := ?_) #[true, true, true, false, false, false, false, false, false, false, false, false, false, false, false, false, false] rfl rfl (any_of HT_.out (by kernel_rfl)) (fun _ _ _ h => h) (Or.inl ⟨by rfl, ?_⟩) ?_ ?_
                 rotate_left
                 ·intro w'
                  go_simp
                  with_reducible rfl
                 rotate_left
                 ·exact pt_
                 refine pure_ (i := 3) (N := some 74) (v := undef) (a' := ?_) #[true, true, true, true, false, false, false, false, false, false, false, false, false, false, false, false, false] rfl rfl (any_of HT_.out (by kernel_rfl)) (fun _ _ _ h => h) (Or.inr ⟨by rfl, rfl⟩) ?_ ?_
                 rotate_left
                 ·exact pt_
                 refine pure_ (i := 4) (N := some 75) (v := undef) (a' := ?_) #[true, true, true, true, true, false, false, false, false, false, false, false, false, false, false, false, false] rfl rfl (any_of HT_.out (by kernel_rfl)) (fun _ _ _ h => h) (Or.inr ⟨by rfl, rfl⟩) ?_ ?_
                 rotate_left
                 ·exact pt_
                 refine pure_ (i := 5) (N := some 76) (v := undef) (a' := ?_) #[true, true, true, true, true, true, false, false, false, false, false, false, false, false, false, false, false] rfl rfl (any_of HT_.out (by kernel_rfl)) (fun _ _ _ h => h) (Or.inr ⟨by rfl, rfl⟩) ?_ ?_
                 rotate_left
                 ·exact pt_
                 refine pure_ (i := 6) (N := some 77) (v := undef) (a' := ?_) #[true, true, true, true, true, true, true, false, false, false, false, false, false, false, false, false, false] rfl rfl (any_of HT_.out (by kernel_rfl)) (fun _ _ _ h => h) (Or.inr ⟨by rfl, rfl⟩) ?_ ?_
                 rotate_left
                 ·exact pt_
                 refine pure_ (i := 7) (N := some 78) (v := undef) (a' := ?_) #[true, true, true, true, true, true, true, true, false, false, false, false, false, false, false, false, false] rfl rfl (any_of HT_.out (by kernel_rfl)) (fun _ _ _ h => h) (Or.inr ⟨by rfl, rfl⟩) ?_ ?_
                 rotate_left
                 ·exact pt_
                 refine pure_ (i := 8) (N := some 79) (v := undef) (a' := ?_) #[true, true, true, true, true, true, true, true, true, false, false, false, false, false, false, false, false] rfl rfl (any_of HT_.out (by kernel_rfl)) (fun _ _ _ h => h) (Or.inr ⟨by rfl, rfl⟩) ?_ ?_
                 rotate_left
                 ·exact pt_
                 refine pure_ (i := 9) (N := some 80) (v := undef) (a' := ?_) #[true, true, true, true, true, true, true, true, true, true, false, false, false, false, false, false, false] rfl rfl (any_of HT_.out (by kernel_rfl)) (fun _ _ _ h => h) (Or.inr ⟨by rfl, rfl⟩) ?_ ?_
                 rotate_left
                 ·exact pt_
                 refine pure_ (i := 10) (N := some 81) (v := undef) (a' := ?_) #[true, true, true, true, true, true, true, true, true, true, true, false, false, false, false, false, false] rfl rfl (any_of HT_.out (by kernel_rfl)) (fun _ _ _ h => h) (Or.inr ⟨by rfl, rfl⟩) ?_ ?_
                 rotate_left
                 ·exact pt_
                 refine pure_ (i := 11) (N := some 82) (v := undef) (a' := ?_) #[true, true, true, true, true, true, true, true, true, true, true, true, false, false, false, false, false] rfl rfl (any_of HT_.out (by kernel_rfl)) (fun _ _ _ h => h) (Or.inr ⟨by rfl, rfl⟩) ?_ ?_
                 rotate_left
                 ·exact pt_
                 refine pure_ (i := 12) (N := some 83) (v := undef) (a' := ?_) #[true, true, true, true, true, true, true, true, true, true, true, true, true, false, false, false, false] rfl rfl (any_of HT_.out (by kernel_rfl)) (fun _ _ _ h => h) (Or.inr ⟨by rfl, rfl⟩) ?_ ?_
                 rotate_left
                 ·exact pt_
                 refine pure_ (i := 13) (N := some 84) (v := undef) (a' := ?_) #[true, true, true, true, true, true, true, true, true, true, true, true, true, true, false, false, false] rfl rfl (any_of HT_.out (by kernel_rfl)) (fun _ _ _ h => h) (Or.inr ⟨by rfl, rfl⟩) ?_ ?_
                 rotate_left
                 ·exact pt_
                 refine pure_ (i := 14) (N := some 85) (v := undef) (a' := ?_) #[true, true, true, true, true, true, true, true, true, true, true, true, true, true, true, false, false] rfl rfl (any_of HT_.out (by kernel_rfl)) (fun _ _ _ h => h) (Or.inr ⟨by rfl, rfl⟩) ?_ ?_
                 rotate_left
                 ·exact pt_
                 refine pure_ (i := 15) (N := some 86) (v := undef) (a' := ?_) #[true, true, true, true, true, true, true, true, true, true, true, true, true, true, true, true, false] rfl rfl (any_of HT_.out (by kernel_rfl)) (fun _ _ _ h => h) (Or.inr ⟨by rfl, rfl⟩) ?_ ?_
                 rotate_left
                 ·exact pt_
                 refine pure_ (i := 16) (N := some 87) (v := ?_) (a' := ?_) #[true, true, true, true, true, true, true, true, true, true, true, true, true, true, true, true, true] rfl rfl (any_of HT_.out (by kernel_rfl)) (fun _ _ _ h => h) (Or.inl ⟨by rfl, ?_⟩) ?_ ?_
                 rotate_left
                 ·intro w'
                  go_simp
                  with_reducible rfl
                 rotate_left
                 ·exact pt_
                 refine done_ (done_of HT_.out (by kernel_rfl)) ?_
                 try go_wp2
                 go_roundg k5
                 case measure => have := HJ1.out; have := HK2.out; have := HK3.out; have := HJ6.out; have := HK5.out; omega
                 case rel => exact ⟨(x4_5), (wrap64 (x9_5 + 2)), eq_, H', ⟨by have := HJ1.out; have := HK2.out; have := HK3.out; have := HJ6.out; have := HK5.out; omega⟩, ⟨by refine kr_ ?_; exact Kd.R_mono HO_4.out (fun _ hk => trivial)⟩, ⟨by repeat (first | (with_reducible first | exact HB.out | apply below_alloc | apply pw_below_drewN | apply below_drew1 | refine below_set ?_ GE567.out) | exact HB.out)⟩⟩
               ·rw [if_neg c11] at H
                have c11b0 : decide (x9_5 ≤ 1) = false := decide_eq_false c11
                clear c11
                have H' := Aside0.mk H
                clear H
                go_wp2
                go_roundg k5
                case measure => have := HJ1.out; have := HK2.out; have := HK3.out; have := HJ6.out; have := HK5.out; omega
                case rel => exact ⟨(x4_5), (wrap64 (x6_3 + 1)), eq_, H', ⟨by have := HJ1.out; have := HK2.out; have := HK3.out; have := HJ6.out; have := HK5.out; omega⟩, ⟨by refine kr_ ?_; exact HO_4.out⟩, ⟨by repeat (first | (with_reducible first | exact HB.out | apply below_alloc | apply pw_below_drewN | apply below_drew1) | exact HB.out)⟩⟩
            ·rw [if_neg c10] at H
             have c10b0 : ((wrap64 (x8_6 * x8_6)) == (wrap64 ((wrap64 (x5_2 * x6_3)) - (wrap64 (a0 * (wrap64 (x5_2 + x6_3))))))) = false := beq_eq_false_iff_ne.mpr c10
             have c10b1 : ((wrap64 (x8_6 * x8_6)) != (wrap64 ((wrap64 (x5_2 * x6_3)) - (wrap64 (a0 * (wrap64 (x5_2 + x6_3))))))) = true := bne_iff_ne.mpr c10
             have H' := Aside0.mk H
             clear H
             go_wp2
             go_roundg kj6
             case measure => have := HJ1.out; have := HK2.out; have := HK3.out; have := HJ6.out; omega
             case rel => exact ⟨(x4_3), (wrap64 (x6_3 + 1)), eq_, H', ⟨by have := HJ1.out; have := HK2.out; have := HK3.out; have := HJ6.out; omega⟩, ⟨by refine kr_ ?_; exact HO_4.out⟩, ⟨by repeat (first | (with_reducible first | exact HB.out | apply below_alloc | apply pw_below_drewN | apply below_drew1) | exact HB.out)⟩⟩
         ·rw [if_neg c6] at H
          have c6b0 : decide (x6_3 ≤ (wrap64 (a0 * (wrap64 (a0 + 1))))) = false := decide_eq_false c6
          clear c6
          have H' := Aside0.mk H
          clear H
          go_wp2
          go_roundg k3
          case measure => have := HJ1.out; have := HK2.out; have := HK3.out; omega
          case rel => exact ⟨(x4_3), (wrap64 (x5_2 + 1)), eq_, H', ⟨by have := HJ1.out; have := HK2.out; have := HK3.out; omega⟩, ⟨by refine kr_ ?_; exact HO_4.out⟩, ⟨by repeat (first | (with_reducible first | exact HB.out | apply below_alloc | apply pw_below_drewN | apply below_drew1) | exact HB.out)⟩⟩
      ·rw [if_neg c5] at H
       have c5b0 : decide (x5_2 ≤ (wrap64 (3 * a0))) = false := decide_eq_false c5
       clear c5
       simp only [Option.some.injEq, Prod.mk.injEq] at H
       obtain ⟨rfl, rfl⟩ := H
       go_wp2
       go_ret2
       exact ⟨_, by first | rfl | (simp [errW_none, errW_some] <;> rfl) | (simp [*, errW_none, errW_some] <;> rfl), by refine kr_ ?_; exact HO_4.out, by repeat (first | (with_reducible first | exact HB.out | apply below_alloc | apply pw_below_drewN | apply below_drew1) | exact HB.out)⟩

end Go.Proofs.Ytlfmafebmnggeaa.Print
