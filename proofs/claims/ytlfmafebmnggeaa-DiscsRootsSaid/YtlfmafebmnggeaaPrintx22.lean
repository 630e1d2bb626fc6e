/- What the functions of the discs compute, printed by this repo's hand printer. -/
import Derived.Test.YtlfmafebmnggeaaShort
import Derived.Test.YtlfmafebmnggeaaPrintx0
import Derived.Test.YtlfmafebmnggeaaPrintx13
import Derived.Test.YtlfmafebmnggeaaPrintx21
namespace Go.Proofs.Ytlfmafebmnggeaa.Print
open Go.RowKit Go.Proofs.YtlfmafebmnggeaaW.PrintWords Go.Proofs.YtlfmafebmnggeaaW.PrintLast Go.Proofs.YtlfmafebmnggeaaW.PrintMore
attribute [local go_sem] max2_int min2_int max_two min_two max_three min_three max_four min_four
set_option maxHeartbeats 8000000 -- slim
set_option maxRecDepth 100000
set_option linter.unusedVariables false
set_option linter.unusedSimpArgs false

/-! ### clocheref01_Fourth: function 18 -/
mutual
def clocheref01_Fourth.j0 : Nat → Int → Int → Int → Bool → Option (Int × Int × Int)
 | 0, _, _, _, _ => none
 | k + 1, x0, x1, x2, x33 => if x33 = true then (some (0, 0, 2)) else (if (wrap64 ((wrap64 ((wrap64 (x0 * x1)) + (wrap64 (x1 * x2)))) + (wrap64 (x2 * x0)))) < 0 then (clocheref01_Fourth.j1 k x0 x1 x2 (wrap64 ((wrap64 ((wrap64 (x0 * x1)) + (wrap64 (x1 * x2)))) + (wrap64 (x2 * x0)))) true) else ((clocheref01_root.f k (wrap64 ((wrap64 ((wrap64 (x0 * x1)) + (wrap64 (x1 * x2)))) + (wrap64 (x2 * x0))))).bind fun t449 => ((clocheref01_root.f k (wrap64 ((wrap64 ((wrap64 (x0 * x1)) + (wrap64 (x1 * x2)))) + (wrap64 (x2 * x0))))).bind fun t450 => (clocheref01_Fourth.j1 k x0 x1 x2 (wrap64 ((wrap64 ((wrap64 (x0 * x1)) + (wrap64 (x1 * x2)))) + (wrap64 (x2 * x0)))) ((wrap64 (t449 * t450)) != (wrap64 ((wrap64 ((wrap64 (x0 * x1)) + (wrap64 (x1 * x2)))) + (wrap64 (x2 * x0)))))))))
def clocheref01_Fourth.j1 : Nat → Int → Int → Int → Int → Bool → Option (Int × Int × Int)
 | 0, _, _, _, _, _ => none
 | k + 1, x0, x1, x2, x9, x55 => if x55 = true then (some (0, 0, 10)) else ((clocheref01_root.f k x9).bind fun t451 => ((clocheref01_root.f k x9).bind fun t452 => ((clocheref01_IsQuad.f k x0 x1 x2 (wrap64 ((wrap64 ((wrap64 (x0 + x1)) + x2)) - (wrap64 (2 * t451))))).bind fun t453 => (if t453 = true then ((clocheref01_IsQuad.f k x0 x1 x2 (wrap64 ((wrap64 ((wrap64 (x0 + x1)) + x2)) + (wrap64 (2 * t452))))).bind fun t454 => (if t454 = true then (some (wrap64 ((wrap64 ((wrap64 (x0 + x1)) + x2)) - (wrap64 (2 * t451))), wrap64 ((wrap64 ((wrap64 (x0 + x1)) + x2)) + (wrap64 (2 * t452))), 0)) else (some (0, 0, 10)))) else (some (0, 0, 10))))))
end
def clocheref01_Fourth.f (k : Nat) (a0 : Int) (a1 : Int) (a2 : Int) : Option (Int × Int × Int) := if a0 < (-1048576) then (clocheref01_Fourth.j0 k a0 a1 a2 true) else (if a0 > 1048576 then (clocheref01_Fourth.j0 k a0 a1 a2 true) else (if a1 < (-1048576) then (clocheref01_Fourth.j0 k a0 a1 a2 true) else (if a1 > 1048576 then (clocheref01_Fourth.j0 k a0 a1 a2 true) else (if a2 < (-1048576) then (clocheref01_Fourth.j0 k a0 a1 a2 true) else (clocheref01_Fourth.j0 k a0 a1 a2 (decide (a2 > 1048576)))))))
theorem clocheref01_Fourth.mono_l : ∀ k, (∀ y0 y1 y2 y3, LeO (clocheref01_Fourth.j0 k y0 y1 y2 y3) (clocheref01_Fourth.j0 (k + 1) y0 y1 y2 y3)) ∧ (∀ y0 y1 y2 y3 y4, LeO (clocheref01_Fourth.j1 k y0 y1 y2 y3 y4) (clocheref01_Fourth.j1 (k + 1) y0 y1 y2 y3 y4))
 | 0 => ⟨fun _ _ _ _ r h => by simp [clocheref01_Fourth.j0] at h, fun _ _ _ _ _ r h => by simp [clocheref01_Fourth.j1] at h⟩
 | k + 1 => by
  obtain ⟨ih0, ih1⟩ := clocheref01_Fourth.mono_l k
  refine ⟨?_, ?_⟩
  ·intro y0 y1 y2 y3
   unfold clocheref01_Fourth.j0
   repeat' first
   | (with_reducible exact ih0 _ _ _ _)
   | (with_reducible exact ih1 _ _ _ _ _)
   | (with_reducible exact clocheref01_IsQuad.mono _ _ _ _ _)
   | (with_reducible exact clocheref01_root.mono _ _)
   | (with_reducible exact LeO.refl _)
   | (with_reducible exact LeO.none _)
   | (with_reducible refine LeO.ite ?_ ?_)
   | (with_reducible refine LeO.bind ?_ (fun _ => ?_))
   | exact ih0 _ _ _ _
   | exact ih1 _ _ _ _ _
   | exact clocheref01_IsQuad.mono _ _ _ _ _
   | exact clocheref01_root.mono _ _
   | exact LeO.none _
   | refine LeO.ite ?_ ?_
   | refine LeO.bind ?_ (fun _ => ?_)
  ·intro y0 y1 y2 y3 y4
   unfold clocheref01_Fourth.j1
   repeat' first
   | (with_reducible exact ih0 _ _ _ _)
   | (with_reducible exact ih1 _ _ _ _ _)
   | (with_reducible exact clocheref01_IsQuad.mono _ _ _ _ _)
   | (with_reducible exact clocheref01_root.mono _ _)
   | (with_reducible exact LeO.refl _)
   | (with_reducible exact LeO.none _)
   | (with_reducible refine LeO.ite ?_ ?_)
   | (with_reducible refine LeO.bind ?_ (fun _ => ?_))
   | exact ih0 _ _ _ _
   | exact ih1 _ _ _ _ _
   | exact clocheref01_IsQuad.mono _ _ _ _ _
   | exact clocheref01_root.mono _ _
   | exact LeO.none _
   | refine LeO.ite ?_ ?_
   | refine LeO.bind ?_ (fun _ => ?_)
theorem clocheref01_Fourth.mono : ∀ a0 a1 a2 k, LeO (clocheref01_Fourth.f k a0 a1 a2) (clocheref01_Fourth.f (k + 1) a0 a1 a2) := by
 intro a0 a1 a2 k
 obtain ⟨ih0, ih1⟩ := clocheref01_Fourth.mono_l k
 unfold clocheref01_Fourth.f
 repeat' first
   | (with_reducible exact ih0 _ _ _ _)
   | (with_reducible exact ih1 _ _ _ _ _)
   | (with_reducible exact clocheref01_IsQuad.mono _ _ _ _ _)
   | (with_reducible exact clocheref01_root.mono _ _)
   | (with_reducible exact LeO.refl _)
   | (with_reducible exact LeO.none _)
   | (with_reducible refine LeO.ite ?_ ?_)
   | (with_reducible refine LeO.bind ?_ (fun _ => ?_))
   | exact ih0 _ _ _ _
   | exact ih1 _ _ _ _ _
   | exact clocheref01_IsQuad.mono _ _ _ _ _
   | exact clocheref01_root.mono _ _
   | exact LeO.none _
   | refine LeO.ite ?_ ?_
   | refine LeO.bind ?_ (fun _ => ?_)
theorem clocheref01_Fourth.calls (k : Nat) (a0 : Int) (a1 : Int) (a2 : Int) (r1 : Int) (r2 : Int) (r3 : Int) (w : World) (h : clocheref01_Fourth.f k a0 a1 a2 = some (r1, r2, r3)) :
  Calls Try.prog 18 #[.int .i64 a0, .int .i64 a1, .int .i64 a2] w fun e w' => e = .returned (.tuple #[.int .i64 r1, .int .i64 r2, .int .i64 r3]) ∧ Below w.heap.size w w' := by
 have hu23 := Try.underlying23
 have HB := Aside0.mk (Below.refl w.heap.size w)
 have H : (if a0 < (-1048576) then (clocheref01_Fourth.j0 k a0 a1 a2 true) else (if a0 > 1048576 then (clocheref01_Fourth.j0 k a0 a1 a2 true) else (if a1 < (-1048576) then (clocheref01_Fourth.j0 k a0 a1 a2 true) else (if a1 > 1048576 then (clocheref01_Fourth.j0 k a0 a1 a2 true) else (if a2 < (-1048576) then (clocheref01_Fourth.j0 k a0 a1 a2 true) else (clocheref01_Fourth.j0 k a0 a1 a2 (decide (a2 > 1048576)))))))) = some (r1, r2, r3) := h
 clear h
 have HC4 := Aside0.mk H
 clear H
 go_enter Try.func18, Try.ntmps18
 go_upto_region 1 with (fail)
 go_cut [33] (fun v33 wc => ∃ (kq : Nat) (x33_3 : Bool), v33 = .bool x33_3 ∧ Aside0 (clocheref01_Fourth.j0 kq a0 a1 a2 x33_3 = some (r1, r2, r3)) ∧ Aside0 (kq ≤ k) ∧ Aside0 (Below w.heap.size w wc))
 case first =>
  have H := HC4.out
  clear HC4
  by_cases c5 : a0 < (-1048576)
  ·rw [if_pos c5] at H
   have c5b0 : decide (a0 < (-1048576)) = true := decide_eq_true c5
   clear c5
   (first | rw [c5b0] | (simp only [i64_w, i32_w]; rw [c5b0]) | skip)
   have H' := Aside0.mk H
   clear H
   go_wp2
   go_meet
   case rel => exact ⟨_, (true), eq_, H', ⟨by first | omega | exact Nat.le_refl _⟩, ⟨by repeat (first | (with_reducible first | exact HB.out | apply below_alloc | apply pw_below_drewN | apply below_drew1) | exact HB.out)⟩⟩
  ·rw [if_neg c5] at H
   have c5b0 : decide (a0 < (-1048576)) = false := decide_eq_false c5
   clear c5
   (first | rw [c5b0] | (simp only [i64_w, i32_w]; rw [c5b0]) | skip)
   by_cases c6 : a0 > 1048576
   ·rw [if_pos c6] at H
    have c6b0 : decide (1048576 < a0) = true := decide_eq_true c6
    clear c6
    have H' := Aside0.mk H
    clear H
    go_wp2
    go_meet
    case rel => exact ⟨_, (true), eq_, H', ⟨by first | omega | exact Nat.le_refl _⟩, ⟨by repeat (first | (with_reducible first | exact HB.out | apply below_alloc | apply pw_below_drewN | apply below_drew1) | exact HB.out)⟩⟩
   ·rw [if_neg c6] at H
    have c6b0 : decide (1048576 < a0) = false := decide_eq_false c6
    clear c6
    by_cases c7 : a1 < (-1048576)
    ·rw [if_pos c7] at H
     have c7b0 : decide (a1 < (-1048576)) = true := decide_eq_true c7
     clear c7
     have H' := Aside0.mk H
     clear H
     go_wp2
     go_meet
     case rel => exact ⟨_, (true), eq_, H', ⟨by first | omega | exact Nat.le_refl _⟩, ⟨by repeat (first | (with_reducible first | exact HB.out | apply below_alloc | apply pw_below_drewN | apply below_drew1) | exact HB.out)⟩⟩
    ·rw [if_neg c7] at H
     have c7b0 : decide (a1 < (-1048576)) = false := decide_eq_false c7
     clear c7
     by_cases c8 : a1 > 1048576
     ·rw [if_pos c8] at H
      have c8b0 : decide (1048576 < a1) = true := decide_eq_true c8
      clear c8
      have H' := Aside0.mk H
      clear H
      go_wp2
      go_meet
      case rel => exact ⟨_, (true), eq_, H', ⟨by first | omega | exact Nat.le_refl _⟩, ⟨by repeat (first | (with_reducible first | exact HB.out | apply below_alloc | apply pw_below_drewN | apply below_drew1) | exact HB.out)⟩⟩
     ·rw [if_neg c8] at H
      have c8b0 : decide (1048576 < a1) = false := decide_eq_false c8
      clear c8
      by_cases c9 : a2 < (-1048576)
      ·rw [if_pos c9] at H
       have c9b0 : decide (a2 < (-1048576)) = true := decide_eq_true c9
       clear c9
       have H' := Aside0.mk H
       clear H
       go_wp2
       go_meet
       case rel => exact ⟨_, (true), eq_, H', ⟨by first | omega | exact Nat.le_refl _⟩, ⟨by repeat (first | (with_reducible first | exact HB.out | apply below_alloc | apply pw_below_drewN | apply below_drew1) | exact HB.out)⟩⟩
      ·rw [if_neg c9] at H
       have c9b0 : decide (a2 < (-1048576)) = false := decide_eq_false c9
       clear c9
       have H' := Aside0.mk H
       clear H
       go_wp2
       go_meet
       case rel => exact ⟨_, (decide (a2 > 1048576)), eq_, H', ⟨by first | omega | exact Nat.le_refl _⟩, ⟨by repeat (first | (with_reducible first | exact HB.out | apply below_alloc | apply pw_below_drewN | apply below_drew1) | exact HB.out)⟩⟩
 case rest =>
  clear HC4
  try clear c1
  try clear p2
  try clear c5
  try clear c5b0
  try clear c6
  try clear c6b0
  try clear c7
  try clear c7b0
  try clear c8
  try clear c8b0
  try clear c9
  try clear c9b0
  obtain ⟨kq, x33_3, rfl, HA, HJ3, HB⟩ := hcut
  cases kq with
  | zero => exact absurd HA.out (by simp [clocheref01_Fourth.j0])
  | succ kj3 =>
   have H := HA.out
   clear HA
   simp only [clocheref01_Fourth.j0] at H
   by_cases c10 : x33_3 = true
   ·subst c10
    have H1 : (some (0, 0, 2)) = some (r1, r2, r3) := by rw [if_pos rfl] at H; exact H
    clear H
    have H := H1
    clear H1
    simp only [Option.some.injEq, Prod.mk.injEq] at H
    obtain ⟨rfl, rfl, rfl⟩ := H
    go_wp2
    go_ret3
    exact ⟨by first | rfl | (simp [errW_none, errW_some] <;> rfl) | (simp [*, errW_none, errW_some] <;> rfl), by repeat (first | (with_reducible first | exact HB.out | apply below_alloc | apply pw_below_drewN | apply below_drew1) | exact HB.out)⟩
   ·replace c10 := Bool.eq_false_iff.mpr c10
    subst c10
    have H1 : (if (wrap64 ((wrap64 ((wrap64 (a0 * a1)) + (wrap64 (a1 * a2)))) + (wrap64 (a2 * a0)))) < 0 then (clocheref01_Fourth.j1 kj3 a0 a1 a2 (wrap64 ((wrap64 ((wrap64 (a0 * a1)) + (wrap64 (a1 * a2)))) + (wrap64 (a2 * a0)))) true) else ((clocheref01_root.f kj3 (wrap64 ((wrap64 ((wrap64 (a0 * a1)) + (wrap64 (a1 * a2)))) + (wrap64 (a2 * a0))))).bind fun t449 => ((clocheref01_root.f kj3 (wrap64 ((wrap64 ((wrap64 (a0 * a1)) + (wrap64 (a1 * a2)))) + (wrap64 (a2 * a0))))).bind fun t450 => (clocheref01_Fourth.j1 kj3 a0 a1 a2 (wrap64 ((wrap64 ((wrap64 (a0 * a1)) + (wrap64 (a1 * a2)))) + (wrap64 (a2 * a0)))) ((wrap64 (t449 * t450)) != (wrap64 ((wrap64 ((wrap64 (a0 * a1)) + (wrap64 (a1 * a2)))) + (wrap64 (a2 * a0))))))))) = some (r1, r2, r3) := by rw [if_neg (show ¬ (false = true) by decide)] at H; exact H
    clear H
    have H := H1
    clear H1
    have HC11 := Aside0.mk H
    clear H
    go_upto_region 4 with (fail)
    go_cut [55] (fun v55 wc => ∃ (kq : Nat) (x55_10 : Bool), v55 = .bool x55_10 ∧ Aside0 (clocheref01_Fourth.j1 kq a0 a1 a2 (wrap64 ((wrap64 ((wrap64 (a0 * a1)) + (wrap64 (a1 * a2)))) + (wrap64 (a2 * a0)))) x55_10 = some (r1, r2, r3)) ∧ Aside0 (kq ≤ kj3) ∧ Aside0 (Below w.heap.size w wc))
    case first =>
     have H := HC11.out
     clear HC11
     by_cases c12 : (wrap64 ((wrap64 ((wrap64 (a0 * a1)) + (wrap64 (a1 * a2)))) + (wrap64 (a2 * a0)))) < 0
     ·rw [if_pos c12] at H
      have c12b0 : decide ((wrap64 ((wrap64 ((wrap64 (a0 * a1)) + (wrap64 (a1 * a2)))) + (wrap64 (a2 * a0)))) < 0) = true := decide_eq_true c12
      clear c12
      (first | rw [c12b0] | (simp only [i64_w, i32_w]; rw [c12b0]) | skip)
      have H' := Aside0.mk H
      clear H
      go_wp2
      go_meet
      case rel => exact ⟨_, (true), eq_, H', ⟨by have := HJ3.out; first | omega | exact Nat.le_refl _⟩, ⟨by repeat (first | (with_reducible first | exact HB.out | apply below_alloc | apply pw_below_drewN | apply below_drew1) | exact HB.out)⟩⟩
     ·rw [if_neg c12] at H
      have c12b0 : decide ((wrap64 ((wrap64 ((wrap64 (a0 * a1)) + (wrap64 (a1 * a2)))) + (wrap64 (a2 * a0)))) < 0) = false := decide_eq_false c12
      clear c12
      (first | rw [c12b0] | (simp only [i64_w, i32_w]; rw [c12b0]) | skip)
      replace H := Option.bind_eq_some_iff.mp H
      obtain ⟨t449, A130, H⟩ := H
      replace H : ((clocheref01_root.f kj3 (wrap64 ((wrap64 ((wrap64 (a0 * a1)) + (wrap64 (a1 * a2)))) + (wrap64 (a2 * a0))))).bind fun t450 => (clocheref01_Fourth.j1 kj3 a0 a1 a2 (wrap64 ((wrap64 ((wrap64 (a0 * a1)) + (wrap64 (a1 * a2)))) + (wrap64 (a2 * a0)))) ((wrap64 (t449 * t450)) != (wrap64 ((wrap64 ((wrap64 (a0 * a1)) + (wrap64 (a1 * a2)))) + (wrap64 (a2 * a0))))))) = some (r1, r2, r3) := H
      have A13 := Aside0.mk A130
      clear A130
      replace H := Option.bind_eq_some_iff.mp H
      obtain ⟨t450, A140, H⟩ := H
      replace H : (clocheref01_Fourth.j1 kj3 a0 a1 a2 (wrap64 ((wrap64 ((wrap64 (a0 * a1)) + (wrap64 (a1 * a2)))) + (wrap64 (a2 * a0)))) ((wrap64 (t449 * t450)) != (wrap64 ((wrap64 ((wrap64 (a0 * a1)) + (wrap64 (a1 * a2)))) + (wrap64 (a2 * a0)))))) = some (r1, r2, r3) := H
      have A14 := Aside0.mk A140
      clear A140
      have H' := Aside0.mk H
      clear H
      go_wp2_with (first | (go_at_call 44; (with_reducible refine (clocheref01_root.calls kj3 (wrap64 ((wrap64 ((wrap64 (a0 * a1)) + (wrap64 (a1 * a2)))) + (wrap64 (a2 * a0)))) t449 _ A13.out).mono ?_); rintro e w' ⟨rfl, ⟨nd, rfl⟩⟩) | (go_at_call 44; (with_reducible refine (clocheref01_root.calls kj3 (wrap64 ((wrap64 ((wrap64 (a0 * a1)) + (wrap64 (a1 * a2)))) + (wrap64 (a2 * a0)))) t450 _ A14.out).mono ?_); rintro e w' ⟨rfl, ⟨nd, rfl⟩⟩))
      go_meet
      case rel => exact ⟨_, (((wrap64 (t449 * t450)) != (wrap64 ((wrap64 ((wrap64 (a0 * a1)) + (wrap64 (a1 * a2)))) + (wrap64 (a2 * a0)))))), (by first | rfl | (simp; done) | (simp [*]; done) | (rw [Option.some.inj (A14.out.symm.trans A13.out)])), H', ⟨by have := HJ3.out; first | omega | exact Nat.le_refl _⟩, ⟨by repeat (first | (with_reducible first | exact HB.out | apply below_alloc | apply pw_below_drewN | apply below_drew1) | exact HB.out)⟩⟩
    case rest =>
     clear HC11
     try clear c1
     try clear p2
     try clear c5
     try clear c5b0
     try clear c6
     try clear c6b0
     try clear p6
     try clear c7
     try clear c7b0
     try clear c8
     try clear c8b0
     try clear c9
     try clear c9b0
     try clear c10
     try clear c12
     try clear c12b0
     try clear p2
     obtain ⟨kq, x55_10, rfl, HA, HJ10, HB⟩ := hcut
     cases kq with
     | zero => exact absurd HA.out (by simp [clocheref01_Fourth.j1])
     | succ kj10 =>
      have H := HA.out
      clear HA
      simp only [clocheref01_Fourth.j1] at H
      by_cases c15 : x55_10 = true
      ·subst c15
       have H1 : (some (0, 0, 10)) = some (r1, r2, r3) := by rw [if_pos rfl] at H; exact H
       clear H
       have H := H1
       clear H1
       simp only [Option.some.injEq, Prod.mk.injEq] at H
       obtain ⟨rfl, rfl, rfl⟩ := H
       go_wp2
       go_ret3
       exact ⟨by first | rfl | (simp [errW_none, errW_some] <;> rfl) | (simp [*, errW_none, errW_some] <;> rfl), by repeat (first | (with_reducible first | exact HB.out | apply below_alloc | apply pw_below_drewN | apply below_drew1) | exact HB.out)⟩
      ·replace c15 := Bool.eq_false_iff.mpr c15
       subst c15
       have H1 : ((clocheref01_root.f kj10 (wrap64 ((wrap64 ((wrap64 (a0 * a1)) + (wrap64 (a1 * a2)))) + (wrap64 (a2 * a0))))).bind fun t451 => ((clocheref01_root.f kj10 (wrap64 ((wrap64 ((wrap64 (a0 * a1)) + (wrap64 (a1 * a2)))) + (wrap64 (a2 * a0))))).bind fun t452 => ((clocheref01_IsQuad.f kj10 a0 a1 a2 (wrap64 ((wrap64 ((wrap64 (a0 + a1)) + a2)) - (wrap64 (2 * t451))))).bind fun t453 => (if t453 = true then ((clocheref01_IsQuad.f kj10 a0 a1 a2 (wrap64 ((wrap64 ((wrap64 (a0 + a1)) + a2)) + (wrap64 (2 * t452))))).bind fun t454 => (if t454 = true then (some (wrap64 ((wrap64 ((wrap64 (a0 + a1)) + a2)) - (wrap64 (2 * t451))), wrap64 ((wrap64 ((wrap64 (a0 + a1)) + a2)) + (wrap64 (2 * t452))), 0)) else (some (0, 0, 10)))) else (some (0, 0, 10)))))) = some (r1, r2, r3) := by rw [if_neg (show ¬ (false = true) by decide)] at H; exact H
       clear H
       have H := H1
       clear H1
       replace H := Option.bind_eq_some_iff.mp H
       obtain ⟨t451, A160, H⟩ := H
       replace H : ((clocheref01_root.f kj10 (wrap64 ((wrap64 ((wrap64 (a0 * a1)) + (wrap64 (a1 * a2)))) + (wrap64 (a2 * a0))))).bind fun t452 => ((clocheref01_IsQuad.f kj10 a0 a1 a2 (wrap64 ((wrap64 ((wrap64 (a0 + a1)) + a2)) - (wrap64 (2 * t451))))).bind fun t453 => (if t453 = true then ((clocheref01_IsQuad.f kj10 a0 a1 a2 (wrap64 ((wrap64 ((wrap64 (a0 + a1)) + a2)) + (wrap64 (2 * t452))))).bind fun t454 => (if t454 = true then (some (wrap64 ((wrap64 ((wrap64 (a0 + a1)) + a2)) - (wrap64 (2 * t451))), wrap64 ((wrap64 ((wrap64 (a0 + a1)) + a2)) + (wrap64 (2 * t452))), 0)) else (some (0, 0, 10)))) else (some (0, 0, 10))))) = some (r1, r2, r3) := H
       have A16 := Aside0.mk A160
       clear A160
       replace H := Option.bind_eq_some_iff.mp H
       obtain ⟨t452, A170, H⟩ := H
       replace H : ((clocheref01_IsQuad.f kj10 a0 a1 a2 (wrap64 ((wrap64 ((wrap64 (a0 + a1)) + a2)) - (wrap64 (2 * t451))))).bind fun t453 => (if t453 = true then ((clocheref01_IsQuad.f kj10 a0 a1 a2 (wrap64 ((wrap64 ((wrap64 (a0 + a1)) + a2)) + (wrap64 (2 * t452))))).bind fun t454 => (if t454 = true then (some (wrap64 ((wrap64 ((wrap64 (a0 + a1)) + a2)) - (wrap64 (2 * t451))), wrap64 ((wrap64 ((wrap64 (a0 + a1)) + a2)) + (wrap64 (2 * t452))), 0)) else (some (0, 0, 10)))) else (some (0, 0, 10)))) = some (r1, r2, r3) := H
       have A17 := Aside0.mk A170
       clear A170
       replace H := Option.bind_eq_some_iff.mp H
       obtain ⟨t453, A180, H⟩ := H
       replace H : (if t453 = true then ((clocheref01_IsQuad.f kj10 a0 a1 a2 (wrap64 ((wrap64 ((wrap64 (a0 + a1)) + a2)) + (wrap64 (2 * t452))))).bind fun t454 => (if t454 = true then (some (wrap64 ((wrap64 ((wrap64 (a0 + a1)) + a2)) - (wrap64 (2 * t451))), wrap64 ((wrap64 ((wrap64 (a0 + a1)) + a2)) + (wrap64 (2 * t452))), 0)) else (some (0, 0, 10)))) else (some (0, 0, 10))) = some (r1, r2, r3) := H
       have A18 := Aside0.mk A180
       clear A180
       by_cases c19 : t453 = true
       ·subst c19
        have H1 : ((clocheref01_IsQuad.f kj10 a0 a1 a2 (wrap64 ((wrap64 ((wrap64 (a0 + a1)) + a2)) + (wrap64 (2 * t452))))).bind fun t454 => (if t454 = true then (some (wrap64 ((wrap64 ((wrap64 (a0 + a1)) + a2)) - (wrap64 (2 * t451))), wrap64 ((wrap64 ((wrap64 (a0 + a1)) + a2)) + (wrap64 (2 * t452))), 0)) else (some (0, 0, 10)))) = some (r1, r2, r3) := by rw [if_pos rfl] at H; exact H
        clear H
        have H := H1
        clear H1
        replace H := Option.bind_eq_some_iff.mp H
        obtain ⟨t454, A200, H⟩ := H
        replace H : (if t454 = true then (some (wrap64 ((wrap64 ((wrap64 (a0 + a1)) + a2)) - (wrap64 (2 * t451))), wrap64 ((wrap64 ((wrap64 (a0 + a1)) + a2)) + (wrap64 (2 * t452))), 0)) else (some (0, 0, 10))) = some (r1, r2, r3) := H
        have A20 := Aside0.mk A200
        clear A200
        by_cases c21 : t454 = true
        ·subst c21
         have H1 : (some (wrap64 ((wrap64 ((wrap64 (a0 + a1)) + a2)) - (wrap64 (2 * t451))), wrap64 ((wrap64 ((wrap64 (a0 + a1)) + a2)) + (wrap64 (2 * t452))), 0)) = some (r1, r2, r3) := by rw [if_pos rfl] at H; exact H
         clear H
         have H := H1
         clear H1
         simp only [Option.some.injEq, Prod.mk.injEq] at H
         obtain ⟨rfl, rfl, rfl⟩ := H
         go_wp2_with (first | ((with_reducible refine gate_callee (f := 44) rfl ?_); refine goesL_ (some 62) rfl rfl Try.func44 (by kernel_rfl) rfl #[.int .i64 (wrap64 ((wrap64 ((wrap64 (a0 * a1)) + (wrap64 (a1 * a2)))) + (wrap64 (a2 * a0))))] rfl mp_ ?_; (with_reducible refine (clocheref01_root.calls kj10 (wrap64 ((wrap64 ((wrap64 (a0 * a1)) + (wrap64 (a1 * a2)))) + (wrap64 (a2 * a0)))) t451 _ A16.out).mono ?_); rintro e w' ⟨rfl, ⟨nd, rfl⟩⟩; refine ⟨_, rfl, ?_⟩) | ((with_reducible refine gate_callee (f := 44) rfl ?_); refine goesL_ (some 71) rfl rfl Try.func44 (by kernel_rfl) rfl #[.int .i64 (wrap64 ((wrap64 ((wrap64 (a0 * a1)) + (wrap64 (a1 * a2)))) + (wrap64 (a2 * a0))))] rfl mp_ ?_; (with_reducible refine (clocheref01_root.calls kj10 (wrap64 ((wrap64 ((wrap64 (a0 * a1)) + (wrap64 (a1 * a2)))) + (wrap64 (a2 * a0)))) t452 _ A17.out).mono ?_); rintro e w' ⟨rfl, ⟨nd, rfl⟩⟩; refine ⟨_, rfl, ?_⟩) | ((with_reducible refine gate_callee (f := 27) rfl ?_); refine goesL_ (some 79) rfl rfl Try.func27 (by kernel_rfl) rfl #[.agg #[.int .i64 a0, .int .i64 a1, .int .i64 a2, .int .i64 (wrap64 ((wrap64 ((wrap64 (a0 + a1)) + a2)) - (wrap64 (2 * t451))))]] rfl mp_ ?_; (with_reducible refine (clocheref01_IsQuad.calls kj10 a0 a1 a2 (wrap64 ((wrap64 ((wrap64 (a0 + a1)) + a2)) - (wrap64 (2 * t451)))) true _ A18.out).mono ?_); rintro e w22 ⟨rfl, hb⟩; refine ⟨_, rfl, ?_⟩; have n0_ := Aside0.mk (below_step (lw_ HB.out) hb); clear HB; have HB := n0_; clear n0_; (try clear hb); (try clear hb2); (try clear hk); (try clear hi)) | (go_at_call 27; (with_reducible refine (clocheref01_IsQuad.calls kj10 a0 a1 a2 (wrap64 ((wrap64 ((wrap64 (a0 + a1)) + a2)) + (wrap64 (2 * t452)))) true _ A20.out).mono ?_); rintro e w23 ⟨rfl, hb⟩; have n0_ := Aside0.mk (below_step (lw_ HB.out) hb); clear HB; have HB := n0_; clear n0_; (try clear hb); (try clear hb2); (try clear hk); (try clear hi)))
         go_ret3
         exact ⟨by first | rfl | (simp [errW_none, errW_some] <;> rfl) | (simp [*, errW_none, errW_some] <;> rfl), by repeat (first | (with_reducible first | exact HB.out | apply below_alloc | apply pw_below_drewN | apply below_drew1) | exact HB.out)⟩
        ·replace c21 := Bool.eq_false_iff.mpr c21
         subst c21
         have H1 : (some (0, 0, 10)) = some (r1, r2, r3) := by rw [if_neg (show ¬ (false = true) by decide)] at H; exact H
         clear H
         have H := H1
         clear H1
         simp only [Option.some.injEq, Prod.mk.injEq] at H
         obtain ⟨rfl, rfl, rfl⟩ := H
         go_wp2_with (first | ((with_reducible refine gate_callee (f := 44) rfl ?_); refine goesL_ (some 62) rfl rfl Try.func44 (by kernel_rfl) rfl #[.int .i64 (wrap64 ((wrap64 ((wrap64 (a0 * a1)) + (wrap64 (a1 * a2)))) + (wrap64 (a2 * a0))))] rfl mp_ ?_; (with_reducible refine (clocheref01_root.calls kj10 (wrap64 ((wrap64 ((wrap64 (a0 * a1)) + (wrap64 (a1 * a2)))) + (wrap64 (a2 * a0)))) t451 _ A16.out).mono ?_); rintro e w' ⟨rfl, ⟨nd, rfl⟩⟩; refine ⟨_, rfl, ?_⟩) | ((with_reducible refine gate_callee (f := 44) rfl ?_); refine goesL_ (some 71) rfl rfl Try.func44 (by kernel_rfl) rfl #[.int .i64 (wrap64 ((wrap64 ((wrap64 (a0 * a1)) + (wrap64 (a1 * a2)))) + (wrap64 (a2 * a0))))] rfl mp_ ?_; (with_reducible refine (clocheref01_root.calls kj10 (wrap64 ((wrap64 ((wrap64 (a0 * a1)) + (wrap64 (a1 * a2)))) + (wrap64 (a2 * a0)))) t452 _ A17.out).mono ?_); rintro e w' ⟨rfl, ⟨nd, rfl⟩⟩; refine ⟨_, rfl, ?_⟩) | ((with_reducible refine gate_callee (f := 27) rfl ?_); refine goesL_ (some 79) rfl rfl Try.func27 (by kernel_rfl) rfl #[.agg #[.int .i64 a0, .int .i64 a1, .int .i64 a2, .int .i64 (wrap64 ((wrap64 ((wrap64 (a0 + a1)) + a2)) - (wrap64 (2 * t451))))]] rfl mp_ ?_; (with_reducible refine (clocheref01_IsQuad.calls kj10 a0 a1 a2 (wrap64 ((wrap64 ((wrap64 (a0 + a1)) + a2)) - (wrap64 (2 * t451)))) true _ A18.out).mono ?_); rintro e w24 ⟨rfl, hb⟩; refine ⟨_, rfl, ?_⟩; have n0_ := Aside0.mk (below_step (lw_ HB.out) hb); clear HB; have HB := n0_; clear n0_; (try clear hb); (try clear hb2); (try clear hk); (try clear hi)) | (go_at_call 27; (with_reducible refine (clocheref01_IsQuad.calls kj10 a0 a1 a2 (wrap64 ((wrap64 ((wrap64 (a0 + a1)) + a2)) + (wrap64 (2 * t452)))) false _ A20.out).mono ?_); rintro e w25 ⟨rfl, hb⟩; have n0_ := Aside0.mk (below_step (lw_ HB.out) hb); clear HB; have HB := n0_; clear n0_; (try clear hb); (try clear hb2); (try clear hk); (try clear hi)))
         go_ret3
         exact ⟨by first | rfl | (simp [errW_none, errW_some] <;> rfl) | (simp [*, errW_none, errW_some] <;> rfl), by repeat (first | (with_reducible first | exact HB.out | apply below_alloc | apply pw_below_drewN | apply below_drew1) | exact HB.out)⟩
       ·replace c19 := Bool.eq_false_iff.mpr c19
        subst c19
        have H1 : (some (0, 0, 10)) = some (r1, r2, r3) := by rw [if_neg (show ¬ (false = true) by decide)] at H; exact H
        clear H
        have H := H1
        clear H1
        simp only [Option.some.injEq, Prod.mk.injEq] at H
        obtain ⟨rfl, rfl, rfl⟩ := H
        go_wp2_with (first | ((with_reducible refine gate_callee (f := 44) rfl ?_); refine goesL_ (some 62) rfl rfl Try.func44 (by kernel_rfl) rfl #[.int .i64 (wrap64 ((wrap64 ((wrap64 (a0 * a1)) + (wrap64 (a1 * a2)))) + (wrap64 (a2 * a0))))] rfl mp_ ?_; (with_reducible refine (clocheref01_root.calls kj10 (wrap64 ((wrap64 ((wrap64 (a0 * a1)) + (wrap64 (a1 * a2)))) + (wrap64 (a2 * a0)))) t451 _ A16.out).mono ?_); rintro e w' ⟨rfl, ⟨nd, rfl⟩⟩; refine ⟨_, rfl, ?_⟩) | ((with_reducible refine gate_callee (f := 44) rfl ?_); refine goesL_ (some 71) rfl rfl Try.func44 (by kernel_rfl) rfl #[.int .i64 (wrap64 ((wrap64 ((wrap64 (a0 * a1)) + (wrap64 (a1 * a2)))) + (wrap64 (a2 * a0))))] rfl mp_ ?_; (with_reducible refine (clocheref01_root.calls kj10 (wrap64 ((wrap64 ((wrap64 (a0 * a1)) + (wrap64 (a1 * a2)))) + (wrap64 (a2 * a0)))) t452 _ A17.out).mono ?_); rintro e w' ⟨rfl, ⟨nd, rfl⟩⟩; refine ⟨_, rfl, ?_⟩) | ((with_reducible refine gate_callee (f := 27) rfl ?_); refine goesL_ (some 79) rfl rfl Try.func27 (by kernel_rfl) rfl #[.agg #[.int .i64 a0, .int .i64 a1, .int .i64 a2, .int .i64 (wrap64 ((wrap64 ((wrap64 (a0 + a1)) + a2)) - (wrap64 (2 * t451))))]] rfl mp_ ?_; (with_reducible refine (clocheref01_IsQuad.calls kj10 a0 a1 a2 (wrap64 ((wrap64 ((wrap64 (a0 + a1)) + a2)) - (wrap64 (2 * t451)))) false _ A18.out).mono ?_); rintro e w26 ⟨rfl, hb⟩; refine ⟨_, rfl, ?_⟩; have n0_ := Aside0.mk (below_step (lw_ HB.out) hb); clear HB; have HB := n0_; clear n0_; (try clear hb); (try clear hb2); (try clear hk); (try clear hi)))
        go_ret3
        exact ⟨by first | rfl | (simp [errW_none, errW_some] <;> rfl) | (simp [*, errW_none, errW_some] <;> rfl), by repeat (first | (with_reducible first | exact HB.out | apply below_alloc | apply pw_below_drewN | apply below_drew1) | exact HB.out)⟩

end Go.Proofs.Ytlfmafebmnggeaa.Print
