/- What the functions of the discs compute, printed by this repo's hand printer. -/
import Derived.Test.YtlfmafebmnggeaaShort
import Derived.Test.YtlfmafebmnggeaaPrintx0
namespace Go.Proofs.Ytlfmafebmnggeaa.Print
open Go.RowKit Go.Proofs.YtlfmafebmnggeaaW.PrintWords Go.Proofs.YtlfmafebmnggeaaW.PrintLast Go.Proofs.YtlfmafebmnggeaaW.PrintMore
attribute [local go_sem] max2_int min2_int max_two min_two max_three min_three max_four min_four
set_option maxHeartbeats 8000000 -- slim
set_option maxRecDepth 100000
set_option linter.unusedVariables false
set_option linter.unusedSimpArgs false

/-! ### clocheref01_Sorted: function 32 -/
mutual
def clocheref01_Sorted.l0 : Nat → Int → Int → Int → Int → Int → Option (Int × Int × Int × Int)
 | 0, _, _, _, _, _ => none
 | k + 1, x3, x440000, x440001, x440002, x440003 => if x3 < 4 then (clocheref01_Sorted.l1 k x3 0 x440000 x440001 x440002 x440003) else (some (x440000, x440001, x440002, x440003))
def clocheref01_Sorted.l1 : Nat → Int → Int → Int → Int → Int → Int → Option (Int × Int × Int × Int)
 | 0, _, _, _, _, _, _ => none
 | k + 1, x3, x4, x440000, x440001, x440002, x440003 => if (wrap64 (x4 + 1)) < 4 then (if 0 ≤ x4 then (if x4 < 4 then (if 0 ≤ (wrap64 (x4 + 1)) then (if (at4 x440000 x440001 x440002 x440003 x4) > (at4 x440000 x440001 x440002 x440003 (wrap64 (x4 + 1))) then (clocheref01_Sorted.l1 k x3 (wrap64 (x4 + 1)) (pt4 0 (pt4 0 x440000 x4 (at4 x440000 x440001 x440002 x440003 (wrap64 (x4 + 1)))) (wrap64 (x4 + 1)) (at4 x440000 x440001 x440002 x440003 x4)) (pt4 1 (pt4 1 x440001 x4 (at4 x440000 x440001 x440002 x440003 (wrap64 (x4 + 1)))) (wrap64 (x4 + 1)) (at4 x440000 x440001 x440002 x440003 x4)) (pt4 2 (pt4 2 x440002 x4 (at4 x440000 x440001 x440002 x440003 (wrap64 (x4 + 1)))) (wrap64 (x4 + 1)) (at4 x440000 x440001 x440002 x440003 x4)) (pt4 3 (pt4 3 x440003 x4 (at4 x440000 x440001 x440002 x440003 (wrap64 (x4 + 1)))) (wrap64 (x4 + 1)) (at4 x440000 x440001 x440002 x440003 x4))) else (clocheref01_Sorted.l1 k x3 (wrap64 (x4 + 1)) x440000 x440001 x440002 x440003)) else (none)) else (none)) else (none)) else (clocheref01_Sorted.l0 k (wrap64 (x3 + 1)) x440000 x440001 x440002 x440003)
end
def clocheref01_Sorted.f (k : Nat) (a0_0 : Int) (a0_1 : Int) (a0_2 : Int) (a0_3 : Int) : Option (Int × Int × Int × Int) := clocheref01_Sorted.l0 k 0 a0_0 a0_1 a0_2 a0_3
theorem clocheref01_Sorted.mono_l : ∀ k, (∀ y0 y1 y2 y3 y4, LeO (clocheref01_Sorted.l0 k y0 y1 y2 y3 y4) (clocheref01_Sorted.l0 (k + 1) y0 y1 y2 y3 y4)) ∧ (∀ y0 y1 y2 y3 y4 y5, LeO (clocheref01_Sorted.l1 k y0 y1 y2 y3 y4 y5) (clocheref01_Sorted.l1 (k + 1) y0 y1 y2 y3 y4 y5))
 | 0 => ⟨fun _ _ _ _ _ r h => by simp [clocheref01_Sorted.l0] at h, fun _ _ _ _ _ _ r h => by simp [clocheref01_Sorted.l1] at h⟩
 | k + 1 => by
  obtain ⟨ih0, ih1⟩ := clocheref01_Sorted.mono_l k
  refine ⟨?_, ?_⟩
  ·intro y0 y1 y2 y3 y4
   unfold clocheref01_Sorted.l0
   repeat' first
   | (with_reducible exact ih0 _ _ _ _ _)
   | (with_reducible exact ih1 _ _ _ _ _ _)
   | (with_reducible exact LeO.refl _)
   | (with_reducible exact LeO.none _)
   | (with_reducible refine LeO.ite ?_ ?_)
   | (with_reducible refine LeO.bind ?_ (fun _ => ?_))
   | exact ih0 _ _ _ _ _
   | exact ih1 _ _ _ _ _ _
   | exact LeO.none _
   | refine LeO.ite ?_ ?_
   | refine LeO.bind ?_ (fun _ => ?_)
  ·intro y0 y1 y2 y3 y4 y5
   unfold clocheref01_Sorted.l1
   repeat' first
   | (with_reducible exact ih0 _ _ _ _ _)
   | (with_reducible exact ih1 _ _ _ _ _ _)
   | (with_reducible exact LeO.refl _)
   | (with_reducible exact LeO.none _)
   | (with_reducible refine LeO.ite ?_ ?_)
   | (with_reducible refine LeO.bind ?_ (fun _ => ?_))
   | exact ih0 _ _ _ _ _
   | exact ih1 _ _ _ _ _ _
   | exact LeO.none _
   | refine LeO.ite ?_ ?_
   | refine LeO.bind ?_ (fun _ => ?_)
theorem clocheref01_Sorted.mono : ∀ a0 a1 a2 a3 k, LeO (clocheref01_Sorted.f k a0 a1 a2 a3) (clocheref01_Sorted.f (k + 1) a0 a1 a2 a3) := by
 intro a0 a1 a2 a3 k
 obtain ⟨ih0, ih1⟩ := clocheref01_Sorted.mono_l k
 unfold clocheref01_Sorted.f
 repeat' first
   | (with_reducible exact ih0 _ _ _ _ _)
   | (with_reducible exact ih1 _ _ _ _ _ _)
   | (with_reducible exact LeO.refl _)
   | (with_reducible exact LeO.none _)
   | (with_reducible refine LeO.ite ?_ ?_)
   | (with_reducible refine LeO.bind ?_ (fun _ => ?_))
   | exact ih0 _ _ _ _ _
   | exact ih1 _ _ _ _ _ _
   | exact LeO.none _
   | refine LeO.ite ?_ ?_
   | refine LeO.bind ?_ (fun _ => ?_)
theorem clocheref01_Sorted.calls (k : Nat) (a0_0 : Int) (a0_1 : Int) (a0_2 : Int) (a0_3 : Int) (r1 : Int) (r2 : Int) (r3 : Int) (r4 : Int) (w : World) (h : clocheref01_Sorted.f k a0_0 a0_1 a0_2 a0_3 = some (r1, r2, r3, r4)) :
  Calls Try.prog 32 #[.agg #[.int .i64 a0_0, .int .i64 a0_1, .int .i64 a0_2, .int .i64 a0_3]] w fun e w' => e = .returned (.agg #[.int .i64 r1, .int .i64 r2, .int .i64 r3, .int .i64 r4]) ∧ Below w.heap.size w w' := by
 have hu23 := Try.underlying23
 have HB := Aside0.mk (Below.refl w.heap.size w)
 have H : (clocheref01_Sorted.l0 k 0 a0_0 a0_1 a0_2 a0_3) = some (r1, r2, r3, r4) := h
 clear h
 have H' := Aside0.mk H
 clear H
 go_enter Try.func32, Try.ntmps32
 go_wp2_with (first | ((with_reducible refine gate_dst (N := 1) rfl ?_); refine box_event ?hg (N := 1) ?hd (cs := #[.int .i64 a0_0, .int .i64 a0_1, .int .i64 a0_2, .int .i64 a0_3]) (t := 23) ?hr ?_; (case hd => rfl); (case hg => rfl); (case hr => exact gs_); intro gb439 hg w2 hbox hb; have n0_ := Aside0.mk (below_step (lw_ HB.out) hb); have n1_ := Aside0.mk (hbox); have n2_ := Aside0.mk ((by rw [hg]; exact (below_size (lw_ HB.out)) : w.heap.size ≤ gb439)); have n3_ := Aside0.mk ((by rw [hg]; exact (below_size (lw_ HB.out)) : w.heap.size ≤ gb439)); clear HB; have HB := n0_; have BK439 := n1_; have GW439 := n2_; have GE439 := n3_; clear n0_ n1_ n2_ n3_; clear hb hbox hg) | ((with_reducible refine gate_dst (N := 2) rfl ?_); refine box_event ?hg (N := 2) ?hd (cs := #[.int .i64 0, .int .i64 0, .int .i64 0, .int .i64 0]) (t := 23) ?hr ?_; (case hd => rfl); (case hg => rfl); (case hr => exact gs_); intro gb440 hg w3 hbox hb; have n0_ := Aside0.mk (blk_below (g := gb439) (o := .cells #[.int .i64 a0_0, .int .i64 a0_1, .int .i64 a0_2, .int .i64 a0_3] 23 (0, 0)) (by refine bs_ ?_; exact BK439.out) hb); have n1_ := Aside0.mk (below_step (by repeat (first | (with_reducible first | exact HB.out | apply below_alloc | apply pw_below_drewN | apply below_drew1 | refine below_set ?_ GE439.out) | exact HB.out)) hb); have n2_ := Aside0.mk (hbox); have n3_ := Aside0.mk ((by rw [hg]; exact (below_size (by repeat (first | (with_reducible first | exact HB.out | apply below_alloc | apply pw_below_drewN | apply below_drew1 | refine below_set ?_ GE439.out) | exact HB.out))) : w.heap.size ≤ gb440)); have n4_ := Aside0.mk ((by rw [hg]; exact (below_size (by repeat (first | (with_reducible first | exact HB.out | apply below_alloc | apply pw_below_drewN | apply below_drew1 | refine below_set ?_ GE439.out) | exact HB.out))) : w.heap.size ≤ gb440)); have n5_ := Aside0.mk ((by rw [hg]; exact Nat.ne_of_lt (blk_lt (g := gb439) (o := .cells #[.int .i64 a0_0, .int .i64 a0_1, .int .i64 a0_2, .int .i64 a0_3] 23 (0, 0)) (by refine bs_ ?_; exact BK439.out)) : gb439 ≠ gb440)); have n6_ := Aside0.mk ((by rw [hg]; exact Nat.ne_of_gt (blk_lt (g := gb439) (o := .cells #[.int .i64 a0_0, .int .i64 a0_1, .int .i64 a0_2, .int .i64 a0_3] 23 (0, 0)) (by refine bs_ ?_; exact BK439.out)) : gb440 ≠ gb439)); clear BK439; clear HB; have BK439 := n0_; have HB := n1_; have BK440 := n2_; have GW440 := n3_; have GE440 := n4_; have NB439_440 := n5_; have NB440_439 := n6_; clear n0_ n1_ n2_ n3_ n4_ n5_ n6_; clear hb hbox hg))
 repeat (go_quiet (first | ((with_reducible refine gate_dst (N := 1) rfl ?_); refine box_event ?hg (N := 1) ?hd (cs := #[.int .i64 a0_0, .int .i64 a0_1, .int .i64 a0_2, .int .i64 a0_3]) (t := 23) ?hr ?_; (case hd => rfl); (case hg => rfl); (case hr => exact gs_); intro gb439 hg w2 hbox hb; have n0_ := Aside0.mk (below_step (lw_ HB.out) hb); have n1_ := Aside0.mk (hbox); have n2_ := Aside0.mk ((by rw [hg]; exact (below_size (lw_ HB.out)) : w.heap.size ≤ gb439)); have n3_ := Aside0.mk ((by rw [hg]; exact (below_size (lw_ HB.out)) : w.heap.size ≤ gb439)); clear HB; have HB := n0_; have BK439 := n1_; have GW439 := n2_; have GE439 := n3_; clear n0_ n1_ n2_ n3_; clear hb hbox hg) | ((with_reducible refine gate_dst (N := 2) rfl ?_); refine box_event ?hg (N := 2) ?hd (cs := #[.int .i64 0, .int .i64 0, .int .i64 0, .int .i64 0]) (t := 23) ?hr ?_; (case hd => rfl); (case hg => rfl); (case hr => exact gs_); intro gb440 hg w3 hbox hb; have n0_ := Aside0.mk (blk_below (g := gb439) (o := .cells #[.int .i64 a0_0, .int .i64 a0_1, .int .i64 a0_2, .int .i64 a0_3] 23 (0, 0)) (by refine bs_ ?_; exact BK439.out) hb); have n1_ := Aside0.mk (below_step (by repeat (first | (with_reducible first | exact HB.out | apply below_alloc | apply pw_below_drewN | apply below_drew1 | refine below_set ?_ GE439.out) | exact HB.out)) hb); have n2_ := Aside0.mk (hbox); have n3_ := Aside0.mk ((by rw [hg]; exact (below_size (by repeat (first | (with_reducible first | exact HB.out | apply below_alloc | apply pw_below_drewN | apply below_drew1 | refine below_set ?_ GE439.out) | exact HB.out))) : w.heap.size ≤ gb440)); have n4_ := Aside0.mk ((by rw [hg]; exact (below_size (by repeat (first | (with_reducible first | exact HB.out | apply below_alloc | apply pw_below_drewN | apply below_drew1 | refine below_set ?_ GE439.out) | exact HB.out))) : w.heap.size ≤ gb440)); have n5_ := Aside0.mk ((by rw [hg]; exact Nat.ne_of_lt (blk_lt (g := gb439) (o := .cells #[.int .i64 a0_0, .int .i64 a0_1, .int .i64 a0_2, .int .i64 a0_3] 23 (0, 0)) (by refine bs_ ?_; exact BK439.out)) : gb439 ≠ gb440)); have n6_ := Aside0.mk ((by rw [hg]; exact Nat.ne_of_gt (blk_lt (g := gb439) (o := .cells #[.int .i64 a0_0, .int .i64 a0_1, .int .i64 a0_2, .int .i64 a0_3] 23 (0, 0)) (by refine bs_ ?_; exact BK439.out)) : gb440 ≠ gb439)); clear BK439; clear HB; have BK439 := n0_; have HB := n1_; have BK440 := n2_; have GW440 := n3_; have GE440 := n4_; have NB439_440 := n5_; have NB440_439 := n6_; clear n0_ n1_ n2_ n3_ n4_ n5_ n6_; clear hb hbox hg)); try go_wp2_with (first | ((with_reducible refine gate_dst (N := 1) rfl ?_); refine box_event ?hg (N := 1) ?hd (cs := #[.int .i64 a0_0, .int .i64 a0_1, .int .i64 a0_2, .int .i64 a0_3]) (t := 23) ?hr ?_; (case hd => rfl); (case hg => rfl); (case hr => exact gs_); intro gb439 hg w2 hbox hb; have n0_ := Aside0.mk (below_step (lw_ HB.out) hb); have n1_ := Aside0.mk (hbox); have n2_ := Aside0.mk ((by rw [hg]; exact (below_size (lw_ HB.out)) : w.heap.size ≤ gb439)); have n3_ := Aside0.mk ((by rw [hg]; exact (below_size (lw_ HB.out)) : w.heap.size ≤ gb439)); clear HB; have HB := n0_; have BK439 := n1_; have GW439 := n2_; have GE439 := n3_; clear n0_ n1_ n2_ n3_; clear hb hbox hg) | ((with_reducible refine gate_dst (N := 2) rfl ?_); refine box_event ?hg (N := 2) ?hd (cs := #[.int .i64 0, .int .i64 0, .int .i64 0, .int .i64 0]) (t := 23) ?hr ?_; (case hd => rfl); (case hg => rfl); (case hr => exact gs_); intro gb440 hg w3 hbox hb; have n0_ := Aside0.mk (blk_below (g := gb439) (o := .cells #[.int .i64 a0_0, .int .i64 a0_1, .int .i64 a0_2, .int .i64 a0_3] 23 (0, 0)) (by refine bs_ ?_; exact BK439.out) hb); have n1_ := Aside0.mk (below_step (by repeat (first | (with_reducible first | exact HB.out | apply below_alloc | apply pw_below_drewN | apply below_drew1 | refine below_set ?_ GE439.out) | exact HB.out)) hb); have n2_ := Aside0.mk (hbox); have n3_ := Aside0.mk ((by rw [hg]; exact (below_size (by repeat (first | (with_reducible first | exact HB.out | apply below_alloc | apply pw_below_drewN | apply below_drew1 | refine below_set ?_ GE439.out) | exact HB.out))) : w.heap.size ≤ gb440)); have n4_ := Aside0.mk ((by rw [hg]; exact (below_size (by repeat (first | (with_reducible first | exact HB.out | apply below_alloc | apply pw_below_drewN | apply below_drew1 | refine below_set ?_ GE439.out) | exact HB.out))) : w.heap.size ≤ gb440)); have n5_ := Aside0.mk ((by rw [hg]; exact Nat.ne_of_lt (blk_lt (g := gb439) (o := .cells #[.int .i64 a0_0, .int .i64 a0_1, .int .i64 a0_2, .int .i64 a0_3] 23 (0, 0)) (by refine bs_ ?_; exact BK439.out)) : gb439 ≠ gb440)); have n6_ := Aside0.mk ((by rw [hg]; exact Nat.ne_of_gt (blk_lt (g := gb439) (o := .cells #[.int .i64 a0_0, .int .i64 a0_1, .int .i64 a0_2, .int .i64 a0_3] 23 (0, 0)) (by refine bs_ ?_; exact BK439.out)) : gb440 ≠ gb439)); clear BK439; clear HB; have BK439 := n0_; have HB := n1_; have BK440 := n2_; have GW440 := n3_; have GE440 := n4_; have NB439_440 := n5_; have NB440_439 := n6_; clear n0_ n1_ n2_ n3_ n4_ n5_ n6_; clear hb hbox hg)))
 go_loopg [3] k (fun kq v3 w' => ∃ (x3_1 : Int) (x440000_1 : Int) (x440001_1 : Int) (x440002_1 : Int) (x440003_1 : Int), v3 = .int .i64 x3_1 ∧ Aside0 (clocheref01_Sorted.l0 kq x3_1 x440000_1 x440001_1 x440002_1 x440003_1 = some (r1, r2, r3, r4)) ∧ Aside0 (kq ≤ k) ∧ Aside0 (w'.heap[gb439]? = some (.cells #[.int .i64 x440000_1, .int .i64 x440001_1, .int .i64 x440002_1, .int .i64 x440003_1] 23 (0, 0))) ∧ Aside0 (w'.heap[gb440]? = some (.cells #[.int .i64 0, .int .i64 0, .int .i64 0, .int .i64 0] 23 (0, 0))) ∧ Aside0 (Below w.heap.size w w'))
 case atStart => exact ⟨(0), (a0_0), (a0_1), (a0_2), (a0_3), eq_, H', ⟨Nat.le_refl _⟩, ⟨by refine bs_ ?_; exact BK439.out⟩, ⟨by refine bs_ ?_; exact BK440.out⟩, ⟨by repeat (first | (with_reducible first | exact HB.out | apply below_alloc | apply pw_below_drewN | apply below_drew1 | refine below_set ?_ GE439.out | refine below_set ?_ GE440.out) | exact HB.out)⟩⟩
 case round =>
  clear H'
  try clear p2
  try clear c3
  obtain ⟨x3_1, x440000_1, x440001_1, x440002_1, x440003_1, rfl, HA, HK1, BK439, BK440, HB⟩ := hrel
  cases gk with
  | zero => exact absurd HA.out (by simp [clocheref01_Sorted.l0])
  | succ k1 =>
   have H := HA.out
   clear HA
   simp only [clocheref01_Sorted.l0] at H
   by_cases c4 : x3_1 < 4
   ·rw [if_pos c4] at H
    have c4b0 : decide (x3_1 < 4) = true := decide_eq_true c4
    clear c4
    have H' := Aside0.mk H
    clear H
    go_wp2
    repeat (go_quiet (fail); try go_wp2)
    go_loopg [4] k1 (fun kq v4 w' => ∃ (x4_2 : Int) (x440000_2 : Int) (x440001_2 : Int) (x440002_2 : Int) (x440003_2 : Int), v4 = .int .i64 x4_2 ∧ Aside0 (clocheref01_Sorted.l1 kq x3_1 x4_2 x440000_2 x440001_2 x440002_2 x440003_2 = some (r1, r2, r3, r4)) ∧ Aside0 (kq ≤ k1) ∧ Aside0 (w'.heap[gb439]? = some (.cells #[.int .i64 x440000_2, .int .i64 x440001_2, .int .i64 x440002_2, .int .i64 x440003_2] 23 (0, 0))) ∧ Aside0 (w'.heap[gb440]? = some (.cells #[.int .i64 0, .int .i64 0, .int .i64 0, .int .i64 0] 23 (0, 0))) ∧ Aside0 (Below w.heap.size w w'))
    case atStart => exact ⟨(0), (x440000_1), (x440001_1), (x440002_1), (x440003_1), eq_, H', ⟨Nat.le_refl _⟩, ⟨by refine bs_ ?_; exact BK439.out⟩, ⟨by refine bs_ ?_; exact BK440.out⟩, ⟨by repeat (first | (with_reducible first | exact HB.out | apply below_alloc | apply pw_below_drewN | apply below_drew1 | refine below_set ?_ GE439.out | refine below_set ?_ GE440.out) | exact HB.out)⟩⟩
    case round =>
     clear H'
     try clear p2
     try clear c3
     try clear c4
     try clear c4b0
     try clear p2
     obtain ⟨x4_2, x440000_2, x440001_2, x440002_2, x440003_2, rfl, HA, HK2, BK439, BK440, HB⟩ := hrel
     cases gk with
     | zero => exact absurd HA.out (by simp [clocheref01_Sorted.l1])
     | succ k2 =>
      have H := HA.out
      clear HA
      simp only [clocheref01_Sorted.l1] at H
      by_cases c5 : (wrap64 (x4_2 + 1)) < 4
      ·rw [if_pos c5] at H
       have c5b0 : decide ((wrap64 (x4_2 + 1)) < 4) = true := decide_eq_true c5
       clear c5
       by_cases c6 : 0 ≤ x4_2
       ·rw [if_pos c6] at H
        have c6b0 : decide (0 ≤ x4_2) = true := decide_eq_true c6
        clear c6
        by_cases c7 : x4_2 < 4
        ·rw [if_pos c7] at H
         have c7b0 : decide (x4_2 < 4) = true := decide_eq_true c7
         clear c7
         obtain ⟨ji8, hji8⟩ : ∃ j_ : Int, (wrap64 (x4_2 + 1)) = j_ := ⟨_, rfl⟩
         replace H : (if 0 ≤ (ji8) then (if (at4 x440000_2 x440001_2 x440002_2 x440003_2 x4_2) > (at4 x440000_2 x440001_2 x440002_2 x440003_2 (ji8)) then (clocheref01_Sorted.l1 k2 x3_1 ji8 (pt4 0 (pt4 0 x440000_2 x4_2 (at4 x440000_2 x440001_2 x440002_2 x440003_2 (ji8))) (ji8) (at4 x440000_2 x440001_2 x440002_2 x440003_2 x4_2)) (pt4 1 (pt4 1 x440001_2 x4_2 (at4 x440000_2 x440001_2 x440002_2 x440003_2 (ji8))) (ji8) (at4 x440000_2 x440001_2 x440002_2 x440003_2 x4_2)) (pt4 2 (pt4 2 x440002_2 x4_2 (at4 x440000_2 x440001_2 x440002_2 x440003_2 (ji8))) (ji8) (at4 x440000_2 x440001_2 x440002_2 x440003_2 x4_2)) (pt4 3 (pt4 3 x440003_2 x4_2 (at4 x440000_2 x440001_2 x440002_2 x440003_2 (ji8))) (ji8) (at4 x440000_2 x440001_2 x440002_2 x440003_2 x4_2))) else (clocheref01_Sorted.l1 k2 x3_1 ji8 x440000_2 x440001_2 x440002_2 x440003_2)) else (none)) = some (r1, r2, r3, r4) := by first | (rw [hji8] at H; exact H) | (simp only [hji8] at H ⊢; exact H)
         (try rw [hji8] at c5b0)
         have hji8w : (IntKind.i64.wrap (x4_2 + 1)) = ji8 := (i64_w _).trans hji8
         by_cases c9 : 0 ≤ (ji8)
         ·rw [if_pos c9] at H
          have c9b0 : decide (0 ≤ (ji8)) = true := decide_eq_true c9
          clear c9
          by_cases c10 : (at4 x440000_2 x440001_2 x440002_2 x440003_2 x4_2) > (at4 x440000_2 x440001_2 x440002_2 x440003_2 (ji8))
          ·rw [if_pos c10] at H
           have c10b0 : decide ((at4 x440000_2 x440001_2 x440002_2 x440003_2 (ji8)) < (at4 x440000_2 x440001_2 x440002_2 x440003_2 x4_2)) = true := decide_eq_true c10
           clear c10
           have H' := Aside0.mk H
           clear H
           have hnb12 := NB439_440.out
           have hnc12 := NB440_439.out
           have hcz13_0 : wr.cell? ⟨gb439, 0, none⟩ = some (.int .i64 x440000_2) := (blk_cell BK439.out 0).trans rfl
           have hcz13_1 : wr.cell? ⟨gb439, 1, none⟩ = some (.int .i64 x440001_2) := (blk_cell BK439.out 1).trans rfl
           have hcz13_2 : wr.cell? ⟨gb439, 2, none⟩ = some (.int .i64 x440002_2) := (blk_cell BK439.out 2).trans rfl
           have hcz13_3 : wr.cell? ⟨gb439, 3, none⟩ = some (.int .i64 x440003_2) := (blk_cell BK439.out 3).trans rfl
           have hfz13_0 := blk_frozen BK439.out 0
           have hfz13_1 := blk_frozen BK439.out 1
           have hfz13_2 := blk_frozen BK439.out 2
           have hfz13_3 := blk_frozen BK439.out 3
           have pdy11 : 0 ≤ (x4_2 : Int) := of_decide_eq_true as_
           have qdy11 : (x4_2 : Int) < 4 := of_decide_eq_true as_
           replace pdy11 := eq_true pdy11
           replace qdy11 := eq_true qdy11
           have hxdy11 : wr.cell? ⟨gb439, (x4_2 : Int).toNat, none⟩ = some (.int .i64 (at4 x440000_2 x440001_2 x440002_2 x440003_2 x4_2)) := blk_at4 BK439.out (of_eq_true pdy11) (of_eq_true qdy11)
           have hfdy11 := blk_frozen BK439.out (x4_2 : Int).toNat
           have pdy14 : 0 ≤ ((ji8) : Int) := of_decide_eq_true as_
           have qdy14 : ((ji8) : Int) < 4 := of_decide_eq_true as_
           replace pdy14 := eq_true pdy14
           replace qdy14 := eq_true qdy14
           have hxdy14 : wr.cell? ⟨gb439, ((ji8) : Int).toNat, none⟩ = some (.int .i64 (at4 x440000_2 x440001_2 x440002_2 x440003_2 (ji8))) := blk_at4 BK439.out (of_eq_true pdy14) (of_eq_true qdy14)
           have hfdy14 := blk_frozen BK439.out ((ji8) : Int).toNat
           have pdy15 : 0 ≤ (x4_2 : Int) := of_decide_eq_true as_
           have qdy15 : (x4_2 : Int) < 4 := of_decide_eq_true as_
           replace pdy15 := eq_true pdy15
           replace qdy15 := eq_true qdy15
           have hxdy15 : wr.cell? ⟨gb439, (x4_2 : Int).toNat, none⟩ = some (.int .i64 (at4 x440000_2 x440001_2 x440002_2 x440003_2 x4_2)) := blk_at4 BK439.out (of_eq_true pdy15) (of_eq_true qdy15)
           have hfdy15 := blk_frozen BK439.out (x4_2 : Int).toNat
           have pdy16 : 0 ≤ ((ji8) : Int) := of_decide_eq_true as_
           have qdy16 : ((ji8) : Int) < 4 := of_decide_eq_true as_
           replace pdy16 := eq_true pdy16
           replace qdy16 := eq_true qdy16
           have hxdy16 : wr.cell? ⟨gb439, ((ji8) : Int).toNat, none⟩ = some (.int .i64 (at4 x440000_2 x440001_2 x440002_2 x440003_2 (ji8))) := blk_at4 BK439.out (of_eq_true pdy16) (of_eq_true qdy16)
           have hfdy16 := blk_frozen BK439.out ((ji8) : Int).toNat
           have pdy17 : 0 ≤ (x4_2 : Int) := of_decide_eq_true as_
           have qdy17 : (x4_2 : Int) < 4 := of_decide_eq_true as_
           replace pdy17 := eq_true pdy17
           replace qdy17 := eq_true qdy17
           have hxdy17 : wr.cell? ⟨gb439, (x4_2 : Int).toNat, none⟩ = some (.int .i64 (at4 x440000_2 x440001_2 x440002_2 x440003_2 x4_2)) := blk_at4 BK439.out (of_eq_true pdy17) (of_eq_true qdy17)
           have hfdy17 := blk_frozen BK439.out (x4_2 : Int).toNat
           go_wp2_with (first | ((with_reducible refine gate_store (t := 3) (p := 31) rfl ?_); (try (rw [drewN_self wr]; generalize hq_ : World.drewN wr _ = wr; have n0_ := Aside0.mk (blk_at hq_ BK439.out); have n1_ := Aside0.mk (blk_at hq_ BK440.out); have n2_ := Aside0.mk (below_at hq_ HB.out); clear hq_ BK439 BK440 HB; have BK439 := n0_; have BK440 := n1_; have HB := n2_; clear n0_ n1_ n2_)); have hxdy17 : wr.cell? ⟨gb439, (x4_2 : Int).toNat, none⟩ = some (.int .i64 (at4 x440000_2 x440001_2 x440002_2 x440003_2 x4_2)) := blk_at4 BK439.out (of_eq_true pdy17) (of_eq_true qdy17); have hfdy17 := blk_frozen BK439.out (x4_2 : Int).toNat; refine store_event (t := 3) (p := 31) (v := ?vo_w18) (w1 := (wr.setCell ⟨gb439, (x4_2 : Int).toNat, none⟩ (.int .i64 (at4 x440000_2 x440001_2 x440002_2 x440003_2 (ji8))))) ?hg ?ho ?hn ?hr ?_; (case ho => rfl); (case hg => rfl); (case hn => rfl); (case hr => exact gs_); intro w18 hw; have n0_ : Aside0 (w18.heap[gb439]? = some (.cells #[.int .i64 (pt4 0 x440000_2 x4_2 (at4 x440000_2 x440001_2 x440002_2 x440003_2 (ji8))), .int .i64 (pt4 1 x440001_2 x4_2 (at4 x440000_2 x440001_2 x440002_2 x440003_2 (ji8))), .int .i64 (pt4 2 x440002_2 x4_2 (at4 x440000_2 x440001_2 x440002_2 x440003_2 (ji8))), .int .i64 (pt4 3 x440003_2 x4_2 (at4 x440000_2 x440001_2 x440002_2 x440003_2 (ji8)))] 23 (0, 0))) := ⟨(by rw [hw]; exact (by refine bs_ ?_; refine blk_put (cs := #[.int .i64 x440000_2, .int .i64 x440001_2, .int .i64 x440002_2, .int .i64 x440003_2]) ?_ (x4_2 : Int).toNat _ (set4i _ _ _ _ _ _ (of_eq_true pdy17) (of_eq_true qdy17)); refine bs_ ?_; exact BK439.out))⟩; have n1_ : Aside0 (w18.heap[gb440]? = some (.cells #[.int .i64 0, .int .i64 0, .int .i64 0, .int .i64 0] 23 (0, 0))) := ⟨(by rw [hw]; exact (by refine bs_ ?_; refine blk_far ?_ NB440_439.out _; refine bs_ ?_; exact BK440.out))⟩; have n2_ : Aside0 (Below w.heap.size w w18) := ⟨(by rw [hw]; exact (by repeat (first | (with_reducible first | exact HB.out | apply below_alloc | apply pw_below_drewN | apply below_drew1 | refine below_set ?_ GE439.out | refine below_set ?_ GE440.out) | exact HB.out)))⟩; clear hw; clear BK439; clear BK440; clear HB; have BK439 := n0_; have BK440 := n1_; have HB := n2_; clear n0_ n1_ n2_; have hcz20_0 : w18.cell? ⟨gb439, 0, none⟩ = some (.int .i64 (pt4 0 x440000_2 x4_2 (at4 x440000_2 x440001_2 x440002_2 x440003_2 (ji8)))) := (blk_cell BK439.out 0).trans rfl; have hcz20_1 : w18.cell? ⟨gb439, 1, none⟩ = some (.int .i64 (pt4 1 x440001_2 x4_2 (at4 x440000_2 x440001_2 x440002_2 x440003_2 (ji8)))) := (blk_cell BK439.out 1).trans rfl; have hcz20_2 : w18.cell? ⟨gb439, 2, none⟩ = some (.int .i64 (pt4 2 x440002_2 x4_2 (at4 x440000_2 x440001_2 x440002_2 x440003_2 (ji8)))) := (blk_cell BK439.out 2).trans rfl; have hcz20_3 : w18.cell? ⟨gb439, 3, none⟩ = some (.int .i64 (pt4 3 x440003_2 x4_2 (at4 x440000_2 x440001_2 x440002_2 x440003_2 (ji8)))) := (blk_cell BK439.out 3).trans rfl; have hfz20_0 := blk_frozen BK439.out 0; have hfz20_1 := blk_frozen BK439.out 1; have hfz20_2 := blk_frozen BK439.out 2; have hfz20_3 := blk_frozen BK439.out 3; have pdy19 : 0 ≤ ((ji8) : Int) := of_decide_eq_true as_; have qdy19 : ((ji8) : Int) < 4 := of_decide_eq_true as_; replace pdy19 := eq_true pdy19; replace qdy19 := eq_true qdy19; have hxdy19 : w18.cell? ⟨gb439, ((ji8) : Int).toNat, none⟩ = some (.int .i64 (at4 (pt4 0 x440000_2 x4_2 (at4 x440000_2 x440001_2 x440002_2 x440003_2 (ji8))) (pt4 1 x440001_2 x4_2 (at4 x440000_2 x440001_2 x440002_2 x440003_2 (ji8))) (pt4 2 x440002_2 x4_2 (at4 x440000_2 x440001_2 x440002_2 x440003_2 (ji8))) (pt4 3 x440003_2 x4_2 (at4 x440000_2 x440001_2 x440002_2 x440003_2 (ji8))) (ji8))) := blk_at4 BK439.out (of_eq_true pdy19) (of_eq_true qdy19); have hfdy19 := blk_frozen BK439.out ((ji8) : Int).toNat) | ((with_reducible refine gate_store (t := 3) (p := 35) rfl ?_); (try (rw [drewN_self w18]; generalize hq_ : World.drewN w18 _ = w18; have n0_ := Aside0.mk (blk_at hq_ BK439.out); have n1_ := Aside0.mk (blk_at hq_ BK440.out); have n2_ := Aside0.mk (below_at hq_ HB.out); clear hq_ BK439 BK440 HB; have BK439 := n0_; have BK440 := n1_; have HB := n2_; clear n0_ n1_ n2_)); have hxdy19 : w18.cell? ⟨gb439, ((ji8) : Int).toNat, none⟩ = some (.int .i64 (at4 (pt4 0 x440000_2 x4_2 (at4 x440000_2 x440001_2 x440002_2 x440003_2 (ji8))) (pt4 1 x440001_2 x4_2 (at4 x440000_2 x440001_2 x440002_2 x440003_2 (ji8))) (pt4 2 x440002_2 x4_2 (at4 x440000_2 x440001_2 x440002_2 x440003_2 (ji8))) (pt4 3 x440003_2 x4_2 (at4 x440000_2 x440001_2 x440002_2 x440003_2 (ji8))) (ji8))) := blk_at4 BK439.out (of_eq_true pdy19) (of_eq_true qdy19); have hfdy19 := blk_frozen BK439.out ((ji8) : Int).toNat; refine store_event (t := 3) (p := 35) (v := ?vo_w21) (w1 := (w18.setCell ⟨gb439, ((ji8) : Int).toNat, none⟩ (.int .i64 (at4 x440000_2 x440001_2 x440002_2 x440003_2 x4_2)))) ?hg ?ho ?hn ?hr ?_; (case ho => rfl); (case hg => rfl); (case hn => rfl); (case hr => exact gs_); intro w21 hw; have n0_ : Aside0 (w21.heap[gb439]? = some (.cells #[.int .i64 (pt4 0 (pt4 0 x440000_2 x4_2 (at4 x440000_2 x440001_2 x440002_2 x440003_2 (ji8))) (ji8) (at4 x440000_2 x440001_2 x440002_2 x440003_2 x4_2)), .int .i64 (pt4 1 (pt4 1 x440001_2 x4_2 (at4 x440000_2 x440001_2 x440002_2 x440003_2 (ji8))) (ji8) (at4 x440000_2 x440001_2 x440002_2 x440003_2 x4_2)), .int .i64 (pt4 2 (pt4 2 x440002_2 x4_2 (at4 x440000_2 x440001_2 x440002_2 x440003_2 (ji8))) (ji8) (at4 x440000_2 x440001_2 x440002_2 x440003_2 x4_2)), .int .i64 (pt4 3 (pt4 3 x440003_2 x4_2 (at4 x440000_2 x440001_2 x440002_2 x440003_2 (ji8))) (ji8) (at4 x440000_2 x440001_2 x440002_2 x440003_2 x4_2))] 23 (0, 0))) := ⟨(by rw [hw]; exact (by refine bs_ ?_; refine blk_put (cs := #[.int .i64 (pt4 0 x440000_2 x4_2 (at4 x440000_2 x440001_2 x440002_2 x440003_2 (ji8))), .int .i64 (pt4 1 x440001_2 x4_2 (at4 x440000_2 x440001_2 x440002_2 x440003_2 (ji8))), .int .i64 (pt4 2 x440002_2 x4_2 (at4 x440000_2 x440001_2 x440002_2 x440003_2 (ji8))), .int .i64 (pt4 3 x440003_2 x4_2 (at4 x440000_2 x440001_2 x440002_2 x440003_2 (ji8)))]) ?_ ((ji8) : Int).toNat _ (set4i _ _ _ _ _ _ (of_eq_true pdy19) (of_eq_true qdy19)); refine bs_ ?_; exact BK439.out))⟩; have n1_ : Aside0 (w21.heap[gb440]? = some (.cells #[.int .i64 0, .int .i64 0, .int .i64 0, .int .i64 0] 23 (0, 0))) := ⟨(by rw [hw]; exact (by refine bs_ ?_; refine blk_far ?_ NB440_439.out _; refine bs_ ?_; exact BK440.out))⟩; have n2_ : Aside0 (Below w.heap.size w w21) := ⟨(by rw [hw]; exact (by repeat (first | (with_reducible first | exact HB.out | apply below_alloc | apply pw_below_drewN | apply below_drew1 | refine below_set ?_ GE439.out | refine below_set ?_ GE440.out) | exact HB.out)))⟩; clear hw; clear BK439; clear BK440; clear HB; have BK439 := n0_; have BK440 := n1_; have HB := n2_; clear n0_ n1_ n2_))
           repeat (go_quiet (first | ((with_reducible refine gate_store (t := 3) (p := 31) rfl ?_); (try (rw [drewN_self wr]; generalize hq_ : World.drewN wr _ = wr; have n0_ := Aside0.mk (blk_at hq_ BK439.out); have n1_ := Aside0.mk (blk_at hq_ BK440.out); have n2_ := Aside0.mk (below_at hq_ HB.out); clear hq_ BK439 BK440 HB; have BK439 := n0_; have BK440 := n1_; have HB := n2_; clear n0_ n1_ n2_)); have hxdy17 : wr.cell? ⟨gb439, (x4_2 : Int).toNat, none⟩ = some (.int .i64 (at4 x440000_2 x440001_2 x440002_2 x440003_2 x4_2)) := blk_at4 BK439.out (of_eq_true pdy17) (of_eq_true qdy17); have hfdy17 := blk_frozen BK439.out (x4_2 : Int).toNat; refine store_event (t := 3) (p := 31) (v := ?vo_w18) (w1 := (wr.setCell ⟨gb439, (x4_2 : Int).toNat, none⟩ (.int .i64 (at4 x440000_2 x440001_2 x440002_2 x440003_2 (ji8))))) ?hg ?ho ?hn ?hr ?_; (case ho => rfl); (case hg => rfl); (case hn => rfl); (case hr => exact gs_); intro w18 hw; have n0_ : Aside0 (w18.heap[gb439]? = some (.cells #[.int .i64 (pt4 0 x440000_2 x4_2 (at4 x440000_2 x440001_2 x440002_2 x440003_2 (ji8))), .int .i64 (pt4 1 x440001_2 x4_2 (at4 x440000_2 x440001_2 x440002_2 x440003_2 (ji8))), .int .i64 (pt4 2 x440002_2 x4_2 (at4 x440000_2 x440001_2 x440002_2 x440003_2 (ji8))), .int .i64 (pt4 3 x440003_2 x4_2 (at4 x440000_2 x440001_2 x440002_2 x440003_2 (ji8)))] 23 (0, 0))) := ⟨(by rw [hw]; exact (by refine bs_ ?_; refine blk_put (cs := #[.int .i64 x440000_2, .int .i64 x440001_2, .int .i64 x440002_2, .int .i64 x440003_2]) ?_ (x4_2 : Int).toNat _ (set4i _ _ _ _ _ _ (of_eq_true pdy17) (of_eq_true qdy17)); refine bs_ ?_; exact BK439.out))⟩; have n1_ : Aside0 (w18.heap[gb440]? = some (.cells #[.int .i64 0, .int .i64 0, .int .i64 0, .int .i64 0] 23 (0, 0))) := ⟨(by rw [hw]; exact (by refine bs_ ?_; refine blk_far ?_ NB440_439.out _; refine bs_ ?_; exact BK440.out))⟩; have n2_ : Aside0 (Below w.heap.size w w18) := ⟨(by rw [hw]; exact (by repeat (first | (with_reducible first | exact HB.out | apply below_alloc | apply pw_below_drewN | apply below_drew1 | refine below_set ?_ GE439.out | refine below_set ?_ GE440.out) | exact HB.out)))⟩; clear hw; clear BK439; clear BK440; clear HB; have BK439 := n0_; have BK440 := n1_; have HB := n2_; clear n0_ n1_ n2_; have hcz20_0 : w18.cell? ⟨gb439, 0, none⟩ = some (.int .i64 (pt4 0 x440000_2 x4_2 (at4 x440000_2 x440001_2 x440002_2 x440003_2 (ji8)))) := (blk_cell BK439.out 0).trans rfl; have hcz20_1 : w18.cell? ⟨gb439, 1, none⟩ = some (.int .i64 (pt4 1 x440001_2 x4_2 (at4 x440000_2 x440001_2 x440002_2 x440003_2 (ji8)))) := (blk_cell BK439.out 1).trans rfl; have hcz20_2 : w18.cell? ⟨gb439, 2, none⟩ = some (.int .i64 (pt4 2 x440002_2 x4_2 (at4 x440000_2 x440001_2 x440002_2 x440003_2 (ji8)))) := (blk_cell BK439.out 2).trans rfl; have hcz20_3 : w18.cell? ⟨gb439, 3, none⟩ = some (.int .i64 (pt4 3 x440003_2 x4_2 (at4 x440000_2 x440001_2 x440002_2 x440003_2 (ji8)))) := (blk_cell BK439.out 3).trans rfl; have hfz20_0 := blk_frozen BK439.out 0; have hfz20_1 := blk_frozen BK439.out 1; have hfz20_2 := blk_frozen BK439.out 2; have hfz20_3 := blk_frozen BK439.out 3; have pdy19 : 0 ≤ ((ji8) : Int) := of_decide_eq_true as_; have qdy19 : ((ji8) : Int) < 4 := of_decide_eq_true as_; replace pdy19 := eq_true pdy19; replace qdy19 := eq_true qdy19; have hxdy19 : w18.cell? ⟨gb439, ((ji8) : Int).toNat, none⟩ = some (.int .i64 (at4 (pt4 0 x440000_2 x4_2 (at4 x440000_2 x440001_2 x440002_2 x440003_2 (ji8))) (pt4 1 x440001_2 x4_2 (at4 x440000_2 x440001_2 x440002_2 x440003_2 (ji8))) (pt4 2 x440002_2 x4_2 (at4 x440000_2 x440001_2 x440002_2 x440003_2 (ji8))) (pt4 3 x440003_2 x4_2 (at4 x440000_2 x440001_2 x440002_2 x440003_2 (ji8))) (ji8))) := blk_at4 BK439.out (of_eq_true pdy19) (of_eq_true qdy19); have hfdy19 := blk_frozen BK439.out ((ji8) : Int).toNat) | ((with_reducible refine gate_store (t := 3) (p := 35) rfl ?_); (try (rw [drewN_self w18]; generalize hq_ : World.drewN w18 _ = w18; have n0_ := Aside0.mk (blk_at hq_ BK439.out); have n1_ := Aside0.mk (blk_at hq_ BK440.out); have n2_ := Aside0.mk (below_at hq_ HB.out); clear hq_ BK439 BK440 HB; have BK439 := n0_; have BK440 := n1_; have HB := n2_; clear n0_ n1_ n2_)); have hxdy19 : w18.cell? ⟨gb439, ((ji8) : Int).toNat, none⟩ = some (.int .i64 (at4 (pt4 0 x440000_2 x4_2 (at4 x440000_2 x440001_2 x440002_2 x440003_2 (ji8))) (pt4 1 x440001_2 x4_2 (at4 x440000_2 x440001_2 x440002_2 x440003_2 (ji8))) (pt4 2 x440002_2 x4_2 (at4 x440000_2 x440001_2 x440002_2 x440003_2 (ji8))) (pt4 3 x440003_2 x4_2 (at4 x440000_2 x440001_2 x440002_2 x440003_2 (ji8))) (ji8))) := blk_at4 BK439.out (of_eq_true pdy19) (of_eq_true qdy19); have hfdy19 := blk_frozen BK439.out ((ji8) : Int).toNat; refine store_event (t := 3) (p := 35) (v := ?vo_w21) (w1 := (w18.setCell ⟨gb439, ((ji8) : Int).toNat, none⟩ (.int .i64 (at4 x440000_2 x440001_2 x440002_2 x440003_2 x4_2)))) ?hg ?ho ?hn ?hr ?_; (case ho => rfl); (case hg => rfl); (case hn => rfl); (case hr => exact gs_); intro w21 hw; have n0_ : Aside0 (w21.heap[gb439]? = some (.cells #[.int .i64 (pt4 0 (pt4 0 x440000_2 x4_2 (at4 x440000_2 x440001_2 x440002_2 x440003_2 (ji8))) (ji8) (at4 x440000_2 x440001_2 x440002_2 x440003_2 x4_2)), .int .i64 (pt4 1 (pt4 1 x440001_2 x4_2 (at4 x440000_2 x440001_2 x440002_2 x440003_2 (ji8))) (ji8) (at4 x440000_2 x440001_2 x440002_2 x440003_2 x4_2)), .int .i64 (pt4 2 (pt4 2 x440002_2 x4_2 (at4 x440000_2 x440001_2 x440002_2 x440003_2 (ji8))) (ji8) (at4 x440000_2 x440001_2 x440002_2 x440003_2 x4_2)), .int .i64 (pt4 3 (pt4 3 x440003_2 x4_2 (at4 x440000_2 x440001_2 x440002_2 x440003_2 (ji8))) (ji8) (at4 x440000_2 x440001_2 x440002_2 x440003_2 x4_2))] 23 (0, 0))) := ⟨(by rw [hw]; exact (by refine bs_ ?_; refine blk_put (cs := #[.int .i64 (pt4 0 x440000_2 x4_2 (at4 x440000_2 x440001_2 x440002_2 x440003_2 (ji8))), .int .i64 (pt4 1 x440001_2 x4_2 (at4 x440000_2 x440001_2 x440002_2 x440003_2 (ji8))), .int .i64 (pt4 2 x440002_2 x4_2 (at4 x440000_2 x440001_2 x440002_2 x440003_2 (ji8))), .int .i64 (pt4 3 x440003_2 x4_2 (at4 x440000_2 x440001_2 x440002_2 x440003_2 (ji8)))]) ?_ ((ji8) : Int).toNat _ (set4i _ _ _ _ _ _ (of_eq_true pdy19) (of_eq_true qdy19)); refine bs_ ?_; exact BK439.out))⟩; have n1_ : Aside0 (w21.heap[gb440]? = some (.cells #[.int .i64 0, .int .i64 0, .int .i64 0, .int .i64 0] 23 (0, 0))) := ⟨(by rw [hw]; exact (by refine bs_ ?_; refine blk_far ?_ NB440_439.out _; refine bs_ ?_; exact BK440.out))⟩; have n2_ : Aside0 (Below w.heap.size w w21) := ⟨(by rw [hw]; exact (by repeat (first | (with_reducible first | exact HB.out | apply below_alloc | apply pw_below_drewN | apply below_drew1 | refine below_set ?_ GE439.out | refine below_set ?_ GE440.out) | exact HB.out)))⟩; clear hw; clear BK439; clear BK440; clear HB; have BK439 := n0_; have BK440 := n1_; have HB := n2_; clear n0_ n1_ n2_)); try go_wp2_with (first | ((with_reducible refine gate_store (t := 3) (p := 31) rfl ?_); (try (rw [drewN_self wr]; generalize hq_ : World.drewN wr _ = wr; have n0_ := Aside0.mk (blk_at hq_ BK439.out); have n1_ := Aside0.mk (blk_at hq_ BK440.out); have n2_ := Aside0.mk (below_at hq_ HB.out); clear hq_ BK439 BK440 HB; have BK439 := n0_; have BK440 := n1_; have HB := n2_; clear n0_ n1_ n2_)); have hxdy17 : wr.cell? ⟨gb439, (x4_2 : Int).toNat, none⟩ = some (.int .i64 (at4 x440000_2 x440001_2 x440002_2 x440003_2 x4_2)) := blk_at4 BK439.out (of_eq_true pdy17) (of_eq_true qdy17); have hfdy17 := blk_frozen BK439.out (x4_2 : Int).toNat; refine store_event (t := 3) (p := 31) (v := ?vo_w18) (w1 := (wr.setCell ⟨gb439, (x4_2 : Int).toNat, none⟩ (.int .i64 (at4 x440000_2 x440001_2 x440002_2 x440003_2 (ji8))))) ?hg ?ho ?hn ?hr ?_; (case ho => rfl); (case hg => rfl); (case hn => rfl); (case hr => exact gs_); intro w18 hw; have n0_ : Aside0 (w18.heap[gb439]? = some (.cells #[.int .i64 (pt4 0 x440000_2 x4_2 (at4 x440000_2 x440001_2 x440002_2 x440003_2 (ji8))), .int .i64 (pt4 1 x440001_2 x4_2 (at4 x440000_2 x440001_2 x440002_2 x440003_2 (ji8))), .int .i64 (pt4 2 x440002_2 x4_2 (at4 x440000_2 x440001_2 x440002_2 x440003_2 (ji8))), .int .i64 (pt4 3 x440003_2 x4_2 (at4 x440000_2 x440001_2 x440002_2 x440003_2 (ji8)))] 23 (0, 0))) := ⟨(by rw [hw]; exact (by refine bs_ ?_; refine blk_put (cs := #[.int .i64 x440000_2, .int .i64 x440001_2, .int .i64 x440002_2, .int .i64 x440003_2]) ?_ (x4_2 : Int).toNat _ (set4i _ _ _ _ _ _ (of_eq_true pdy17) (of_eq_true qdy17)); refine bs_ ?_; exact BK439.out))⟩; have n1_ : Aside0 (w18.heap[gb440]? = some (.cells #[.int .i64 0, .int .i64 0, .int .i64 0, .int .i64 0] 23 (0, 0))) := ⟨(by rw [hw]; exact (by refine bs_ ?_; refine blk_far ?_ NB440_439.out _; refine bs_ ?_; exact BK440.out))⟩; have n2_ : Aside0 (Below w.heap.size w w18) := ⟨(by rw [hw]; exact (by repeat (first | (with_reducible first | exact HB.out | apply below_alloc | apply pw_below_drewN | apply below_drew1 | refine below_set ?_ GE439.out | refine below_set ?_ GE440.out) | exact HB.out)))⟩; clear hw; clear BK439; clear BK440; clear HB; have BK439 := n0_; have BK440 := n1_; have HB := n2_; clear n0_ n1_ n2_; have hcz20_0 : w18.cell? ⟨gb439, 0, none⟩ = some (.int .i64 (pt4 0 x440000_2 x4_2 (at4 x440000_2 x440001_2 x440002_2 x440003_2 (ji8)))) := (blk_cell BK439.out 0).trans rfl; have hcz20_1 : w18.cell? ⟨gb439, 1, none⟩ = some (.int .i64 (pt4 1 x440001_2 x4_2 (at4 x440000_2 x440001_2 x440002_2 x440003_2 (ji8)))) := (blk_cell BK439.out 1).trans rfl; have hcz20_2 : w18.cell? ⟨gb439, 2, none⟩ = some (.int .i64 (pt4 2 x440002_2 x4_2 (at4 x440000_2 x440001_2 x440002_2 x440003_2 (ji8)))) := (blk_cell BK439.out 2).trans rfl; have hcz20_3 : w18.cell? ⟨gb439, 3, none⟩ = some (.int .i64 (pt4 3 x440003_2 x4_2 (at4 x440000_2 x440001_2 x440002_2 x440003_2 (ji8)))) := (blk_cell BK439.out 3).trans rfl; have hfz20_0 := blk_frozen BK439.out 0; have hfz20_1 := blk_frozen BK439.out 1; have hfz20_2 := blk_frozen BK439.out 2; have hfz20_3 := blk_frozen BK439.out 3; have pdy19 : 0 ≤ ((ji8) : Int) := of_decide_eq_true as_; have qdy19 : ((ji8) : Int) < 4 := of_decide_eq_true as_; replace pdy19 := eq_true pdy19; replace qdy19 := eq_true qdy19; have hxdy19 : w18.cell? ⟨gb439, ((ji8) : Int).toNat, none⟩ = some (.int .i64 (at4 (pt4 0 x440000_2 x4_2 (at4 x440000_2 x440001_2 x440002_2 x440003_2 (ji8))) (pt4 1 x440001_2 x4_2 (at4 x440000_2 x440001_2 x440002_2 x440003_2 (ji8))) (pt4 2 x440002_2 x4_2 (at4 x440000_2 x440001_2 x440002_2 x440003_2 (ji8))) (pt4 3 x440003_2 x4_2 (at4 x440000_2 x440001_2 x440002_2 x440003_2 (ji8))) (ji8))) := blk_at4 BK439.out (of_eq_true pdy19) (of_eq_true qdy19); have hfdy19 := blk_frozen BK439.out ((ji8) : Int).toNat) | ((with_reducible refine gate_store (t := 3) (p := 35) rfl ?_); (try (rw [drewN_self w18]; generalize hq_ : World.drewN w18 _ = w18; have n0_ := Aside0.mk (blk_at hq_ BK439.out); have n1_ := Aside0.mk (blk_at hq_ BK440.out); have n2_ := Aside0.mk (below_at hq_ HB.out); clear hq_ BK439 BK440 HB; have BK439 := n0_; have BK440 := n1_; have HB := n2_; clear n0_ n1_ n2_)); have hxdy19 : w18.cell? ⟨gb439, ((ji8) : Int).toNat, none⟩ = some (.int .i64 (at4 (pt4 0 x440000_2 x4_2 (at4 x440000_2 x440001_2 x440002_2 x440003_2 (ji8))) (pt4 1 x440001_2 x4_2 (at4 x440000_2 x440001_2 x440002_2 x440003_2 (ji8))) (pt4 2 x440002_2 x4_2 (at4 x440000_2 x440001_2 x440002_2 x440003_2 (ji8))) (pt4 3 x440003_2 x4_2 (at4 x440000_2 x440001_2 x440002_2 x440003_2 (ji8))) (ji8))) := blk_at4 BK439.out (of_eq_true pdy19) (of_eq_true qdy19); have hfdy19 := blk_frozen BK439.out ((ji8) : Int).toNat; refine store_event (t := 3) (p := 35) (v := ?vo_w21) (w1 := (w18.setCell ⟨gb439, ((ji8) : Int).toNat, none⟩ (.int .i64 (at4 x440000_2 x440001_2 x440002_2 x440003_2 x4_2)))) ?hg ?ho ?hn ?hr ?_; (case ho => rfl); (case hg => rfl); (case hn => rfl); (case hr => exact gs_); intro w21 hw; have n0_ : Aside0 (w21.heap[gb439]? = some (.cells #[.int .i64 (pt4 0 (pt4 0 x440000_2 x4_2 (at4 x440000_2 x440001_2 x440002_2 x440003_2 (ji8))) (ji8) (at4 x440000_2 x440001_2 x440002_2 x440003_2 x4_2)), .int .i64 (pt4 1 (pt4 1 x440001_2 x4_2 (at4 x440000_2 x440001_2 x440002_2 x440003_2 (ji8))) (ji8) (at4 x440000_2 x440001_2 x440002_2 x440003_2 x4_2)), .int .i64 (pt4 2 (pt4 2 x440002_2 x4_2 (at4 x440000_2 x440001_2 x440002_2 x440003_2 (ji8))) (ji8) (at4 x440000_2 x440001_2 x440002_2 x440003_2 x4_2)), .int .i64 (pt4 3 (pt4 3 x440003_2 x4_2 (at4 x440000_2 x440001_2 x440002_2 x440003_2 (ji8))) (ji8) (at4 x440000_2 x440001_2 x440002_2 x440003_2 x4_2))] 23 (0, 0))) := ⟨(by rw [hw]; exact (by refine bs_ ?_; refine blk_put (cs := #[.int .i64 (pt4 0 x440000_2 x4_2 (at4 x440000_2 x440001_2 x440002_2 x440003_2 (ji8))), .int .i64 (pt4 1 x440001_2 x4_2 (at4 x440000_2 x440001_2 x440002_2 x440003_2 (ji8))), .int .i64 (pt4 2 x440002_2 x4_2 (at4 x440000_2 x440001_2 x440002_2 x440003_2 (ji8))), .int .i64 (pt4 3 x440003_2 x4_2 (at4 x440000_2 x440001_2 x440002_2 x440003_2 (ji8)))]) ?_ ((ji8) : Int).toNat _ (set4i _ _ _ _ _ _ (of_eq_true pdy19) (of_eq_true qdy19)); refine bs_ ?_; exact BK439.out))⟩; have n1_ : Aside0 (w21.heap[gb440]? = some (.cells #[.int .i64 0, .int .i64 0, .int .i64 0, .int .i64 0] 23 (0, 0))) := ⟨(by rw [hw]; exact (by refine bs_ ?_; refine blk_far ?_ NB440_439.out _; refine bs_ ?_; exact BK440.out))⟩; have n2_ : Aside0 (Below w.heap.size w w21) := ⟨(by rw [hw]; exact (by repeat (first | (with_reducible first | exact HB.out | apply below_alloc | apply pw_below_drewN | apply below_drew1 | refine below_set ?_ GE439.out | refine below_set ?_ GE440.out) | exact HB.out)))⟩; clear hw; clear BK439; clear BK440; clear HB; have BK439 := n0_; have BK440 := n1_; have HB := n2_; clear n0_ n1_ n2_)))
           go_roundg k2
           case measure => have := HK1.out; have := HK2.out; omega
           case rel => exact ⟨(ji8), (pt4 0 (pt4 0 x440000_2 x4_2 (at4 x440000_2 x440001_2 x440002_2 x440003_2 (ji8))) (ji8) (at4 x440000_2 x440001_2 x440002_2 x440003_2 x4_2)), (pt4 1 (pt4 1 x440001_2 x4_2 (at4 x440000_2 x440001_2 x440002_2 x440003_2 (ji8))) (ji8) (at4 x440000_2 x440001_2 x440002_2 x440003_2 x4_2)), (pt4 2 (pt4 2 x440002_2 x4_2 (at4 x440000_2 x440001_2 x440002_2 x440003_2 (ji8))) (ji8) (at4 x440000_2 x440001_2 x440002_2 x440003_2 x4_2)), (pt4 3 (pt4 3 x440003_2 x4_2 (at4 x440000_2 x440001_2 x440002_2 x440003_2 (ji8))) (ji8) (at4 x440000_2 x440001_2 x440002_2 x440003_2 x4_2)), (by first | rfl | (simp; done) | (simp only [← hji8] <;> (first | rfl | simp)) | (simp [*]; done)), H', ⟨by have := HK1.out; have := HK2.out; omega⟩, ⟨by refine bs_ ?_; exact BK439.out⟩, ⟨by refine bs_ ?_; exact BK440.out⟩, ⟨by repeat (first | (with_reducible first | exact HB.out | apply below_alloc | apply pw_below_drewN | apply below_drew1 | refine below_set ?_ GE439.out | refine below_set ?_ GE440.out) | exact HB.out)⟩⟩
          ·rw [if_neg c10] at H
           have c10b0 : decide ((at4 x440000_2 x440001_2 x440002_2 x440003_2 (ji8)) < (at4 x440000_2 x440001_2 x440002_2 x440003_2 x4_2)) = false := decide_eq_false c10
           clear c10
           have H' := Aside0.mk H
           clear H
           have hnb23 := NB439_440.out
           have hnc23 := NB440_439.out
           have hcz24_0 : wr.cell? ⟨gb439, 0, none⟩ = some (.int .i64 x440000_2) := (blk_cell BK439.out 0).trans rfl
           have hcz24_1 : wr.cell? ⟨gb439, 1, none⟩ = some (.int .i64 x440001_2) := (blk_cell BK439.out 1).trans rfl
           have hcz24_2 : wr.cell? ⟨gb439, 2, none⟩ = some (.int .i64 x440002_2) := (blk_cell BK439.out 2).trans rfl
           have hcz24_3 : wr.cell? ⟨gb439, 3, none⟩ = some (.int .i64 x440003_2) := (blk_cell BK439.out 3).trans rfl
           have hfz24_0 := blk_frozen BK439.out 0
           have hfz24_1 := blk_frozen BK439.out 1
           have hfz24_2 := blk_frozen BK439.out 2
           have hfz24_3 := blk_frozen BK439.out 3
           have pdy22 : 0 ≤ (x4_2 : Int) := of_decide_eq_true as_
           have qdy22 : (x4_2 : Int) < 4 := of_decide_eq_true as_
           replace pdy22 := eq_true pdy22
           replace qdy22 := eq_true qdy22
           have hxdy22 : wr.cell? ⟨gb439, (x4_2 : Int).toNat, none⟩ = some (.int .i64 (at4 x440000_2 x440001_2 x440002_2 x440003_2 x4_2)) := blk_at4 BK439.out (of_eq_true pdy22) (of_eq_true qdy22)
           have hfdy22 := blk_frozen BK439.out (x4_2 : Int).toNat
           have pdy25 : 0 ≤ ((ji8) : Int) := of_decide_eq_true as_
           have qdy25 : ((ji8) : Int) < 4 := of_decide_eq_true as_
           replace pdy25 := eq_true pdy25
           replace qdy25 := eq_true qdy25
           have hxdy25 : wr.cell? ⟨gb439, ((ji8) : Int).toNat, none⟩ = some (.int .i64 (at4 x440000_2 x440001_2 x440002_2 x440003_2 (ji8))) := blk_at4 BK439.out (of_eq_true pdy25) (of_eq_true qdy25)
           have hfdy25 := blk_frozen BK439.out ((ji8) : Int).toNat
           go_wp2
           repeat (go_quiet (fail); try go_wp2)
           go_roundg k2
           case measure => have := HK1.out; have := HK2.out; omega
           case rel => exact ⟨(ji8), (x440000_2), (x440001_2), (x440002_2), (x440003_2), (by first | rfl | (simp; done) | (simp only [← hji8] <;> (first | rfl | simp)) | (simp [*]; done)), H', ⟨by have := HK1.out; have := HK2.out; omega⟩, ⟨by refine bs_ ?_; exact BK439.out⟩, ⟨by refine bs_ ?_; exact BK440.out⟩, ⟨by repeat (first | (with_reducible first | exact HB.out | apply below_alloc | apply pw_below_drewN | apply below_drew1 | refine below_set ?_ GE439.out | refine below_set ?_ GE440.out) | exact HB.out)⟩⟩
         ·rw [if_neg c9] at H
          exact absurd H (by simp)
        ·rw [if_neg c7] at H
         exact absurd H (by simp)
       ·rw [if_neg c6] at H
        exact absurd H (by simp)
      ·rw [if_neg c5] at H
       have c5b0 : decide ((wrap64 (x4_2 + 1)) < 4) = false := decide_eq_false c5
       clear c5
       have H' := Aside0.mk H
       clear H
       go_wp2
       repeat (go_quiet (fail); try go_wp2)
       go_roundg k2
       case measure => have := HK1.out; have := HK2.out; omega
       case rel => exact ⟨(wrap64 (x3_1 + 1)), (x440000_2), (x440001_2), (x440002_2), (x440003_2), eq_, H', ⟨by have := HK1.out; have := HK2.out; omega⟩, ⟨by refine bs_ ?_; exact BK439.out⟩, ⟨by refine bs_ ?_; exact BK440.out⟩, ⟨by repeat (first | (with_reducible first | exact HB.out | apply below_alloc | apply pw_below_drewN | apply below_drew1 | refine below_set ?_ GE439.out | refine below_set ?_ GE440.out) | exact HB.out)⟩⟩
   ·rw [if_neg c4] at H
    have c4b0 : decide (x3_1 < 4) = false := decide_eq_false c4
    clear c4
    simp only [Option.some.injEq, Prod.mk.injEq] at H
    obtain ⟨rfl, rfl, rfl, rfl⟩ := H
    have hnb26 := NB439_440.out
    have hnc26 := NB440_439.out
    have hcz27_0 : wr.cell? ⟨gb439, 0, none⟩ = some (.int .i64 x440000_1) := (blk_cell BK439.out 0).trans rfl
    have hcz27_1 : wr.cell? ⟨gb439, 1, none⟩ = some (.int .i64 x440001_1) := (blk_cell BK439.out 1).trans rfl
    have hcz27_2 : wr.cell? ⟨gb439, 2, none⟩ = some (.int .i64 x440002_1) := (blk_cell BK439.out 2).trans rfl
    have hcz27_3 : wr.cell? ⟨gb439, 3, none⟩ = some (.int .i64 x440003_1) := (blk_cell BK439.out 3).trans rfl
    have hfz27_0 := blk_frozen BK439.out 0
    have hfz27_1 := blk_frozen BK439.out 1
    have hfz27_2 := blk_frozen BK439.out 2
    have hfz27_3 := blk_frozen BK439.out 3
    have hcz28_0 : wr.cell? ⟨gb440, 0, none⟩ = some (.int .i64 0) := (blk_cell BK440.out 0).trans rfl
    have hcz28_1 : wr.cell? ⟨gb440, 1, none⟩ = some (.int .i64 0) := (blk_cell BK440.out 1).trans rfl
    have hcz28_2 : wr.cell? ⟨gb440, 2, none⟩ = some (.int .i64 0) := (blk_cell BK440.out 2).trans rfl
    have hcz28_3 : wr.cell? ⟨gb440, 3, none⟩ = some (.int .i64 0) := (blk_cell BK440.out 3).trans rfl
    have hfz28_0 := blk_frozen BK440.out 0
    have hfz28_1 := blk_frozen BK440.out 1
    have hfz28_2 := blk_frozen BK440.out 2
    have hfz28_3 := blk_frozen BK440.out 3
    go_wp2
    repeat (go_quiet (fail); try go_wp2)
    refine bodyPost_ret (results_cell_row rfl _ _ gb440 23 #[.int .i64 x440000_1, .int .i64 x440001_1, .int .i64 x440002_1, .int .i64 x440003_1] (0, 0) _ rfl (by refine bs_ ?_; refine blk_put (cs := #[.int .i64 x440000_1, .int .i64 x440001_1, .int .i64 x440002_1, .int .i64 0]) ?_ 3 _ rfl; refine bs_ ?_; refine blk_put (cs := #[.int .i64 x440000_1, .int .i64 x440001_1, .int .i64 0, .int .i64 0]) ?_ 2 _ rfl; refine bs_ ?_; refine blk_put (cs := #[.int .i64 x440000_1, .int .i64 0, .int .i64 0, .int .i64 0]) ?_ 1 _ rfl; refine bs_ ?_; refine blk_put (cs := #[.int .i64 0, .int .i64 0, .int .i64 0, .int .i64 0]) ?_ 0 _ rfl; refine bs_ ?_; exact BK440.out) Try.underlying23 rfl (by kernel_rfl)) rfl ?_
    exact ⟨by first | rfl | (simp [errW_none, errW_some] <;> rfl) | (simp [*, errW_none, errW_some] <;> rfl), by repeat (first | (with_reducible first | exact HB.out | apply below_alloc | apply pw_below_drewN | apply below_drew1 | refine below_set ?_ GE439.out | refine below_set ?_ GE440.out) | exact HB.out)⟩

end Go.Proofs.Ytlfmafebmnggeaa.Print
