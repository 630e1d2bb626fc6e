/- What the functions of the discs compute, printed by this repo's hand printer. -/
import Derived.Test.YtlfmafebmnggeaaShort
import Derived.Test.YtlfmafebmnggeaaPrintx0
import Derived.Test.YtlfmafebmnggeaaPrintx3
import Derived.Test.YtlfmafebmnggeaaPrintx4
namespace Go.Proofs.Ytlfmafebmnggeaa.Print
open Go.RowKit Go.Proofs.YtlfmafebmnggeaaW.PrintWords Go.Proofs.YtlfmafebmnggeaaW.PrintLast Go.Proofs.YtlfmafebmnggeaaW.PrintMore
attribute [local go_sem] max2_int min2_int max_two min_two max_three min_three max_four min_four
set_option maxHeartbeats 8000000 -- slim
set_option maxRecDepth 100000
set_option linter.unusedVariables false
set_option linter.unusedSimpArgs false

/-! ### discs_Turns: function 36 -/
def discs_Turns.l0 : Nat → List Int → Int → Int → Int → Int → Int → Int → Option (Int × Int × Int × Int × Int)
 | 0, _, _, _, _, _, _, _ => none
 | k + 1, x20, x21, x22, x389000, x389001, x389002, x389003 => if x22 < x21 then (if 0 ≤ x22 then (if x22 < (x20.length : Int) then ((discs_Turn.f k x389000 x389001 x389002 x389003 (rd x20 x22)).bind fun bt392 => (if bt392.2.2.2.2 = 0 then (discs_Turns.l0 k x20 x21 (wrap64 (x22 + 1)) bt392.1 bt392.2.1 bt392.2.2.1 bt392.2.2.2.1) else (some (0, 0, 0, 0, bt392.2.2.2.2)))) else (none)) else (none)) else (some (x389000, x389001, x389002, x389003, 0))
def discs_Turns.f (k : Nat) (a0_0 : Int) (a0_1 : Int) (a0_2 : Int) (a0_3 : Int) (l1 : List Int) : Option (Int × Int × Int × Int × Int) := (discs_IsQuad.f a0_0 a0_1 a0_2 a0_3).bind fun t390 => (if t390 = true then (if (l1.length : Int) > 60 then (some (0, 0, 0, 0, 3)) else (discs_Turns.l0 k l1 (l1.length : Int) 0 a0_0 a0_1 a0_2 a0_3)) else (some (0, 0, 0, 0, 2)))
theorem discs_Turns.mono_l : ∀ k, (∀ y0 y1 y2 y3 y4 y5 y6, LeO (discs_Turns.l0 k y0 y1 y2 y3 y4 y5 y6) (discs_Turns.l0 (k + 1) y0 y1 y2 y3 y4 y5 y6))
 | 0 => fun _ _ _ _ _ _ _ r h => by simp [discs_Turns.l0] at h
 | k + 1 => by
  have ih0 := discs_Turns.mono_l k
  ·intro y0 y1 y2 y3 y4 y5 y6
   unfold discs_Turns.l0
   repeat' first
   | (with_reducible exact ih0 _ _ _ _ _ _ _)
   | (with_reducible exact discs_Turn.mono _ _ _ _ _ _)
   | (with_reducible exact LeO.refl _)
   | (with_reducible exact LeO.none _)
   | (with_reducible refine LeO.ite ?_ ?_)
   | (with_reducible refine LeO.bind ?_ (fun _ => ?_))
   | exact ih0 _ _ _ _ _ _ _
   | exact discs_Turn.mono _ _ _ _ _ _
   | exact LeO.none _
   | refine LeO.ite ?_ ?_
   | refine LeO.bind ?_ (fun _ => ?_)
theorem discs_Turns.mono : ∀ a0 a1 a2 a3 a4 k, LeO (discs_Turns.f k a0 a1 a2 a3 a4) (discs_Turns.f (k + 1) a0 a1 a2 a3 a4) := by
 intro a0 a1 a2 a3 a4 k
 have ih0 := discs_Turns.mono_l k
 unfold discs_Turns.f
 repeat' first
   | (with_reducible exact ih0 _ _ _ _ _ _ _)
   | (with_reducible exact discs_Turn.mono _ _ _ _ _ _)
   | (with_reducible exact LeO.refl _)
   | (with_reducible exact LeO.none _)
   | (with_reducible refine LeO.ite ?_ ?_)
   | (with_reducible refine LeO.bind ?_ (fun _ => ?_))
   | exact ih0 _ _ _ _ _ _ _
   | exact discs_Turn.mono _ _ _ _ _ _
   | exact LeO.none _
   | refine LeO.ite ?_ ?_
   | refine LeO.bind ?_ (fun _ => ?_)
theorem discs_Turns.calls (k : Nat) (a0_0 : Int) (a0_1 : Int) (a0_2 : Int) (a0_3 : Int) (A1 : Option Addr) (c1 : Nat) (l1 : List Int) (r1 : Int) (r2 : Int) (r3 : Int) (r4 : Int) (r5 : Int) (w : World) (hr1 : Kd.C (Kd.int .i64) w A1 l1.length l1) (hc1 : l1.length ≤ c1) (h : discs_Turns.f k a0_0 a0_1 a0_2 a0_3 l1 = some (r1, r2, r3, r4, r5)) :
  Calls Try.prog 36 #[.agg #[.int .i64 a0_0, .int .i64 a0_1, .int .i64 a0_2, .int .i64 a0_3], .slice A1 l1.length c1] w fun e w' => e = .returned (.tuple #[.agg #[.int .i64 r1, .int .i64 r2, .int .i64 r3, .int .i64 r4], .int .i64 r5]) ∧ Below w.heap.size w w' := by
 have hu23 := Try.underlying23
 have HR1 := Aside0.mk hr1
 have HC1 := Aside0.mk hc1
 clear hr1 hc1
 have HB := Aside0.mk (Below.refl w.heap.size w)
 have H : ((discs_IsQuad.f a0_0 a0_1 a0_2 a0_3).bind fun t390 => (if t390 = true then (if (l1.length : Int) > 60 then (some (0, 0, 0, 0, 3)) else (discs_Turns.l0 k l1 (l1.length : Int) 0 a0_0 a0_1 a0_2 a0_3)) else (some (0, 0, 0, 0, 2)))) = some (r1, r2, r3, r4, r5) := h
 clear h
 replace H := Option.bind_eq_some_iff.mp H
 obtain ⟨t390, A30, H⟩ := H
 replace H : (if t390 = true then (if (l1.length : Int) > 60 then (some (0, 0, 0, 0, 3)) else (discs_Turns.l0 k l1 (l1.length : Int) 0 a0_0 a0_1 a0_2 a0_3)) else (some (0, 0, 0, 0, 2))) = some (r1, r2, r3, r4, r5) := H
 have A3 := Aside0.mk A30
 clear A30
 by_cases c4 : t390 = true
 ·subst c4
  have H1 : (if (l1.length : Int) > 60 then (some (0, 0, 0, 0, 3)) else (discs_Turns.l0 k l1 (l1.length : Int) 0 a0_0 a0_1 a0_2 a0_3)) = some (r1, r2, r3, r4, r5) := by rw [if_pos rfl] at H; exact H
  clear H
  have H := H1
  clear H1
  by_cases c5 : (l1.length : Int) > 60
  ·rw [if_pos c5] at H
   have c5b0 : decide (60 < (l1.length : Int)) = true := decide_eq_true c5
   have c5b1 : decide (60 < l1.length) = true := decide_eq_true (by omega)
   clear c5
   simp only [Option.some.injEq, Prod.mk.injEq] at H
   obtain ⟨rfl, rfl, rfl, rfl, rfl⟩ := H
   go_enter Try.func36, Try.ntmps36
   go_wp2_with (first | ((with_reducible refine gate_dst (N := 2) rfl ?_); refine box_event ?hg (N := 2) ?hd (cs := #[.int .i64 a0_0, .int .i64 a0_1, .int .i64 a0_2, .int .i64 a0_3]) (t := 23) ?hr ?_; (case hd => rfl); (case hg => rfl); (case hr => exact gs_); intro gb388 hg w6 hbox hb; have n0_ := Aside0.mk (below_step (lw_ HB.out) hb); have n1_ := Aside0.mk (hbox); have n2_ := Aside0.mk ((by rw [hg]; exact (below_size (lw_ HB.out)) : w.heap.size ≤ gb388)); have n3_ := Aside0.mk ((by rw [hg]; exact (below_size (lw_ HB.out)) : w.heap.size ≤ gb388)); clear HB; have HB := n0_; have BK388 := n1_; have GW388 := n2_; have GE388 := n3_; clear n0_ n1_ n2_ n3_; clear hb hbox hg) | ((with_reducible refine gate_dst (N := 4) rfl ?_); refine box_event ?hg (N := 4) ?hd (cs := #[.int .i64 0, .int .i64 0, .int .i64 0, .int .i64 0]) (t := 23) ?hr ?_; (case hd => rfl); (case hg => rfl); (case hr => exact gs_); intro gb389 hg w7 hbox hb; have n0_ := Aside0.mk (blk_below (g := gb388) (o := .cells #[.int .i64 a0_0, .int .i64 a0_1, .int .i64 a0_2, .int .i64 a0_3] 23 (0, 0)) (by refine bs_ ?_; exact BK388.out) hb); have n1_ := Aside0.mk (below_step (by repeat (first | (with_reducible first | exact HB.out | apply below_alloc | apply pw_below_drewN | apply below_drew1 | refine below_set ?_ GE388.out) | exact HB.out)) hb); have n2_ := Aside0.mk (hbox); have n3_ := Aside0.mk ((by rw [hg]; exact (below_size (by repeat (first | (with_reducible first | exact HB.out | apply below_alloc | apply pw_below_drewN | apply below_drew1 | refine below_set ?_ GE388.out) | exact HB.out))) : w.heap.size ≤ gb389)); have n4_ := Aside0.mk ((by rw [hg]; exact (below_size (by repeat (first | (with_reducible first | exact HB.out | apply below_alloc | apply pw_below_drewN | apply below_drew1 | refine below_set ?_ GE388.out) | exact HB.out))) : w.heap.size ≤ gb389)); have n5_ := Aside0.mk ((by rw [hg]; exact Nat.ne_of_lt (blk_lt (g := gb388) (o := .cells #[.int .i64 a0_0, .int .i64 a0_1, .int .i64 a0_2, .int .i64 a0_3] 23 (0, 0)) (by refine bs_ ?_; exact BK388.out)) : gb388 ≠ gb389)); have n6_ := Aside0.mk ((by rw [hg]; exact Nat.ne_of_gt (blk_lt (g := gb388) (o := .cells #[.int .i64 a0_0, .int .i64 a0_1, .int .i64 a0_2, .int .i64 a0_3] 23 (0, 0)) (by refine bs_ ?_; exact BK388.out)) : gb389 ≠ gb388)); clear BK388; clear HB; have BK388 := n0_; have HB := n1_; have BK389 := n2_; have GW389 := n3_; have GE389 := n4_; have NB388_389 := n5_; have NB389_388 := n6_; clear n0_ n1_ n2_ n3_ n4_ n5_ n6_; clear hb hbox hg; have hnb8 := NB388_389.out; have hnc8 := NB389_388.out; have hcz9_0 : w7.cell? ⟨gb388, 0, none⟩ = some (.int .i64 a0_0) := (blk_cell BK388.out 0).trans rfl; have hcz9_1 : w7.cell? ⟨gb388, 1, none⟩ = some (.int .i64 a0_1) := (blk_cell BK388.out 1).trans rfl; have hcz9_2 : w7.cell? ⟨gb388, 2, none⟩ = some (.int .i64 a0_2) := (blk_cell BK388.out 2).trans rfl; have hcz9_3 : w7.cell? ⟨gb388, 3, none⟩ = some (.int .i64 a0_3) := (blk_cell BK388.out 3).trans rfl; have hfz9_0 := blk_frozen BK388.out 0; have hfz9_1 := blk_frozen BK388.out 1; have hfz9_2 := blk_frozen BK388.out 2; have hfz9_3 := blk_frozen BK388.out 3) | ((with_reducible refine gate_callee (f := 29) rfl ?_); refine goesL_ (some 12) rfl rfl Try.func29 (by kernel_rfl) rfl #[.agg #[.int .i64 a0_0, .int .i64 a0_1, .int .i64 a0_2, .int .i64 a0_3]] rfl mp_ ?_; (with_reducible refine (discs_IsQuad.calls a0_0 a0_1 a0_2 a0_3 true _ A3.out).mono ?_); rintro e w10 ⟨rfl, hb⟩; refine ⟨_, rfl, ?_⟩; have n0_ := Aside0.mk (blk_below (g := gb388) (o := .cells #[.int .i64 a0_0, .int .i64 a0_1, .int .i64 a0_2, .int .i64 a0_3] 23 (0, 0)) (by refine bs_ ?_; exact BK388.out) hb); have n1_ := Aside0.mk (blk_below (g := gb389) (o := .cells #[.int .i64 0, .int .i64 0, .int .i64 0, .int .i64 0] 23 (0, 0)) (by refine bs_ ?_; exact BK389.out) hb); have n2_ := Aside0.mk (below_step (by repeat (first | (with_reducible first | exact HB.out | apply below_alloc | apply pw_below_drewN | apply below_drew1 | refine below_set ?_ GE388.out | refine below_set ?_ GE389.out) | exact HB.out)) hb); clear BK388; clear BK389; clear HB; have BK388 := n0_; have BK389 := n1_; have HB := n2_; clear n0_ n1_ n2_; (try clear hb); (try clear hb2); (try clear hk); (try clear hi); have hcz11_0 : w10.cell? ⟨gb389, 0, none⟩ = some (.int .i64 0) := (blk_cell BK389.out 0).trans rfl; have hcz11_1 : w10.cell? ⟨gb389, 1, none⟩ = some (.int .i64 0) := (blk_cell BK389.out 1).trans rfl; have hcz11_2 : w10.cell? ⟨gb389, 2, none⟩ = some (.int .i64 0) := (blk_cell BK389.out 2).trans rfl; have hcz11_3 : w10.cell? ⟨gb389, 3, none⟩ = some (.int .i64 0) := (blk_cell BK389.out 3).trans rfl; have hfz11_0 := blk_frozen BK389.out 0; have hfz11_1 := blk_frozen BK389.out 1; have hfz11_2 := blk_frozen BK389.out 2; have hfz11_3 := blk_frozen BK389.out 3))
   refine bodyPost_ret (results_ct rfl _ _ gb389 23 #[.int .i64 0, .int .i64 0, .int .i64 0, .int .i64 0] (0, 0) _ rfl (by refine bs_ ?_; refine blk_put (cs := #[.int .i64 0, .int .i64 0, .int .i64 0, .int .i64 0]) ?_ 3 _ rfl; refine bs_ ?_; refine blk_put (cs := #[.int .i64 0, .int .i64 0, .int .i64 0, .int .i64 0]) ?_ 2 _ rfl; refine bs_ ?_; refine blk_put (cs := #[.int .i64 0, .int .i64 0, .int .i64 0, .int .i64 0]) ?_ 1 _ rfl; refine bs_ ?_; refine blk_put (cs := #[.int .i64 0, .int .i64 0, .int .i64 0, .int .i64 0]) ?_ 0 _ rfl; refine bs_ ?_; exact BK389.out) Try.underlying23 rfl (by kernel_rfl)) rfl ?_
   exact ⟨by first | rfl | (simp [errW_none, errW_some] <;> rfl) | (simp [*, errW_none, errW_some] <;> rfl), by repeat (first | (with_reducible first | exact HB.out | apply below_alloc | apply pw_below_drewN | apply below_drew1 | refine below_set ?_ GE388.out | refine below_set ?_ GE389.out) | exact HB.out)⟩
  ·rw [if_neg c5] at H
   have c5b0 : decide (60 < (l1.length : Int)) = false := decide_eq_false c5
   have c5b1 : decide (60 < l1.length) = false := decide_eq_false (by omega)
   clear c5
   have H' := Aside0.mk H
   clear H
   go_enter Try.func36, Try.ntmps36
   go_wp2_with (first | ((with_reducible refine gate_dst (N := 2) rfl ?_); refine box_event ?hg (N := 2) ?hd (cs := #[.int .i64 a0_0, .int .i64 a0_1, .int .i64 a0_2, .int .i64 a0_3]) (t := 23) ?hr ?_; (case hd => rfl); (case hg => rfl); (case hr => exact gs_); intro gb388 hg w12 hbox hb; have n0_ := Aside0.mk (below_step (lw_ HB.out) hb); have n1_ := Aside0.mk (hbox); have n2_ := Aside0.mk ((by rw [hg]; exact (below_size (lw_ HB.out)) : w.heap.size ≤ gb388)); have n3_ := Aside0.mk ((by rw [hg]; exact (below_size (lw_ HB.out)) : w.heap.size ≤ gb388)); clear HB; have HB := n0_; have BK388 := n1_; have GW388 := n2_; have GE388 := n3_; clear n0_ n1_ n2_ n3_; clear hb hbox hg) | ((with_reducible refine gate_dst (N := 4) rfl ?_); refine box_event ?hg (N := 4) ?hd (cs := #[.int .i64 0, .int .i64 0, .int .i64 0, .int .i64 0]) (t := 23) ?hr ?_; (case hd => rfl); (case hg => rfl); (case hr => exact gs_); intro gb389 hg w13 hbox hb; have n0_ := Aside0.mk (blk_below (g := gb388) (o := .cells #[.int .i64 a0_0, .int .i64 a0_1, .int .i64 a0_2, .int .i64 a0_3] 23 (0, 0)) (by refine bs_ ?_; exact BK388.out) hb); have n1_ := Aside0.mk (below_step (by repeat (first | (with_reducible first | exact HB.out | apply below_alloc | apply pw_below_drewN | apply below_drew1 | refine below_set ?_ GE388.out) | exact HB.out)) hb); have n2_ := Aside0.mk (hbox); have n3_ := Aside0.mk ((by rw [hg]; exact (below_size (by repeat (first | (with_reducible first | exact HB.out | apply below_alloc | apply pw_below_drewN | apply below_drew1 | refine below_set ?_ GE388.out) | exact HB.out))) : w.heap.size ≤ gb389)); have n4_ := Aside0.mk ((by rw [hg]; exact (below_size (by repeat (first | (with_reducible first | exact HB.out | apply below_alloc | apply pw_below_drewN | apply below_drew1 | refine below_set ?_ GE388.out) | exact HB.out))) : w.heap.size ≤ gb389)); have n5_ := Aside0.mk ((by rw [hg]; exact Nat.ne_of_lt (blk_lt (g := gb388) (o := .cells #[.int .i64 a0_0, .int .i64 a0_1, .int .i64 a0_2, .int .i64 a0_3] 23 (0, 0)) (by refine bs_ ?_; exact BK388.out)) : gb388 ≠ gb389)); have n6_ := Aside0.mk ((by rw [hg]; exact Nat.ne_of_gt (blk_lt (g := gb388) (o := .cells #[.int .i64 a0_0, .int .i64 a0_1, .int .i64 a0_2, .int .i64 a0_3] 23 (0, 0)) (by refine bs_ ?_; exact BK388.out)) : gb389 ≠ gb388)); clear BK388; clear HB; have BK388 := n0_; have HB := n1_; have BK389 := n2_; have GW389 := n3_; have GE389 := n4_; have NB388_389 := n5_; have NB389_388 := n6_; clear n0_ n1_ n2_ n3_ n4_ n5_ n6_; clear hb hbox hg; have hnb14 := NB388_389.out; have hnc14 := NB389_388.out; have hcz15_0 : w13.cell? ⟨gb388, 0, none⟩ = some (.int .i64 a0_0) := (blk_cell BK388.out 0).trans rfl; have hcz15_1 : w13.cell? ⟨gb388, 1, none⟩ = some (.int .i64 a0_1) := (blk_cell BK388.out 1).trans rfl; have hcz15_2 : w13.cell? ⟨gb388, 2, none⟩ = some (.int .i64 a0_2) := (blk_cell BK388.out 2).trans rfl; have hcz15_3 : w13.cell? ⟨gb388, 3, none⟩ = some (.int .i64 a0_3) := (blk_cell BK388.out 3).trans rfl; have hfz15_0 := blk_frozen BK388.out 0; have hfz15_1 := blk_frozen BK388.out 1; have hfz15_2 := blk_frozen BK388.out 2; have hfz15_3 := blk_frozen BK388.out 3) | ((with_reducible refine gate_callee (f := 29) rfl ?_); refine goesL_ (some 12) rfl rfl Try.func29 (by kernel_rfl) rfl #[.agg #[.int .i64 a0_0, .int .i64 a0_1, .int .i64 a0_2, .int .i64 a0_3]] rfl mp_ ?_; (with_reducible refine (discs_IsQuad.calls a0_0 a0_1 a0_2 a0_3 true _ A3.out).mono ?_); rintro e w16 ⟨rfl, hb⟩; refine ⟨_, rfl, ?_⟩; have n0_ := Aside0.mk (blk_below (g := gb388) (o := .cells #[.int .i64 a0_0, .int .i64 a0_1, .int .i64 a0_2, .int .i64 a0_3] 23 (0, 0)) (by refine bs_ ?_; exact BK388.out) hb); have n1_ := Aside0.mk (blk_below (g := gb389) (o := .cells #[.int .i64 0, .int .i64 0, .int .i64 0, .int .i64 0] 23 (0, 0)) (by refine bs_ ?_; exact BK389.out) hb); have n2_ := Aside0.mk (below_step (by repeat (first | (with_reducible first | exact HB.out | apply below_alloc | apply pw_below_drewN | apply below_drew1 | refine below_set ?_ GE388.out | refine below_set ?_ GE389.out) | exact HB.out)) hb); clear BK388; clear BK389; clear HB; have BK388 := n0_; have BK389 := n1_; have HB := n2_; clear n0_ n1_ n2_; (try clear hb); (try clear hb2); (try clear hk); (try clear hi)))
   go_loopg [22] k (fun kq v22 w' => ∃ (x22_1 : Int) (x389000_1 : Int) (x389001_1 : Int) (x389002_1 : Int) (x389003_1 : Int) (x390000_1 : Int) (x390001_1 : Int) (x390002_1 : Int) (x390003_1 : Int), v22 = .int .i64 x22_1 ∧ Aside0 (discs_Turns.l0 kq l1 (l1.length : Int) x22_1 x389000_1 x389001_1 x389002_1 x389003_1 = some (r1, r2, r3, r4, r5)) ∧ Aside0 (kq ≤ k) ∧ Aside0 (w'.heap[gb388]? = some (.cells #[.int .i64 x389000_1, .int .i64 x389001_1, .int .i64 x389002_1, .int .i64 x389003_1] 23 (0, 0))) ∧ Aside0 (w'.heap[gb389]? = some (.cells #[.int .i64 x390000_1, .int .i64 x390001_1, .int .i64 x390002_1, .int .i64 x390003_1] 23 (0, 0))) ∧ Aside0 (Below w.heap.size w w'))
   case atStart => exact ⟨(0), (a0_0), (a0_1), (a0_2), (a0_3), (0), (0), (0), (0), eq_, H', ⟨Nat.le_refl _⟩, ⟨by refine bs_ ?_; exact BK388.out⟩, ⟨by refine bs_ ?_; exact BK389.out⟩, ⟨by repeat (first | (with_reducible first | exact HB.out | apply below_alloc | apply pw_below_drewN | apply below_drew1 | refine below_set ?_ GE388.out | refine below_set ?_ GE389.out) | exact HB.out)⟩⟩
   case round =>
    clear H'
    try clear c1
    try clear c2
    try clear p2
    try clear c3
    try clear c4
    try clear c5
    try clear c5b0
    try clear c5b1
    try clear c8
    try clear c14
    try clear hcz11_0
    try clear hcz11_1
    try clear hcz11_2
    try clear hcz11_3
    try clear hcz15_0
    try clear hcz15_1
    try clear hcz15_2
    try clear hcz15_3
    try clear hcz9_0
    try clear hcz9_1
    try clear hcz9_2
    try clear hcz9_3
    try clear hfz11_0
    try clear hfz11_1
    try clear hfz11_2
    try clear hfz11_3
    try clear hfz15_0
    try clear hfz15_1
    try clear hfz15_2
    try clear hfz15_3
    try clear hfz9_0
    try clear hfz9_1
    try clear hfz9_2
    try clear hfz9_3
    obtain ⟨x22_1, x389000_1, x389001_1, x389002_1, x389003_1, x390000_1, x390001_1, x390002_1, x390003_1, rfl, HA, HK1, BK388, BK389, HB⟩ := hrel
    cases gk with
    | zero => exact absurd HA.out (by simp [discs_Turns.l0])
    | succ k1 =>
     have H := HA.out
     clear HA
     simp only [discs_Turns.l0] at H
     by_cases c17 : x22_1 < (l1.length : Int)
     ·rw [if_pos c17] at H
      have c17b0 : decide (x22_1 < (l1.length : Int)) = true := decide_eq_true c17
      clear c17
      by_cases c18 : 0 ≤ x22_1
      ·rw [if_pos c18] at H
       have c18b0 : decide (0 ≤ x22_1) = true := decide_eq_true c18
       clear c18
       by_cases c19 : x22_1 < (l1.length : Int)
       ·rw [if_pos c19] at H
        have c19b0 : decide (x22_1 < (l1.length : Int)) = true := decide_eq_true c19
        clear c19
        replace H := Option.bind_eq_some_iff.mp H
        obtain ⟨⟨t392, t393, t394, t395, t396⟩, A200, H⟩ := H
        replace H : (if t396 = 0 then (discs_Turns.l0 k1 l1 (l1.length : Int) (wrap64 (x22_1 + 1)) t392 t393 t394 t395) else (some (0, 0, 0, 0, t396))) = some (r1, r2, r3, r4, r5) := H
        have A20 := Aside0.mk A200
        clear A200
        by_cases c21 : t396 = 0
        ·rw [if_pos c21] at H
         have c21b0 : (t396 == 0) = true := beq_iff_eq.mpr c21
         have c21b1 : (t396 != 0) = false := bne_eq_false_iff_eq.mpr c21
         clear c21
         have H' := Aside0.mk H
         clear H
         have p391 : 0 ≤ (x22_1 : Int) := of_decide_eq_true as_
         have q391 : x22_1 < (l1.length : Int) := of_decide_eq_true as_
         obtain ⟨ad391, e391, hx391_0⟩ := Kd.at_int HR1.out x22_1 p391 q391
         cases e391
         replace hx391_0 := (HB.out.cell (World.block_lt_of_cell? w _ hx391_0)).trans hx391_0
         replace p391 := eq_true p391
         replace q391 := eq_true q391
         have hnb22 := NB388_389.out
         have hnc22 := NB389_388.out
         have hcz23_0 : wr.cell? ⟨gb388, 0, none⟩ = some (.int .i64 x389000_1) := (blk_cell BK388.out 0).trans rfl
         have hcz23_1 : wr.cell? ⟨gb388, 1, none⟩ = some (.int .i64 x389001_1) := (blk_cell BK388.out 1).trans rfl
         have hcz23_2 : wr.cell? ⟨gb388, 2, none⟩ = some (.int .i64 x389002_1) := (blk_cell BK388.out 2).trans rfl
         have hcz23_3 : wr.cell? ⟨gb388, 3, none⟩ = some (.int .i64 x389003_1) := (blk_cell BK388.out 3).trans rfl
         have hfz23_0 := blk_frozen BK388.out 0
         have hfz23_1 := blk_frozen BK388.out 1
         have hfz23_2 := blk_frozen BK388.out 2
         have hfz23_3 := blk_frozen BK388.out 3
         go_wp2_with (first | ((with_reducible refine gate_callee (f := 28) rfl ?_); refine goesL_ (some 29) rfl rfl Try.func28 (by kernel_rfl) rfl #[.agg #[.int .i64 x389000_1, .int .i64 x389001_1, .int .i64 x389002_1, .int .i64 x389003_1], .int .i64 (rd l1 x22_1)] rfl mp_ ?_; (with_reducible refine (discs_Turn.calls k1 x389000_1 x389001_1 x389002_1 x389003_1 (rd l1 x22_1) t392 t393 t394 t395 t396 _ A20.out).mono ?_); rintro e w24 ⟨rfl, hb⟩; refine ⟨_, rfl, ?_⟩; have n0_ := Aside0.mk (blk_below (g := gb388) (o := .cells #[.int .i64 x389000_1, .int .i64 x389001_1, .int .i64 x389002_1, .int .i64 x389003_1] 23 (0, 0)) (by refine bs_ ?_; exact BK388.out) hb); have n1_ := Aside0.mk (blk_below (g := gb389) (o := .cells #[.int .i64 x390000_1, .int .i64 x390001_1, .int .i64 x390002_1, .int .i64 x390003_1] 23 (0, 0)) (by refine bs_ ?_; exact BK389.out) hb); have n2_ := Aside0.mk (below_step (by repeat (first | (with_reducible first | exact HB.out | apply below_alloc | apply pw_below_drewN | apply below_drew1 | refine below_set ?_ GE388.out | refine below_set ?_ GE389.out) | exact HB.out)) hb); clear BK388; clear BK389; clear HB; have BK388 := n0_; have BK389 := n1_; have HB := n2_; clear n0_ n1_ n2_; (try clear hb); (try clear hb2); (try clear hk); (try clear hi)) | ((with_reducible refine gate_dst (N := 8) rfl ?_); refine box_event ?hg (N := 8) ?hd (cs := #[.int .i64 0, .int .i64 0, .int .i64 0, .int .i64 0]) (t := 23) ?hr ?_; (case hd => rfl); (case hg => rfl); (case hr => exact gs_); intro gb397 hg w25 hbox hb; have n0_ := Aside0.mk (blk_below (g := gb388) (o := .cells #[.int .i64 x389000_1, .int .i64 x389001_1, .int .i64 x389002_1, .int .i64 x389003_1] 23 (0, 0)) (by refine bs_ ?_; exact BK388.out) hb); have n1_ := Aside0.mk (blk_below (g := gb389) (o := .cells #[.int .i64 x390000_1, .int .i64 x390001_1, .int .i64 x390002_1, .int .i64 x390003_1] 23 (0, 0)) (by refine bs_ ?_; exact BK389.out) hb); have n2_ := Aside0.mk (below_step (by repeat (first | (with_reducible first | exact HB.out | apply below_alloc | apply pw_below_drewN | apply below_drew1 | refine below_set ?_ GE388.out | refine below_set ?_ GE389.out) | exact HB.out)) hb); have n3_ := Aside0.mk (hbox); have n4_ := Aside0.mk ((by rw [hg]; exact (below_size (by repeat (first | (with_reducible first | exact HB.out | apply below_alloc | apply pw_below_drewN | apply below_drew1 | refine below_set ?_ GE388.out | refine below_set ?_ GE389.out) | exact HB.out))) : w.heap.size ≤ gb397)); have n5_ := Aside0.mk ((by rw [hg]; exact (below_size (by repeat (first | (with_reducible first | exact HB.out | apply below_alloc | apply pw_below_drewN | apply below_drew1 | refine below_set ?_ GE388.out | refine below_set ?_ GE389.out) | exact HB.out))) : w.heap.size ≤ gb397)); have n6_ := Aside0.mk ((by rw [hg]; exact Nat.ne_of_lt (blk_lt (g := gb388) (o := .cells #[.int .i64 x389000_1, .int .i64 x389001_1, .int .i64 x389002_1, .int .i64 x389003_1] 23 (0, 0)) (by refine bs_ ?_; exact BK388.out)) : gb388 ≠ gb397)); have n7_ := Aside0.mk ((by rw [hg]; exact Nat.ne_of_gt (blk_lt (g := gb388) (o := .cells #[.int .i64 x389000_1, .int .i64 x389001_1, .int .i64 x389002_1, .int .i64 x389003_1] 23 (0, 0)) (by refine bs_ ?_; exact BK388.out)) : gb397 ≠ gb388)); have n8_ := Aside0.mk ((by rw [hg]; exact Nat.ne_of_lt (blk_lt (g := gb389) (o := .cells #[.int .i64 x390000_1, .int .i64 x390001_1, .int .i64 x390002_1, .int .i64 x390003_1] 23 (0, 0)) (by refine bs_ ?_; exact BK389.out)) : gb389 ≠ gb397)); have n9_ := Aside0.mk ((by rw [hg]; exact Nat.ne_of_gt (blk_lt (g := gb389) (o := .cells #[.int .i64 x390000_1, .int .i64 x390001_1, .int .i64 x390002_1, .int .i64 x390003_1] 23 (0, 0)) (by refine bs_ ?_; exact BK389.out)) : gb397 ≠ gb389)); clear BK388; clear BK389; clear HB; have BK388 := n0_; have BK389 := n1_; have HB := n2_; have BK397 := n3_; have GW397 := n4_; have GE397 := n5_; have NB388_397 := n6_; have NB397_388 := n7_; have NB389_397 := n8_; have NB397_389 := n9_; clear n0_ n1_ n2_ n3_ n4_ n5_ n6_ n7_ n8_ n9_; clear hb hbox hg; have hnb26 := NB397_388.out; have hnc26 := NB388_397.out; have hnb27 := NB397_389.out; have hnc27 := NB389_397.out; have hcz28_0 : w25.cell? ⟨gb397, 0, none⟩ = some (.int .i64 0) := (blk_cell BK397.out 0).trans rfl; have hcz28_1 : w25.cell? ⟨gb397, 1, none⟩ = some (.int .i64 0) := (blk_cell BK397.out 1).trans rfl; have hcz28_2 : w25.cell? ⟨gb397, 2, none⟩ = some (.int .i64 0) := (blk_cell BK397.out 2).trans rfl; have hcz28_3 : w25.cell? ⟨gb397, 3, none⟩ = some (.int .i64 0) := (blk_cell BK397.out 3).trans rfl; have hfz28_0 := blk_frozen BK397.out 0; have hfz28_1 := blk_frozen BK397.out 1; have hfz28_2 := blk_frozen BK397.out 2; have hfz28_3 := blk_frozen BK397.out 3; have hcz29_0 : w25.cell? ⟨gb388, 0, none⟩ = some (.int .i64 x389000_1) := (blk_cell BK388.out 0).trans rfl; have hcz29_1 : w25.cell? ⟨gb388, 1, none⟩ = some (.int .i64 x389001_1) := (blk_cell BK388.out 1).trans rfl; have hcz29_2 : w25.cell? ⟨gb388, 2, none⟩ = some (.int .i64 x389002_1) := (blk_cell BK388.out 2).trans rfl; have hcz29_3 : w25.cell? ⟨gb388, 3, none⟩ = some (.int .i64 x389003_1) := (blk_cell BK388.out 3).trans rfl; have hfz29_0 := blk_frozen BK388.out 0; have hfz29_1 := blk_frozen BK388.out 1; have hfz29_2 := blk_frozen BK388.out 2; have hfz29_3 := blk_frozen BK388.out 3))
         go_roundg k1
         case measure => have := HK1.out; omega
         case rel => exact ⟨(wrap64 (x22_1 + 1)), (t392), (t393), (t394), (t395), (x390000_1), (x390001_1), (x390002_1), (x390003_1), eq_, H', ⟨by have := HK1.out; omega⟩, ⟨by refine bs_ ?_; refine blk_put (cs := #[.int .i64 t392, .int .i64 t393, .int .i64 t394, .int .i64 x389003_1]) ?_ 3 _ rfl; refine bs_ ?_; refine blk_put (cs := #[.int .i64 t392, .int .i64 t393, .int .i64 x389002_1, .int .i64 x389003_1]) ?_ 2 _ rfl; refine bs_ ?_; refine blk_put (cs := #[.int .i64 t392, .int .i64 x389001_1, .int .i64 x389002_1, .int .i64 x389003_1]) ?_ 1 _ rfl; refine bs_ ?_; refine blk_put (cs := #[.int .i64 x389000_1, .int .i64 x389001_1, .int .i64 x389002_1, .int .i64 x389003_1]) ?_ 0 _ rfl; refine bs_ ?_; refine blk_far ?_ NB388_397.out _; refine bs_ ?_; refine blk_far ?_ NB388_397.out _; refine bs_ ?_; refine blk_far ?_ NB388_397.out _; refine bs_ ?_; refine blk_far ?_ NB388_397.out _; refine bs_ ?_; exact BK388.out⟩, ⟨by refine bs_ ?_; refine blk_far ?_ NB389_388.out _; refine bs_ ?_; refine blk_far ?_ NB389_388.out _; refine bs_ ?_; refine blk_far ?_ NB389_388.out _; refine bs_ ?_; refine blk_far ?_ NB389_388.out _; refine bs_ ?_; refine blk_far ?_ NB389_397.out _; refine bs_ ?_; refine blk_far ?_ NB389_397.out _; refine bs_ ?_; refine blk_far ?_ NB389_397.out _; refine bs_ ?_; refine blk_far ?_ NB389_397.out _; refine bs_ ?_; exact BK389.out⟩, ⟨by repeat (first | (with_reducible first | exact HB.out | apply below_alloc | apply pw_below_drewN | apply below_drew1 | refine below_set ?_ GE388.out | refine below_set ?_ GE389.out | refine below_set ?_ GE397.out) | exact HB.out)⟩⟩
        ·rw [if_neg c21] at H
         have c21b0 : (t396 == 0) = false := beq_eq_false_iff_ne.mpr c21
         have c21b1 : (t396 != 0) = true := bne_iff_ne.mpr c21
         simp only [Option.some.injEq, Prod.mk.injEq] at H
         obtain ⟨rfl, rfl, rfl, rfl, rfl⟩ := H
         have p391 : 0 ≤ (x22_1 : Int) := of_decide_eq_true as_
         have q391 : x22_1 < (l1.length : Int) := of_decide_eq_true as_
         obtain ⟨ad391, e391, hx391_0⟩ := Kd.at_int HR1.out x22_1 p391 q391
         cases e391
         replace hx391_0 := (HB.out.cell (World.block_lt_of_cell? w _ hx391_0)).trans hx391_0
         replace p391 := eq_true p391
         replace q391 := eq_true q391
         have hnb30 := NB388_389.out
         have hnc30 := NB389_388.out
         have hcz31_0 : wr.cell? ⟨gb388, 0, none⟩ = some (.int .i64 x389000_1) := (blk_cell BK388.out 0).trans rfl
         have hcz31_1 : wr.cell? ⟨gb388, 1, none⟩ = some (.int .i64 x389001_1) := (blk_cell BK388.out 1).trans rfl
         have hcz31_2 : wr.cell? ⟨gb388, 2, none⟩ = some (.int .i64 x389002_1) := (blk_cell BK388.out 2).trans rfl
         have hcz31_3 : wr.cell? ⟨gb388, 3, none⟩ = some (.int .i64 x389003_1) := (blk_cell BK388.out 3).trans rfl
         have hfz31_0 := blk_frozen BK388.out 0
         have hfz31_1 := blk_frozen BK388.out 1
         have hfz31_2 := blk_frozen BK388.out 2
         have hfz31_3 := blk_frozen BK388.out 3
         go_wp2_with (first | ((with_reducible refine gate_callee (f := 28) rfl ?_); refine goesL_ (some 29) rfl rfl Try.func28 (by kernel_rfl) rfl #[.agg #[.int .i64 x389000_1, .int .i64 x389001_1, .int .i64 x389002_1, .int .i64 x389003_1], .int .i64 (rd l1 x22_1)] rfl mp_ ?_; (with_reducible refine (discs_Turn.calls k1 x389000_1 x389001_1 x389002_1 x389003_1 (rd l1 x22_1) t392 t393 t394 t395 t396 _ A20.out).mono ?_); rintro e w32 ⟨rfl, hb⟩; refine ⟨_, rfl, ?_⟩; have n0_ := Aside0.mk (blk_below (g := gb388) (o := .cells #[.int .i64 x389000_1, .int .i64 x389001_1, .int .i64 x389002_1, .int .i64 x389003_1] 23 (0, 0)) (by refine bs_ ?_; exact BK388.out) hb); have n1_ := Aside0.mk (blk_below (g := gb389) (o := .cells #[.int .i64 x390000_1, .int .i64 x390001_1, .int .i64 x390002_1, .int .i64 x390003_1] 23 (0, 0)) (by refine bs_ ?_; exact BK389.out) hb); have n2_ := Aside0.mk (below_step (by repeat (first | (with_reducible first | exact HB.out | apply below_alloc | apply pw_below_drewN | apply below_drew1 | refine below_set ?_ GE388.out | refine below_set ?_ GE389.out) | exact HB.out)) hb); clear BK388; clear BK389; clear HB; have BK388 := n0_; have BK389 := n1_; have HB := n2_; clear n0_ n1_ n2_; (try clear hb); (try clear hb2); (try clear hk); (try clear hi)) | ((with_reducible refine gate_dst (N := 8) rfl ?_); refine box_event ?hg (N := 8) ?hd (cs := #[.int .i64 0, .int .i64 0, .int .i64 0, .int .i64 0]) (t := 23) ?hr ?_; (case hd => rfl); (case hg => rfl); (case hr => exact gs_); intro gb397 hg w33 hbox hb; have n0_ := Aside0.mk (blk_below (g := gb388) (o := .cells #[.int .i64 x389000_1, .int .i64 x389001_1, .int .i64 x389002_1, .int .i64 x389003_1] 23 (0, 0)) (by refine bs_ ?_; exact BK388.out) hb); have n1_ := Aside0.mk (blk_below (g := gb389) (o := .cells #[.int .i64 x390000_1, .int .i64 x390001_1, .int .i64 x390002_1, .int .i64 x390003_1] 23 (0, 0)) (by refine bs_ ?_; exact BK389.out) hb); have n2_ := Aside0.mk (below_step (by repeat (first | (with_reducible first | exact HB.out | apply below_alloc | apply pw_below_drewN | apply below_drew1 | refine below_set ?_ GE388.out | refine below_set ?_ GE389.out) | exact HB.out)) hb); have n3_ := Aside0.mk (hbox); have n4_ := Aside0.mk ((by rw [hg]; exact (below_size (by repeat (first | (with_reducible first | exact HB.out | apply below_alloc | apply pw_below_drewN | apply below_drew1 | refine below_set ?_ GE388.out | refine below_set ?_ GE389.out) | exact HB.out))) : w.heap.size ≤ gb397)); have n5_ := Aside0.mk ((by rw [hg]; exact (below_size (by repeat (first | (with_reducible first | exact HB.out | apply below_alloc | apply pw_below_drewN | apply below_drew1 | refine below_set ?_ GE388.out | refine below_set ?_ GE389.out) | exact HB.out))) : w.heap.size ≤ gb397)); have n6_ := Aside0.mk ((by rw [hg]; exact Nat.ne_of_lt (blk_lt (g := gb388) (o := .cells #[.int .i64 x389000_1, .int .i64 x389001_1, .int .i64 x389002_1, .int .i64 x389003_1] 23 (0, 0)) (by refine bs_ ?_; exact BK388.out)) : gb388 ≠ gb397)); have n7_ := Aside0.mk ((by rw [hg]; exact Nat.ne_of_gt (blk_lt (g := gb388) (o := .cells #[.int .i64 x389000_1, .int .i64 x389001_1, .int .i64 x389002_1, .int .i64 x389003_1] 23 (0, 0)) (by refine bs_ ?_; exact BK388.out)) : gb397 ≠ gb388)); have n8_ := Aside0.mk ((by rw [hg]; exact Nat.ne_of_lt (blk_lt (g := gb389) (o := .cells #[.int .i64 x390000_1, .int .i64 x390001_1, .int .i64 x390002_1, .int .i64 x390003_1] 23 (0, 0)) (by refine bs_ ?_; exact BK389.out)) : gb389 ≠ gb397)); have n9_ := Aside0.mk ((by rw [hg]; exact Nat.ne_of_gt (blk_lt (g := gb389) (o := .cells #[.int .i64 x390000_1, .int .i64 x390001_1, .int .i64 x390002_1, .int .i64 x390003_1] 23 (0, 0)) (by refine bs_ ?_; exact BK389.out)) : gb397 ≠ gb389)); clear BK388; clear BK389; clear HB; have BK388 := n0_; have BK389 := n1_; have HB := n2_; have BK397 := n3_; have GW397 := n4_; have GE397 := n5_; have NB388_397 := n6_; have NB397_388 := n7_; have NB389_397 := n8_; have NB397_389 := n9_; clear n0_ n1_ n2_ n3_ n4_ n5_ n6_ n7_ n8_ n9_; clear hb hbox hg; have hnb34 := NB397_388.out; have hnc34 := NB388_397.out; have hnb35 := NB397_389.out; have hnc35 := NB389_397.out; have hcz36_0 : w33.cell? ⟨gb397, 0, none⟩ = some (.int .i64 0) := (blk_cell BK397.out 0).trans rfl; have hcz36_1 : w33.cell? ⟨gb397, 1, none⟩ = some (.int .i64 0) := (blk_cell BK397.out 1).trans rfl; have hcz36_2 : w33.cell? ⟨gb397, 2, none⟩ = some (.int .i64 0) := (blk_cell BK397.out 2).trans rfl; have hcz36_3 : w33.cell? ⟨gb397, 3, none⟩ = some (.int .i64 0) := (blk_cell BK397.out 3).trans rfl; have hfz36_0 := blk_frozen BK397.out 0; have hfz36_1 := blk_frozen BK397.out 1; have hfz36_2 := blk_frozen BK397.out 2; have hfz36_3 := blk_frozen BK397.out 3; have hcz37_0 : w33.cell? ⟨gb389, 0, none⟩ = some (.int .i64 x390000_1) := (blk_cell BK389.out 0).trans rfl; have hcz37_1 : w33.cell? ⟨gb389, 1, none⟩ = some (.int .i64 x390001_1) := (blk_cell BK389.out 1).trans rfl; have hcz37_2 : w33.cell? ⟨gb389, 2, none⟩ = some (.int .i64 x390002_1) := (blk_cell BK389.out 2).trans rfl; have hcz37_3 : w33.cell? ⟨gb389, 3, none⟩ = some (.int .i64 x390003_1) := (blk_cell BK389.out 3).trans rfl; have hfz37_0 := blk_frozen BK389.out 0; have hfz37_1 := blk_frozen BK389.out 1; have hfz37_2 := blk_frozen BK389.out 2; have hfz37_3 := blk_frozen BK389.out 3))
         refine bodyPost_ret (results_ct rfl _ _ gb389 23 #[.int .i64 0, .int .i64 0, .int .i64 0, .int .i64 0] (0, 0) _ rfl (by refine bs_ ?_; refine blk_put (cs := #[.int .i64 0, .int .i64 0, .int .i64 0, .int .i64 x390003_1]) ?_ 3 _ rfl; refine bs_ ?_; refine blk_put (cs := #[.int .i64 0, .int .i64 0, .int .i64 x390002_1, .int .i64 x390003_1]) ?_ 2 _ rfl; refine bs_ ?_; refine blk_put (cs := #[.int .i64 0, .int .i64 x390001_1, .int .i64 x390002_1, .int .i64 x390003_1]) ?_ 1 _ rfl; refine bs_ ?_; refine blk_put (cs := #[.int .i64 x390000_1, .int .i64 x390001_1, .int .i64 x390002_1, .int .i64 x390003_1]) ?_ 0 _ rfl; refine bs_ ?_; refine blk_far ?_ NB389_397.out _; refine bs_ ?_; refine blk_far ?_ NB389_397.out _; refine bs_ ?_; refine blk_far ?_ NB389_397.out _; refine bs_ ?_; refine blk_far ?_ NB389_397.out _; refine bs_ ?_; exact BK389.out) Try.underlying23 rfl (by kernel_rfl)) rfl ?_
         exact ⟨by first | rfl | (simp [errW_none, errW_some] <;> rfl) | (simp [*, errW_none, errW_some] <;> rfl), by repeat (first | (with_reducible first | exact HB.out | apply below_alloc | apply pw_below_drewN | apply below_drew1 | refine below_set ?_ GE388.out | refine below_set ?_ GE389.out | refine below_set ?_ GE397.out) | exact HB.out)⟩
       ·rw [if_neg c19] at H
        exact absurd H (by simp)
      ·rw [if_neg c18] at H
       exact absurd H (by simp)
     ·rw [if_neg c17] at H
      have c17b0 : decide (x22_1 < (l1.length : Int)) = false := decide_eq_false c17
      clear c17
      simp only [Option.some.injEq, Prod.mk.injEq] at H
      obtain ⟨rfl, rfl, rfl, rfl, rfl⟩ := H
      have hnb38 := NB388_389.out
      have hnc38 := NB389_388.out
      have hcz39_0 : wr.cell? ⟨gb388, 0, none⟩ = some (.int .i64 x389000_1) := (blk_cell BK388.out 0).trans rfl
      have hcz39_1 : wr.cell? ⟨gb388, 1, none⟩ = some (.int .i64 x389001_1) := (blk_cell BK388.out 1).trans rfl
      have hcz39_2 : wr.cell? ⟨gb388, 2, none⟩ = some (.int .i64 x389002_1) := (blk_cell BK388.out 2).trans rfl
      have hcz39_3 : wr.cell? ⟨gb388, 3, none⟩ = some (.int .i64 x389003_1) := (blk_cell BK388.out 3).trans rfl
      have hfz39_0 := blk_frozen BK388.out 0
      have hfz39_1 := blk_frozen BK388.out 1
      have hfz39_2 := blk_frozen BK388.out 2
      have hfz39_3 := blk_frozen BK388.out 3
      have hcz40_0 : wr.cell? ⟨gb389, 0, none⟩ = some (.int .i64 x390000_1) := (blk_cell BK389.out 0).trans rfl
      have hcz40_1 : wr.cell? ⟨gb389, 1, none⟩ = some (.int .i64 x390001_1) := (blk_cell BK389.out 1).trans rfl
      have hcz40_2 : wr.cell? ⟨gb389, 2, none⟩ = some (.int .i64 x390002_1) := (blk_cell BK389.out 2).trans rfl
      have hcz40_3 : wr.cell? ⟨gb389, 3, none⟩ = some (.int .i64 x390003_1) := (blk_cell BK389.out 3).trans rfl
      have hfz40_0 := blk_frozen BK389.out 0
      have hfz40_1 := blk_frozen BK389.out 1
      have hfz40_2 := blk_frozen BK389.out 2
      have hfz40_3 := blk_frozen BK389.out 3
      go_wp2
      refine bodyPost_ret (results_ct rfl _ _ gb389 23 #[.int .i64 x389000_1, .int .i64 x389001_1, .int .i64 x389002_1, .int .i64 x389003_1] (0, 0) _ rfl (by refine bs_ ?_; refine blk_put (cs := #[.int .i64 x389000_1, .int .i64 x389001_1, .int .i64 x389002_1, .int .i64 x390003_1]) ?_ 3 _ rfl; refine bs_ ?_; refine blk_put (cs := #[.int .i64 x389000_1, .int .i64 x389001_1, .int .i64 x390002_1, .int .i64 x390003_1]) ?_ 2 _ rfl; refine bs_ ?_; refine blk_put (cs := #[.int .i64 x389000_1, .int .i64 x390001_1, .int .i64 x390002_1, .int .i64 x390003_1]) ?_ 1 _ rfl; refine bs_ ?_; refine blk_put (cs := #[.int .i64 x390000_1, .int .i64 x390001_1, .int .i64 x390002_1, .int .i64 x390003_1]) ?_ 0 _ rfl; refine bs_ ?_; exact BK389.out) Try.underlying23 rfl (by kernel_rfl)) rfl ?_
      exact ⟨by first | rfl | (simp [errW_none, errW_some] <;> rfl) | (simp [*, errW_none, errW_some] <;> rfl), by repeat (first | (with_reducible first | exact HB.out | apply below_alloc | apply pw_below_drewN | apply below_drew1 | refine below_set ?_ GE388.out | refine below_set ?_ GE389.out) | exact HB.out)⟩
 ·replace c4 := Bool.eq_false_iff.mpr c4
  subst c4
  have H1 : (some (0, 0, 0, 0, 2)) = some (r1, r2, r3, r4, r5) := by rw [if_neg (show ¬ (false = true) by decide)] at H; exact H
  clear H
  have H := H1
  clear H1
  simp only [Option.some.injEq, Prod.mk.injEq] at H
  obtain ⟨rfl, rfl, rfl, rfl, rfl⟩ := H
  go_enter Try.func36, Try.ntmps36
  go_wp2_with (first | ((with_reducible refine gate_dst (N := 2) rfl ?_); refine box_event ?hg (N := 2) ?hd (cs := #[.int .i64 a0_0, .int .i64 a0_1, .int .i64 a0_2, .int .i64 a0_3]) (t := 23) ?hr ?_; (case hd => rfl); (case hg => rfl); (case hr => exact gs_); intro gb388 hg w41 hbox hb; have n0_ := Aside0.mk (below_step (lw_ HB.out) hb); have n1_ := Aside0.mk (hbox); have n2_ := Aside0.mk ((by rw [hg]; exact (below_size (lw_ HB.out)) : w.heap.size ≤ gb388)); have n3_ := Aside0.mk ((by rw [hg]; exact (below_size (lw_ HB.out)) : w.heap.size ≤ gb388)); clear HB; have HB := n0_; have BK388 := n1_; have GW388 := n2_; have GE388 := n3_; clear n0_ n1_ n2_ n3_; clear hb hbox hg) | ((with_reducible refine gate_dst (N := 4) rfl ?_); refine box_event ?hg (N := 4) ?hd (cs := #[.int .i64 0, .int .i64 0, .int .i64 0, .int .i64 0]) (t := 23) ?hr ?_; (case hd => rfl); (case hg => rfl); (case hr => exact gs_); intro gb389 hg w42 hbox hb; have n0_ := Aside0.mk (blk_below (g := gb388) (o := .cells #[.int .i64 a0_0, .int .i64 a0_1, .int .i64 a0_2, .int .i64 a0_3] 23 (0, 0)) (by refine bs_ ?_; exact BK388.out) hb); have n1_ := Aside0.mk (below_step (by repeat (first | (with_reducible first | exact HB.out | apply below_alloc | apply pw_below_drewN | apply below_drew1 | refine below_set ?_ GE388.out) | exact HB.out)) hb); have n2_ := Aside0.mk (hbox); have n3_ := Aside0.mk ((by rw [hg]; exact (below_size (by repeat (first | (with_reducible first | exact HB.out | apply below_alloc | apply pw_below_drewN | apply below_drew1 | refine below_set ?_ GE388.out) | exact HB.out))) : w.heap.size ≤ gb389)); have n4_ := Aside0.mk ((by rw [hg]; exact (below_size (by repeat (first | (with_reducible first | exact HB.out | apply below_alloc | apply pw_below_drewN | apply below_drew1 | refine below_set ?_ GE388.out) | exact HB.out))) : w.heap.size ≤ gb389)); have n5_ := Aside0.mk ((by rw [hg]; exact Nat.ne_of_lt (blk_lt (g := gb388) (o := .cells #[.int .i64 a0_0, .int .i64 a0_1, .int .i64 a0_2, .int .i64 a0_3] 23 (0, 0)) (by refine bs_ ?_; exact BK388.out)) : gb388 ≠ gb389)); have n6_ := Aside0.mk ((by rw [hg]; exact Nat.ne_of_gt (blk_lt (g := gb388) (o := .cells #[.int .i64 a0_0, .int .i64 a0_1, .int .i64 a0_2, .int .i64 a0_3] 23 (0, 0)) (by refine bs_ ?_; exact BK388.out)) : gb389 ≠ gb388)); clear BK388; clear HB; have BK388 := n0_; have HB := n1_; have BK389 := n2_; have GW389 := n3_; have GE389 := n4_; have NB388_389 := n5_; have NB389_388 := n6_; clear n0_ n1_ n2_ n3_ n4_ n5_ n6_; clear hb hbox hg; have hnb43 := NB388_389.out; have hnc43 := NB389_388.out; have hcz44_0 : w42.cell? ⟨gb388, 0, none⟩ = some (.int .i64 a0_0) := (blk_cell BK388.out 0).trans rfl; have hcz44_1 : w42.cell? ⟨gb388, 1, none⟩ = some (.int .i64 a0_1) := (blk_cell BK388.out 1).trans rfl; have hcz44_2 : w42.cell? ⟨gb388, 2, none⟩ = some (.int .i64 a0_2) := (blk_cell BK388.out 2).trans rfl; have hcz44_3 : w42.cell? ⟨gb388, 3, none⟩ = some (.int .i64 a0_3) := (blk_cell BK388.out 3).trans rfl; have hfz44_0 := blk_frozen BK388.out 0; have hfz44_1 := blk_frozen BK388.out 1; have hfz44_2 := blk_frozen BK388.out 2; have hfz44_3 := blk_frozen BK388.out 3) | ((with_reducible refine gate_callee (f := 29) rfl ?_); refine goesL_ (some 12) rfl rfl Try.func29 (by kernel_rfl) rfl #[.agg #[.int .i64 a0_0, .int .i64 a0_1, .int .i64 a0_2, .int .i64 a0_3]] rfl mp_ ?_; (with_reducible refine (discs_IsQuad.calls a0_0 a0_1 a0_2 a0_3 false _ A3.out).mono ?_); rintro e w45 ⟨rfl, hb⟩; refine ⟨_, rfl, ?_⟩; have n0_ := Aside0.mk (blk_below (g := gb388) (o := .cells #[.int .i64 a0_0, .int .i64 a0_1, .int .i64 a0_2, .int .i64 a0_3] 23 (0, 0)) (by refine bs_ ?_; exact BK388.out) hb); have n1_ := Aside0.mk (blk_below (g := gb389) (o := .cells #[.int .i64 0, .int .i64 0, .int .i64 0, .int .i64 0] 23 (0, 0)) (by refine bs_ ?_; exact BK389.out) hb); have n2_ := Aside0.mk (below_step (by repeat (first | (with_reducible first | exact HB.out | apply below_alloc | apply pw_below_drewN | apply below_drew1 | refine below_set ?_ GE388.out | refine below_set ?_ GE389.out) | exact HB.out)) hb); clear BK388; clear BK389; clear HB; have BK388 := n0_; have BK389 := n1_; have HB := n2_; clear n0_ n1_ n2_; (try clear hb); (try clear hb2); (try clear hk); (try clear hi); have hcz46_0 : w45.cell? ⟨gb389, 0, none⟩ = some (.int .i64 0) := (blk_cell BK389.out 0).trans rfl; have hcz46_1 : w45.cell? ⟨gb389, 1, none⟩ = some (.int .i64 0) := (blk_cell BK389.out 1).trans rfl; have hcz46_2 : w45.cell? ⟨gb389, 2, none⟩ = some (.int .i64 0) := (blk_cell BK389.out 2).trans rfl; have hcz46_3 : w45.cell? ⟨gb389, 3, none⟩ = some (.int .i64 0) := (blk_cell BK389.out 3).trans rfl; have hfz46_0 := blk_frozen BK389.out 0; have hfz46_1 := blk_frozen BK389.out 1; have hfz46_2 := blk_frozen BK389.out 2; have hfz46_3 := blk_frozen BK389.out 3))
  refine bodyPost_ret (results_ct rfl _ _ gb389 23 #[.int .i64 0, .int .i64 0, .int .i64 0, .int .i64 0] (0, 0) _ rfl (by refine bs_ ?_; refine blk_put (cs := #[.int .i64 0, .int .i64 0, .int .i64 0, .int .i64 0]) ?_ 3 _ rfl; refine bs_ ?_; refine blk_put (cs := #[.int .i64 0, .int .i64 0, .int .i64 0, .int .i64 0]) ?_ 2 _ rfl; refine bs_ ?_; refine blk_put (cs := #[.int .i64 0, .int .i64 0, .int .i64 0, .int .i64 0]) ?_ 1 _ rfl; refine bs_ ?_; refine blk_put (cs := #[.int .i64 0, .int .i64 0, .int .i64 0, .int .i64 0]) ?_ 0 _ rfl; refine bs_ ?_; exact BK389.out) Try.underlying23 rfl (by kernel_rfl)) rfl ?_
  exact ⟨by first | rfl | (simp [errW_none, errW_some] <;> rfl) | (simp [*, errW_none, errW_some] <;> rfl), by repeat (first | (with_reducible first | exact HB.out | apply below_alloc | apply pw_below_drewN | apply below_drew1 | refine below_set ?_ GE388.out | refine below_set ?_ GE389.out) | exact HB.out)⟩

end Go.Proofs.Ytlfmafebmnggeaa.Print
