/- What the functions of the discs compute, printed by this repo's hand printer. -/
import Derived.Test.YtlfmafebmnggeaaShort
import Derived.Test.YtlfmafebmnggeaaPrintx0
import Derived.Test.YtlfmafebmnggeaaPrintx1
import Derived.Test.YtlfmafebmnggeaaPrintx2
import Derived.Test.YtlfmafebmnggeaaPrintx3
namespace Go.Proofs.Ytlfmafebmnggeaa.Print
open Go.RowKit Go.Proofs.YtlfmafebmnggeaaW.PrintWords Go.Proofs.YtlfmafebmnggeaaW.PrintLast Go.Proofs.YtlfmafebmnggeaaW.PrintMore
attribute [local go_sem] max2_int min2_int max_two min_two max_three min_three max_four min_four
set_option maxHeartbeats 8000000 -- slim
set_option maxRecDepth 100000
set_option linter.unusedVariables false
set_option linter.unusedSimpArgs false

attribute [local go_sem high] eqA23 eqA58
/-! ### discs_Same: function 40 -/
def discs_Same.j0 : Nat → Bool → Int → Int → Int → Int → Int → Int → Int → Int → Option (Bool × Int)
 | 0, _, _, _, _, _, _, _, _, _ => none
 | k + 1, x17, x484000, x484001, x484002, x484003, x485000, x485001, x485002, x485003 => if x17 = true then (some (false, 2)) else ((discs_quad_root.f k x484000 x484001 x484002 x484003).bind fun bt487 => ((discs_quad_root.f k x485000 x485001 x485002 x485003).bind fun bt493 => (some ((bt487.1 == bt493.1 && (bt487.2.1 == bt493.2.1 && (bt487.2.2.1 == bt493.2.2.1 && (bt487.2.2.2.1 == bt493.2.2.2.1)))), 0))))
def discs_Same.f (k : Nat) (a0_0 : Int) (a0_1 : Int) (a0_2 : Int) (a0_3 : Int) (a1_0 : Int) (a1_1 : Int) (a1_2 : Int) (a1_3 : Int) : Option (Bool × Int) := (discs_IsQuad.f a0_0 a0_1 a0_2 a0_3).bind fun t485 => (if t485 = true then ((discs_IsQuad.f a1_0 a1_1 a1_2 a1_3).bind fun t486 => (discs_Same.j0 k (!t486) a0_0 a0_1 a0_2 a0_3 a1_0 a1_1 a1_2 a1_3)) else (discs_Same.j0 k true a0_0 a0_1 a0_2 a0_3 a1_0 a1_1 a1_2 a1_3))
theorem discs_Same.mono_l : ∀ k, (∀ y0 y1 y2 y3 y4 y5 y6 y7 y8, LeO (discs_Same.j0 k y0 y1 y2 y3 y4 y5 y6 y7 y8) (discs_Same.j0 (k + 1) y0 y1 y2 y3 y4 y5 y6 y7 y8))
 | 0 => fun _ _ _ _ _ _ _ _ _ r h => by simp [discs_Same.j0] at h
 | k + 1 => by
  have ih0 := discs_Same.mono_l k
  ·intro y0 y1 y2 y3 y4 y5 y6 y7 y8
   unfold discs_Same.j0
   repeat' first
   | (with_reducible exact ih0 _ _ _ _ _ _ _ _ _)
   | (with_reducible exact discs_quad_root.mono _ _ _ _ _)
   | (with_reducible exact LeO.refl _)
   | (with_reducible exact LeO.none _)
   | (with_reducible refine LeO.ite ?_ ?_)
   | (with_reducible refine LeO.bind ?_ (fun _ => ?_))
   | exact ih0 _ _ _ _ _ _ _ _ _
   | exact discs_quad_root.mono _ _ _ _ _
   | exact LeO.none _
   | refine LeO.ite ?_ ?_
   | refine LeO.bind ?_ (fun _ => ?_)
theorem discs_Same.mono : ∀ a0 a1 a2 a3 a4 a5 a6 a7 k, LeO (discs_Same.f k a0 a1 a2 a3 a4 a5 a6 a7) (discs_Same.f (k + 1) a0 a1 a2 a3 a4 a5 a6 a7) := by
 intro a0 a1 a2 a3 a4 a5 a6 a7 k
 have ih0 := discs_Same.mono_l k
 unfold discs_Same.f
 repeat' first
   | (with_reducible exact ih0 _ _ _ _ _ _ _ _ _)
   | (with_reducible exact discs_quad_root.mono _ _ _ _ _)
   | (with_reducible exact LeO.refl _)
   | (with_reducible exact LeO.none _)
   | (with_reducible refine LeO.ite ?_ ?_)
   | (with_reducible refine LeO.bind ?_ (fun _ => ?_))
   | exact ih0 _ _ _ _ _ _ _ _ _
   | exact discs_quad_root.mono _ _ _ _ _
   | exact LeO.none _
   | refine LeO.ite ?_ ?_
   | refine LeO.bind ?_ (fun _ => ?_)
theorem discs_Same.calls (k : Nat) (a0_0 : Int) (a0_1 : Int) (a0_2 : Int) (a0_3 : Int) (a1_0 : Int) (a1_1 : Int) (a1_2 : Int) (a1_3 : Int) (r1 : Bool) (r2 : Int) (w : World) (h : discs_Same.f k a0_0 a0_1 a0_2 a0_3 a1_0 a1_1 a1_2 a1_3 = some (r1, r2)) :
  Calls Try.prog 40 #[.agg #[.int .i64 a0_0, .int .i64 a0_1, .int .i64 a0_2, .int .i64 a0_3], .agg #[.int .i64 a1_0, .int .i64 a1_1, .int .i64 a1_2, .int .i64 a1_3]] w fun e w' => e = .returned (.tuple #[.bool r1, .int .i64 r2]) ∧ Below w.heap.size w w' := by
 have hu23 := Try.underlying23
 have hu58 := Try.underlying58
 have HB := Aside0.mk (Below.refl w.heap.size w)
 have H : ((discs_IsQuad.f a0_0 a0_1 a0_2 a0_3).bind fun t485 => (if t485 = true then ((discs_IsQuad.f a1_0 a1_1 a1_2 a1_3).bind fun t486 => (discs_Same.j0 k (!t486) a0_0 a0_1 a0_2 a0_3 a1_0 a1_1 a1_2 a1_3)) else (discs_Same.j0 k true a0_0 a0_1 a0_2 a0_3 a1_0 a1_1 a1_2 a1_3))) = some (r1, r2) := h
 clear h
 have HC3 := Aside0.mk H
 clear H
 go_enter Try.func40, Try.ntmps40
 go_upto_region 1 with (first | ((with_reducible refine gate_dst (N := 2) rfl ?_); refine box_event ?hg (N := 2) ?hd (cs := #[.int .i64 a0_0, .int .i64 a0_1, .int .i64 a0_2, .int .i64 a0_3]) (t := 23) ?hr ?_; (case hd => rfl); (case hg => rfl); (case hr => exact gs_); intro gb483 hg w4 hbox hb; have n0_ := Aside0.mk (below_step (lw_ HB.out) hb); have n1_ := Aside0.mk (hbox); have n2_ := Aside0.mk ((by rw [hg]; exact (below_size (lw_ HB.out)) : w.heap.size ≤ gb483)); have n3_ := Aside0.mk ((by rw [hg]; exact (below_size (lw_ HB.out)) : w.heap.size ≤ gb483)); clear HB; have HB := n0_; have BK483 := n1_; have GW483 := n2_; have GE483 := n3_; clear n0_ n1_ n2_ n3_; clear hb hbox hg) | ((with_reducible refine gate_dst (N := 3) rfl ?_); refine box_event ?hg (N := 3) ?hd (cs := #[.int .i64 a1_0, .int .i64 a1_1, .int .i64 a1_2, .int .i64 a1_3]) (t := 23) ?hr ?_; (case hd => rfl); (case hg => rfl); (case hr => exact gs_); intro gb484 hg w5 hbox hb; have n0_ := Aside0.mk (blk_below (g := gb483) (o := .cells #[.int .i64 a0_0, .int .i64 a0_1, .int .i64 a0_2, .int .i64 a0_3] 23 (0, 0)) (by refine bs_ ?_; exact BK483.out) hb); have n1_ := Aside0.mk (below_step (by repeat (first | (with_reducible first | exact HB.out | apply below_alloc | apply pw_below_drewN | apply below_drew1 | refine below_set ?_ GE483.out) | exact HB.out)) hb); have n2_ := Aside0.mk (hbox); have n3_ := Aside0.mk ((by rw [hg]; exact (below_size (by repeat (first | (with_reducible first | exact HB.out | apply below_alloc | apply pw_below_drewN | apply below_drew1 | refine below_set ?_ GE483.out) | exact HB.out))) : w.heap.size ≤ gb484)); have n4_ := Aside0.mk ((by rw [hg]; exact (below_size (by repeat (first | (with_reducible first | exact HB.out | apply below_alloc | apply pw_below_drewN | apply below_drew1 | refine below_set ?_ GE483.out) | exact HB.out))) : w.heap.size ≤ gb484)); have n5_ := Aside0.mk ((by rw [hg]; exact Nat.ne_of_lt (blk_lt (g := gb483) (o := .cells #[.int .i64 a0_0, .int .i64 a0_1, .int .i64 a0_2, .int .i64 a0_3] 23 (0, 0)) (by refine bs_ ?_; exact BK483.out)) : gb483 ≠ gb484)); have n6_ := Aside0.mk ((by rw [hg]; exact Nat.ne_of_gt (blk_lt (g := gb483) (o := .cells #[.int .i64 a0_0, .int .i64 a0_1, .int .i64 a0_2, .int .i64 a0_3] 23 (0, 0)) (by refine bs_ ?_; exact BK483.out)) : gb484 ≠ gb483)); clear BK483; clear HB; have BK483 := n0_; have HB := n1_; have BK484 := n2_; have GW484 := n3_; have GE484 := n4_; have NB483_484 := n5_; have NB484_483 := n6_; clear n0_ n1_ n2_ n3_ n4_ n5_ n6_; clear hb hbox hg))
 (try simp only [Act.put, List.setIfInBounds_toArray, List.set_cons_zero, List.set_cons_succ])
 go_cut [17] (fun v17 wc => ∃ (kq : Nat) (x17_2 : Bool), v17 = .bool x17_2 ∧ Aside0 (discs_Same.j0 kq x17_2 a0_0 a0_1 a0_2 a0_3 a1_0 a1_1 a1_2 a1_3 = some (r1, r2)) ∧ Aside0 (kq ≤ k) ∧ Aside0 (wc.heap[gb483]? = some (.cells #[.int .i64 a0_0, .int .i64 a0_1, .int .i64 a0_2, .int .i64 a0_3] 23 (0, 0))) ∧ Aside0 (wc.heap[gb484]? = some (.cells #[.int .i64 a1_0, .int .i64 a1_1, .int .i64 a1_2, .int .i64 a1_3] 23 (0, 0))) ∧ Aside0 (Below w.heap.size w wc))
 case first =>
  have H := HC3.out
  clear HC3
  replace H := Option.bind_eq_some_iff.mp H
  obtain ⟨t485, A60, H⟩ := H
  replace H : (if t485 = true then ((discs_IsQuad.f a1_0 a1_1 a1_2 a1_3).bind fun t486 => (discs_Same.j0 k (!t486) a0_0 a0_1 a0_2 a0_3 a1_0 a1_1 a1_2 a1_3)) else (discs_Same.j0 k true a0_0 a0_1 a0_2 a0_3 a1_0 a1_1 a1_2 a1_3)) = some (r1, r2) := H
  have A6 := Aside0.mk A60
  clear A60
  by_cases c7 : t485 = true
  ·subst c7
   have H1 : ((discs_IsQuad.f a1_0 a1_1 a1_2 a1_3).bind fun t486 => (discs_Same.j0 k (!t486) a0_0 a0_1 a0_2 a0_3 a1_0 a1_1 a1_2 a1_3)) = some (r1, r2) := by rw [if_pos rfl] at H; exact H
   clear H
   have H := H1
   clear H1
   replace H := Option.bind_eq_some_iff.mp H
   obtain ⟨t486, A80, H⟩ := H
   replace H : (discs_Same.j0 k (!t486) a0_0 a0_1 a0_2 a0_3 a1_0 a1_1 a1_2 a1_3) = some (r1, r2) := H
   have A8 := Aside0.mk A80
   clear A80
   have H' := Aside0.mk H
   clear H
   have hnb9 := NB483_484.out
   have hnc9 := NB484_483.out
   have hcz10_0 : w5.cell? ⟨gb483, 0, none⟩ = some (.int .i64 a0_0) := (blk_cell BK483.out 0).trans rfl
   have hcz10_1 : w5.cell? ⟨gb483, 1, none⟩ = some (.int .i64 a0_1) := (blk_cell BK483.out 1).trans rfl
   have hcz10_2 : w5.cell? ⟨gb483, 2, none⟩ = some (.int .i64 a0_2) := (blk_cell BK483.out 2).trans rfl
   have hcz10_3 : w5.cell? ⟨gb483, 3, none⟩ = some (.int .i64 a0_3) := (blk_cell BK483.out 3).trans rfl
   have hfz10_0 := blk_frozen BK483.out 0
   have hfz10_1 := blk_frozen BK483.out 1
   have hfz10_2 := blk_frozen BK483.out 2
   have hfz10_3 := blk_frozen BK483.out 3
   go_wp2_with (first | ((with_reducible refine gate_callee (f := 29) rfl ?_); refine goesL_ (some 11) rfl rfl Try.func29 (by kernel_rfl) rfl #[.agg #[.int .i64 a0_0, .int .i64 a0_1, .int .i64 a0_2, .int .i64 a0_3]] rfl mp_ ?_; (with_reducible refine (discs_IsQuad.calls a0_0 a0_1 a0_2 a0_3 true _ A6.out).mono ?_); rintro e w11 ⟨rfl, hb⟩; refine ⟨_, rfl, ?_⟩; have n0_ := Aside0.mk (blk_below (g := gb483) (o := .cells #[.int .i64 a0_0, .int .i64 a0_1, .int .i64 a0_2, .int .i64 a0_3] 23 (0, 0)) (by refine bs_ ?_; exact BK483.out) hb); have n1_ := Aside0.mk (blk_below (g := gb484) (o := .cells #[.int .i64 a1_0, .int .i64 a1_1, .int .i64 a1_2, .int .i64 a1_3] 23 (0, 0)) (by refine bs_ ?_; exact BK484.out) hb); have n2_ := Aside0.mk (below_step (by repeat (first | (with_reducible first | exact HB.out | apply below_alloc | apply pw_below_drewN | apply below_drew1 | refine below_set ?_ GE483.out | refine below_set ?_ GE484.out) | exact HB.out)) hb); clear BK483; clear BK484; clear HB; have BK483 := n0_; have BK484 := n1_; have HB := n2_; clear n0_ n1_ n2_; (try clear hb); (try clear hb2); (try clear hk); (try clear hi); have hcz12_0 : w11.cell? ⟨gb484, 0, none⟩ = some (.int .i64 a1_0) := (blk_cell BK484.out 0).trans rfl; have hcz12_1 : w11.cell? ⟨gb484, 1, none⟩ = some (.int .i64 a1_1) := (blk_cell BK484.out 1).trans rfl; have hcz12_2 : w11.cell? ⟨gb484, 2, none⟩ = some (.int .i64 a1_2) := (blk_cell BK484.out 2).trans rfl; have hcz12_3 : w11.cell? ⟨gb484, 3, none⟩ = some (.int .i64 a1_3) := (blk_cell BK484.out 3).trans rfl; have hfz12_0 := blk_frozen BK484.out 0; have hfz12_1 := blk_frozen BK484.out 1; have hfz12_2 := blk_frozen BK484.out 2; have hfz12_3 := blk_frozen BK484.out 3) | (go_at_call 29; (with_reducible refine (discs_IsQuad.calls a1_0 a1_1 a1_2 a1_3 t486 _ A8.out).mono ?_); rintro e w13 ⟨rfl, hb⟩; have n0_ := Aside0.mk (blk_below (g := gb483) (o := .cells #[.int .i64 a0_0, .int .i64 a0_1, .int .i64 a0_2, .int .i64 a0_3] 23 (0, 0)) (by refine bs_ ?_; exact BK483.out) hb); have n1_ := Aside0.mk (blk_below (g := gb484) (o := .cells #[.int .i64 a1_0, .int .i64 a1_1, .int .i64 a1_2, .int .i64 a1_3] 23 (0, 0)) (by refine bs_ ?_; exact BK484.out) hb); have n2_ := Aside0.mk (below_step (by repeat (first | (with_reducible first | exact HB.out | apply below_alloc | apply pw_below_drewN | apply below_drew1 | refine below_set ?_ GE483.out | refine below_set ?_ GE484.out) | exact HB.out)) hb); clear BK483; clear BK484; clear HB; have BK483 := n0_; have BK484 := n1_; have HB := n2_; clear n0_ n1_ n2_; (try clear hb); (try clear hb2); (try clear hk); (try clear hi)))
   go_meet
   case rel => exact ⟨_, (!t486), eq_, H', ⟨by first | omega | exact Nat.le_refl _⟩, ⟨by refine bs_ ?_; exact BK483.out⟩, ⟨by refine bs_ ?_; exact BK484.out⟩, ⟨by repeat (first | (with_reducible first | exact HB.out | apply below_alloc | apply pw_below_drewN | apply below_drew1 | refine below_set ?_ GE483.out | refine below_set ?_ GE484.out) | exact HB.out)⟩⟩
  ·replace c7 := Bool.eq_false_iff.mpr c7
   subst c7
   have H1 : (discs_Same.j0 k true a0_0 a0_1 a0_2 a0_3 a1_0 a1_1 a1_2 a1_3) = some (r1, r2) := by rw [if_neg (show ¬ (false = true) by decide)] at H; exact H
   clear H
   have H := H1
   clear H1
   have H' := Aside0.mk H
   clear H
   have hnb14 := NB483_484.out
   have hnc14 := NB484_483.out
   have hcz15_0 : w5.cell? ⟨gb483, 0, none⟩ = some (.int .i64 a0_0) := (blk_cell BK483.out 0).trans rfl
   have hcz15_1 : w5.cell? ⟨gb483, 1, none⟩ = some (.int .i64 a0_1) := (blk_cell BK483.out 1).trans rfl
   have hcz15_2 : w5.cell? ⟨gb483, 2, none⟩ = some (.int .i64 a0_2) := (blk_cell BK483.out 2).trans rfl
   have hcz15_3 : w5.cell? ⟨gb483, 3, none⟩ = some (.int .i64 a0_3) := (blk_cell BK483.out 3).trans rfl
   have hfz15_0 := blk_frozen BK483.out 0
   have hfz15_1 := blk_frozen BK483.out 1
   have hfz15_2 := blk_frozen BK483.out 2
   have hfz15_3 := blk_frozen BK483.out 3
   go_wp2_with (first | ((with_reducible refine gate_callee (f := 29) rfl ?_); refine goesL_ (some 11) rfl rfl Try.func29 (by kernel_rfl) rfl #[.agg #[.int .i64 a0_0, .int .i64 a0_1, .int .i64 a0_2, .int .i64 a0_3]] rfl mp_ ?_; (with_reducible refine (discs_IsQuad.calls a0_0 a0_1 a0_2 a0_3 false _ A6.out).mono ?_); rintro e w16 ⟨rfl, hb⟩; refine ⟨_, rfl, ?_⟩; have n0_ := Aside0.mk (blk_below (g := gb483) (o := .cells #[.int .i64 a0_0, .int .i64 a0_1, .int .i64 a0_2, .int .i64 a0_3] 23 (0, 0)) (by refine bs_ ?_; exact BK483.out) hb); have n1_ := Aside0.mk (blk_below (g := gb484) (o := .cells #[.int .i64 a1_0, .int .i64 a1_1, .int .i64 a1_2, .int .i64 a1_3] 23 (0, 0)) (by refine bs_ ?_; exact BK484.out) hb); have n2_ := Aside0.mk (below_step (by repeat (first | (with_reducible first | exact HB.out | apply below_alloc | apply pw_below_drewN | apply below_drew1 | refine below_set ?_ GE483.out | refine below_set ?_ GE484.out) | exact HB.out)) hb); clear BK483; clear BK484; clear HB; have BK483 := n0_; have BK484 := n1_; have HB := n2_; clear n0_ n1_ n2_; (try clear hb); (try clear hb2); (try clear hk); (try clear hi)))
   go_meet
   case rel => exact ⟨_, (true), eq_, H', ⟨by first | omega | exact Nat.le_refl _⟩, ⟨by refine bs_ ?_; exact BK483.out⟩, ⟨by refine bs_ ?_; exact BK484.out⟩, ⟨by repeat (first | (with_reducible first | exact HB.out | apply below_alloc | apply pw_below_drewN | apply below_drew1 | refine below_set ?_ GE483.out | refine below_set ?_ GE484.out) | exact HB.out)⟩⟩
 case rest =>
  clear HC3
  try clear c1
  try clear c2
  try clear p2
  try clear c4
  try clear c7
  try clear c9
  try clear c14
  try clear hcz10_0
  try clear hcz10_1
  try clear hcz10_2
  try clear hcz10_3
  try clear hcz12_0
  try clear hcz12_1
  try clear hcz12_2
  try clear hcz12_3
  try clear hcz15_0
  try clear hcz15_1
  try clear hcz15_2
  try clear hcz15_3
  try clear hfz10_0
  try clear hfz10_1
  try clear hfz10_2
  try clear hfz10_3
  try clear hfz12_0
  try clear hfz12_1
  try clear hfz12_2
  try clear hfz12_3
  try clear hfz15_0
  try clear hfz15_1
  try clear hfz15_2
  try clear hfz15_3
  obtain ⟨kq, x17_2, rfl, HA, HJ2, BK483, BK484, HB⟩ := hcut
  cases kq with
  | zero => exact absurd HA.out (by simp [discs_Same.j0])
  | succ kj2 =>
   have H := HA.out
   clear HA
   simp only [discs_Same.j0] at H
   by_cases c17 : x17_2 = true
   ·subst c17
    have H1 : (some (false, 2)) = some (r1, r2) := by rw [if_pos rfl] at H; exact H
    clear H
    have H := H1
    clear H1
    simp only [Option.some.injEq, Prod.mk.injEq] at H
    obtain ⟨rfl, rfl⟩ := H
    go_wp2
    go_ret2
    exact ⟨by first | rfl | (simp [errW_none, errW_some] <;> rfl) | (simp [*, errW_none, errW_some] <;> rfl), by repeat (first | (with_reducible first | exact HB.out | apply below_alloc | apply pw_below_drewN | apply below_drew1 | refine below_set ?_ GE483.out | refine below_set ?_ GE484.out) | exact HB.out)⟩
   ·replace c17 := Bool.eq_false_iff.mpr c17
    subst c17
    have H1 : ((discs_quad_root.f kj2 a0_0 a0_1 a0_2 a0_3).bind fun bt487 => ((discs_quad_root.f kj2 a1_0 a1_1 a1_2 a1_3).bind fun bt493 => (some ((bt487.1 == bt493.1 && (bt487.2.1 == bt493.2.1 && (bt487.2.2.1 == bt493.2.2.1 && (bt487.2.2.2.1 == bt493.2.2.2.1)))), 0)))) = some (r1, r2) := by rw [if_neg (show ¬ (false = true) by decide)] at H; exact H
    clear H
    have H := H1
    clear H1
    replace H := Option.bind_eq_some_iff.mp H
    obtain ⟨⟨t487, t488, t489, t490, t491⟩, A180, H⟩ := H
    replace H : ((discs_quad_root.f kj2 a1_0 a1_1 a1_2 a1_3).bind fun bt493 => (some ((t487 == bt493.1 && (t488 == bt493.2.1 && (t489 == bt493.2.2.1 && (t490 == bt493.2.2.2.1)))), 0))) = some (r1, r2) := H
    have A18 := Aside0.mk A180
    clear A180
    replace H := Option.bind_eq_some_iff.mp H
    obtain ⟨⟨t493, t494, t495, t496, t497⟩, A190, H⟩ := H
    replace H : (some ((t487 == t493 && (t488 == t494 && (t489 == t495 && (t490 == t496)))), 0)) = some (r1, r2) := H
    have A19 := Aside0.mk A190
    clear A190
    simp only [Option.some.injEq, Prod.mk.injEq] at H
    obtain ⟨rfl, rfl⟩ := H
    have hnb20 := NB483_484.out
    have hnc20 := NB484_483.out
    have hcz21_0 : wc.cell? ⟨gb483, 0, none⟩ = some (.int .i64 a0_0) := (blk_cell BK483.out 0).trans rfl
    have hcz21_1 : wc.cell? ⟨gb483, 1, none⟩ = some (.int .i64 a0_1) := (blk_cell BK483.out 1).trans rfl
    have hcz21_2 : wc.cell? ⟨gb483, 2, none⟩ = some (.int .i64 a0_2) := (blk_cell BK483.out 2).trans rfl
    have hcz21_3 : wc.cell? ⟨gb483, 3, none⟩ = some (.int .i64 a0_3) := (blk_cell BK483.out 3).trans rfl
    have hfz21_0 := blk_frozen BK483.out 0
    have hfz21_1 := blk_frozen BK483.out 1
    have hfz21_2 := blk_frozen BK483.out 2
    have hfz21_3 := blk_frozen BK483.out 3
    go_wp2_with (first | ((with_reducible refine gate_callee (f := 42) rfl ?_); refine goesL_ (some 20) rfl rfl Try.func42 (by kernel_rfl) rfl #[.agg #[.int .i64 a0_0, .int .i64 a0_1, .int .i64 a0_2, .int .i64 a0_3]] rfl mp_ ?_; (with_reducible refine (discs_quad_root.calls kj2 a0_0 a0_1 a0_2 a0_3 t487 t488 t489 t490 t491 _ A18.out).mono ?_); rintro e w22 ⟨rfl, hb⟩; refine ⟨_, rfl, ?_⟩; have n0_ := Aside0.mk (blk_below (g := gb483) (o := .cells #[.int .i64 a0_0, .int .i64 a0_1, .int .i64 a0_2, .int .i64 a0_3] 23 (0, 0)) (by refine bs_ ?_; exact BK483.out) hb); have n1_ := Aside0.mk (blk_below (g := gb484) (o := .cells #[.int .i64 a1_0, .int .i64 a1_1, .int .i64 a1_2, .int .i64 a1_3] 23 (0, 0)) (by refine bs_ ?_; exact BK484.out) hb); have n2_ := Aside0.mk (below_step (by repeat (first | (with_reducible first | exact HB.out | apply below_alloc | apply pw_below_drewN | apply below_drew1 | refine below_set ?_ GE483.out | refine below_set ?_ GE484.out) | exact HB.out)) hb); clear BK483; clear BK484; clear HB; have BK483 := n0_; have BK484 := n1_; have HB := n2_; clear n0_ n1_ n2_; (try clear hb); (try clear hb2); (try clear hk); (try clear hi)) | ((with_reducible refine gate_dst (N := 6) rfl ?_); refine box_event ?hg (N := 6) ?hd (cs := #[.int .i64 0, .int .i64 0, .int .i64 0, .int .i64 0]) (t := 58) ?hr ?_; (case hd => rfl); (case hg => rfl); (case hr => exact gs_); intro gb492 hg w23 hbox hb; have n0_ := Aside0.mk (blk_below (g := gb483) (o := .cells #[.int .i64 a0_0, .int .i64 a0_1, .int .i64 a0_2, .int .i64 a0_3] 23 (0, 0)) (by refine bs_ ?_; exact BK483.out) hb); have n1_ := Aside0.mk (blk_below (g := gb484) (o := .cells #[.int .i64 a1_0, .int .i64 a1_1, .int .i64 a1_2, .int .i64 a1_3] 23 (0, 0)) (by refine bs_ ?_; exact BK484.out) hb); have n2_ := Aside0.mk (below_step (by repeat (first | (with_reducible first | exact HB.out | apply below_alloc | apply pw_below_drewN | apply below_drew1 | refine below_set ?_ GE483.out | refine below_set ?_ GE484.out) | exact HB.out)) hb); have n3_ := Aside0.mk (hbox); have n4_ := Aside0.mk ((by rw [hg]; exact (below_size (by repeat (first | (with_reducible first | exact HB.out | apply below_alloc | apply pw_below_drewN | apply below_drew1 | refine below_set ?_ GE483.out | refine below_set ?_ GE484.out) | exact HB.out))) : w.heap.size ≤ gb492)); have n5_ := Aside0.mk ((by rw [hg]; exact (below_size (by repeat (first | (with_reducible first | exact HB.out | apply below_alloc | apply pw_below_drewN | apply below_drew1 | refine below_set ?_ GE483.out | refine below_set ?_ GE484.out) | exact HB.out))) : w.heap.size ≤ gb492)); have n6_ := Aside0.mk ((by rw [hg]; exact Nat.ne_of_lt (blk_lt (g := gb483) (o := .cells #[.int .i64 a0_0, .int .i64 a0_1, .int .i64 a0_2, .int .i64 a0_3] 23 (0, 0)) (by refine bs_ ?_; exact BK483.out)) : gb483 ≠ gb492)); have n7_ := Aside0.mk ((by rw [hg]; exact Nat.ne_of_gt (blk_lt (g := gb483) (o := .cells #[.int .i64 a0_0, .int .i64 a0_1, .int .i64 a0_2, .int .i64 a0_3] 23 (0, 0)) (by refine bs_ ?_; exact BK483.out)) : gb492 ≠ gb483)); have n8_ := Aside0.mk ((by rw [hg]; exact Nat.ne_of_lt (blk_lt (g := gb484) (o := .cells #[.int .i64 a1_0, .int .i64 a1_1, .int .i64 a1_2, .int .i64 a1_3] 23 (0, 0)) (by refine bs_ ?_; exact BK484.out)) : gb484 ≠ gb492)); have n9_ := Aside0.mk ((by rw [hg]; exact Nat.ne_of_gt (blk_lt (g := gb484) (o := .cells #[.int .i64 a1_0, .int .i64 a1_1, .int .i64 a1_2, .int .i64 a1_3] 23 (0, 0)) (by refine bs_ ?_; exact BK484.out)) : gb492 ≠ gb484)); clear BK483; clear BK484; clear HB; have BK483 := n0_; have BK484 := n1_; have HB := n2_; have BK492 := n3_; have GW492 := n4_; have GE492 := n5_; have NB483_492 := n6_; have NB492_483 := n7_; have NB484_492 := n8_; have NB492_484 := n9_; clear n0_ n1_ n2_ n3_ n4_ n5_ n6_ n7_ n8_ n9_; clear hb hbox hg; have hnb24 := NB492_483.out; have hnc24 := NB483_492.out; have hnb25 := NB492_484.out; have hnc25 := NB484_492.out; have hcz26_0 : w23.cell? ⟨gb492, 0, none⟩ = some (.int .i64 0) := (blk_cell BK492.out 0).trans rfl; have hcz26_1 : w23.cell? ⟨gb492, 1, none⟩ = some (.int .i64 0) := (blk_cell BK492.out 1).trans rfl; have hcz26_2 : w23.cell? ⟨gb492, 2, none⟩ = some (.int .i64 0) := (blk_cell BK492.out 2).trans rfl; have hcz26_3 : w23.cell? ⟨gb492, 3, none⟩ = some (.int .i64 0) := (blk_cell BK492.out 3).trans rfl; have hfz26_0 := blk_frozen BK492.out 0; have hfz26_1 := blk_frozen BK492.out 1; have hfz26_2 := blk_frozen BK492.out 2; have hfz26_3 := blk_frozen BK492.out 3; have hcz27_0 : w23.cell? ⟨gb484, 0, none⟩ = some (.int .i64 a1_0) := (blk_cell BK484.out 0).trans rfl; have hcz27_1 : w23.cell? ⟨gb484, 1, none⟩ = some (.int .i64 a1_1) := (blk_cell BK484.out 1).trans rfl; have hcz27_2 : w23.cell? ⟨gb484, 2, none⟩ = some (.int .i64 a1_2) := (blk_cell BK484.out 2).trans rfl; have hcz27_3 : w23.cell? ⟨gb484, 3, none⟩ = some (.int .i64 a1_3) := (blk_cell BK484.out 3).trans rfl; have hfz27_0 := blk_frozen BK484.out 0; have hfz27_1 := blk_frozen BK484.out 1; have hfz27_2 := blk_frozen BK484.out 2; have hfz27_3 := blk_frozen BK484.out 3) | ((with_reducible refine gate_callee (f := 42) rfl ?_); refine goesL_ (some 25) rfl rfl Try.func42 (by kernel_rfl) rfl #[.agg #[.int .i64 a1_0, .int .i64 a1_1, .int .i64 a1_2, .int .i64 a1_3]] rfl mp_ ?_; (with_reducible refine (discs_quad_root.calls kj2 a1_0 a1_1 a1_2 a1_3 t493 t494 t495 t496 t497 _ A19.out).mono ?_); rintro e w28 ⟨rfl, hb⟩; refine ⟨_, rfl, ?_⟩; have n0_ := Aside0.mk (blk_below (g := gb483) (o := .cells #[.int .i64 a0_0, .int .i64 a0_1, .int .i64 a0_2, .int .i64 a0_3] 23 (0, 0)) (by refine bs_ ?_; refine blk_far ?_ NB483_492.out _; refine bs_ ?_; refine blk_far ?_ NB483_492.out _; refine bs_ ?_; refine blk_far ?_ NB483_492.out _; refine bs_ ?_; refine blk_far ?_ NB483_492.out _; refine bs_ ?_; exact BK483.out) hb); have n1_ := Aside0.mk (blk_below (g := gb484) (o := .cells #[.int .i64 a1_0, .int .i64 a1_1, .int .i64 a1_2, .int .i64 a1_3] 23 (0, 0)) (by refine bs_ ?_; refine blk_far ?_ NB484_492.out _; refine bs_ ?_; refine blk_far ?_ NB484_492.out _; refine bs_ ?_; refine blk_far ?_ NB484_492.out _; refine bs_ ?_; refine blk_far ?_ NB484_492.out _; refine bs_ ?_; exact BK484.out) hb); have n2_ := Aside0.mk (blk_below (g := gb492) (o := .cells #[.int .i64 t487, .int .i64 t488, .int .i64 t489, .int .i64 t490] 58 (0, 0)) (by refine bs_ ?_; refine blk_put (cs := #[.int .i64 t487, .int .i64 t488, .int .i64 t489, .int .i64 0]) ?_ 3 _ rfl; refine bs_ ?_; refine blk_put (cs := #[.int .i64 t487, .int .i64 t488, .int .i64 0, .int .i64 0]) ?_ 2 _ rfl; refine bs_ ?_; refine blk_put (cs := #[.int .i64 t487, .int .i64 0, .int .i64 0, .int .i64 0]) ?_ 1 _ rfl; refine bs_ ?_; refine blk_put (cs := #[.int .i64 0, .int .i64 0, .int .i64 0, .int .i64 0]) ?_ 0 _ rfl; refine bs_ ?_; exact BK492.out) hb); have n3_ := Aside0.mk (below_step (by repeat (first | (with_reducible first | exact HB.out | apply below_alloc | apply pw_below_drewN | apply below_drew1 | refine below_set ?_ GE483.out | refine below_set ?_ GE484.out | refine below_set ?_ GE492.out) | exact HB.out)) hb); clear BK483; clear BK484; clear BK492; clear HB; have BK483 := n0_; have BK484 := n1_; have BK492 := n2_; have HB := n3_; clear n0_ n1_ n2_ n3_; (try clear hb); (try clear hb2); (try clear hk); (try clear hi)) | ((with_reducible refine gate_dst (N := 8) rfl ?_); refine box_event ?hg (N := 8) ?hd (cs := #[.int .i64 0, .int .i64 0, .int .i64 0, .int .i64 0]) (t := 58) ?hr ?_; (case hd => rfl); (case hg => rfl); (case hr => exact gs_); intro gb498 hg w29 hbox hb; have n0_ := Aside0.mk (blk_below (g := gb483) (o := .cells #[.int .i64 a0_0, .int .i64 a0_1, .int .i64 a0_2, .int .i64 a0_3] 23 (0, 0)) (by refine bs_ ?_; exact BK483.out) hb); have n1_ := Aside0.mk (blk_below (g := gb484) (o := .cells #[.int .i64 a1_0, .int .i64 a1_1, .int .i64 a1_2, .int .i64 a1_3] 23 (0, 0)) (by refine bs_ ?_; exact BK484.out) hb); have n2_ := Aside0.mk (blk_below (g := gb492) (o := .cells #[.int .i64 t487, .int .i64 t488, .int .i64 t489, .int .i64 t490] 58 (0, 0)) (by refine bs_ ?_; exact BK492.out) hb); have n3_ := Aside0.mk (below_step (by repeat (first | (with_reducible first | exact HB.out | apply below_alloc | apply pw_below_drewN | apply below_drew1 | refine below_set ?_ GE483.out | refine below_set ?_ GE484.out | refine below_set ?_ GE492.out) | exact HB.out)) hb); have n4_ := Aside0.mk (hbox); have n5_ := Aside0.mk ((by rw [hg]; exact (below_size (by repeat (first | (with_reducible first | exact HB.out | apply below_alloc | apply pw_below_drewN | apply below_drew1 | refine below_set ?_ GE483.out | refine below_set ?_ GE484.out | refine below_set ?_ GE492.out) | exact HB.out))) : w.heap.size ≤ gb498)); have n6_ := Aside0.mk ((by rw [hg]; exact (below_size (by repeat (first | (with_reducible first | exact HB.out | apply below_alloc | apply pw_below_drewN | apply below_drew1 | refine below_set ?_ GE483.out | refine below_set ?_ GE484.out | refine below_set ?_ GE492.out) | exact HB.out))) : w.heap.size ≤ gb498)); have n7_ := Aside0.mk ((by rw [hg]; exact Nat.ne_of_lt (blk_lt (g := gb483) (o := .cells #[.int .i64 a0_0, .int .i64 a0_1, .int .i64 a0_2, .int .i64 a0_3] 23 (0, 0)) (by refine bs_ ?_; exact BK483.out)) : gb483 ≠ gb498)); have n8_ := Aside0.mk ((by rw [hg]; exact Nat.ne_of_gt (blk_lt (g := gb483) (o := .cells #[.int .i64 a0_0, .int .i64 a0_1, .int .i64 a0_2, .int .i64 a0_3] 23 (0, 0)) (by refine bs_ ?_; exact BK483.out)) : gb498 ≠ gb483)); have n9_ := Aside0.mk ((by rw [hg]; exact Nat.ne_of_lt (blk_lt (g := gb484) (o := .cells #[.int .i64 a1_0, .int .i64 a1_1, .int .i64 a1_2, .int .i64 a1_3] 23 (0, 0)) (by refine bs_ ?_; exact BK484.out)) : gb484 ≠ gb498)); have n10_ := Aside0.mk ((by rw [hg]; exact Nat.ne_of_gt (blk_lt (g := gb484) (o := .cells #[.int .i64 a1_0, .int .i64 a1_1, .int .i64 a1_2, .int .i64 a1_3] 23 (0, 0)) (by refine bs_ ?_; exact BK484.out)) : gb498 ≠ gb484)); have n11_ := Aside0.mk ((by rw [hg]; exact Nat.ne_of_lt (blk_lt (g := gb492) (o := .cells #[.int .i64 t487, .int .i64 t488, .int .i64 t489, .int .i64 t490] 58 (0, 0)) (by refine bs_ ?_; exact BK492.out)) : gb492 ≠ gb498)); have n12_ := Aside0.mk ((by rw [hg]; exact Nat.ne_of_gt (blk_lt (g := gb492) (o := .cells #[.int .i64 t487, .int .i64 t488, .int .i64 t489, .int .i64 t490] 58 (0, 0)) (by refine bs_ ?_; exact BK492.out)) : gb498 ≠ gb492)); clear BK483; clear BK484; clear BK492; clear HB; have BK483 := n0_; have BK484 := n1_; have BK492 := n2_; have HB := n3_; have BK498 := n4_; have GW498 := n5_; have GE498 := n6_; have NB483_498 := n7_; have NB498_483 := n8_; have NB484_498 := n9_; have NB498_484 := n10_; have NB492_498 := n11_; have NB498_492 := n12_; clear n0_ n1_ n2_ n3_ n4_ n5_ n6_ n7_ n8_ n9_ n10_ n11_ n12_; clear hb hbox hg; have hnb30 := NB498_483.out; have hnc30 := NB483_498.out; have hnb31 := NB498_484.out; have hnc31 := NB484_498.out; have hnb32 := NB498_492.out; have hnc32 := NB492_498.out; have hcz33_0 : w29.cell? ⟨gb498, 0, none⟩ = some (.int .i64 0) := (blk_cell BK498.out 0).trans rfl; have hcz33_1 : w29.cell? ⟨gb498, 1, none⟩ = some (.int .i64 0) := (blk_cell BK498.out 1).trans rfl; have hcz33_2 : w29.cell? ⟨gb498, 2, none⟩ = some (.int .i64 0) := (blk_cell BK498.out 2).trans rfl; have hcz33_3 : w29.cell? ⟨gb498, 3, none⟩ = some (.int .i64 0) := (blk_cell BK498.out 3).trans rfl; have hfz33_0 := blk_frozen BK498.out 0; have hfz33_1 := blk_frozen BK498.out 1; have hfz33_2 := blk_frozen BK498.out 2; have hfz33_3 := blk_frozen BK498.out 3; have hcz34_0 : w29.cell? ⟨gb492, 0, none⟩ = some (.int .i64 t487) := (blk_cell BK492.out 0).trans rfl; have hcz34_1 : w29.cell? ⟨gb492, 1, none⟩ = some (.int .i64 t488) := (blk_cell BK492.out 1).trans rfl; have hcz34_2 : w29.cell? ⟨gb492, 2, none⟩ = some (.int .i64 t489) := (blk_cell BK492.out 2).trans rfl; have hcz34_3 : w29.cell? ⟨gb492, 3, none⟩ = some (.int .i64 t490) := (blk_cell BK492.out 3).trans rfl; have hfz34_0 := blk_frozen BK492.out 0; have hfz34_1 := blk_frozen BK492.out 1; have hfz34_2 := blk_frozen BK492.out 2; have hfz34_3 := blk_frozen BK492.out 3))
    go_ret2
    exact ⟨by first | rfl | (simp [errW_none, errW_some] <;> rfl) | (simp [*, errW_none, errW_some] <;> rfl), by repeat (first | (with_reducible first | exact HB.out | apply below_alloc | apply pw_below_drewN | apply below_drew1 | refine below_set ?_ GE483.out | refine below_set ?_ GE484.out | refine below_set ?_ GE492.out | refine below_set ?_ GE498.out) | exact HB.out)⟩

end Go.Proofs.Ytlfmafebmnggeaa.Print
