/- What the functions of the discs compute, printed by this repo's hand printer. -/
import Derived.Test.YtlfmafebmnggeaaShort
import Derived.Test.YtlfmafebmnggeaaPrintx0
import Derived.Test.YtlfmafebmnggeaaPrintx13
import Derived.Test.YtlfmafebmnggeaaPrintx14
import Derived.Test.YtlfmafebmnggeaaPrintx20
namespace Go.Proofs.Ytlfmafebmnggeaa.Print
open Go.RowKit Go.Proofs.YtlfmafebmnggeaaW.PrintWords Go.Proofs.YtlfmafebmnggeaaW.PrintLast Go.Proofs.YtlfmafebmnggeaaW.PrintMore
attribute [local go_sem] max2_int min2_int max_two min_two max_three min_three max_four min_four
set_option maxHeartbeats 8000000 -- slim
set_option maxRecDepth 100000
set_option linter.unusedVariables false
set_option linter.unusedSimpArgs false

/-! ### clocheref01_Root: function 16 -/
mutual
def clocheref01_Root.l0 : Nat → Int → Int → Int → Int → Int → Option (Int × Int × Int × Int × Int × Int)
 | 0, _, _, _, _, _ => none
 | k + 1, x5, x442000, x442001, x442002, x442003 => clocheref01_Root.l1 k x5 0 1 x442000 x442001 x442002 x442003
def clocheref01_Root.l1 : Nat → Int → Int → Int → Int → Int → Int → Int → Option (Int × Int × Int × Int × Int × Int)
 | 0, _, _, _, _, _, _, _ => none
 | k + 1, x5, x6, x7, x442000, x442001, x442002, x442003 => if x7 < 4 then (if 0 ≤ x7 then (if 0 ≤ x6 then (if x6 < 4 then (if (at4 x442000 x442001 x442002 x442003 x7) ≥ (at4 x442000 x442001 x442002 x442003 x6) then (clocheref01_Root.l1 k x5 x7 (wrap64 (x7 + 1)) x442000 x442001 x442002 x442003) else (clocheref01_Root.l1 k x5 x6 (wrap64 (x7 + 1)) x442000 x442001 x442002 x442003)) else (none)) else (none)) else (none)) else ((clocheref01_Turned.f k x442000 x442001 x442002 x442003 x6).bind fun t444 => (if 0 ≤ x6 then (if x6 < 4 then (if t444 ≥ (at4 x442000 x442001 x442002 x442003 x6) then ((clocheref01_Sorted.f k x442000 x442001 x442002 x442003).bind fun bt445 => (some (bt445.1, bt445.2.1, bt445.2.2.1, bt445.2.2.2, x5, 0))) else (clocheref01_Root.l0 k (wrap64 (x5 + 1)) (pt4 0 x442000 x6 t444) (pt4 1 x442001 x6 t444) (pt4 2 x442002 x6 t444) (pt4 3 x442003 x6 t444))) else (none)) else (none)))
end
def clocheref01_Root.f (k : Nat) (a0_0 : Int) (a0_1 : Int) (a0_2 : Int) (a0_3 : Int) : Option (Int × Int × Int × Int × Int × Int) := (clocheref01_IsQuad.f k a0_0 a0_1 a0_2 a0_3).bind fun t443 => (if t443 = true then (clocheref01_Root.l0 k 0 a0_0 a0_1 a0_2 a0_3) else (some (0, 0, 0, 0, 0, 2)))
theorem clocheref01_Root.mono_l : ∀ k, (∀ y0 y1 y2 y3 y4, LeO (clocheref01_Root.l0 k y0 y1 y2 y3 y4) (clocheref01_Root.l0 (k + 1) y0 y1 y2 y3 y4)) ∧ (∀ y0 y1 y2 y3 y4 y5 y6, LeO (clocheref01_Root.l1 k y0 y1 y2 y3 y4 y5 y6) (clocheref01_Root.l1 (k + 1) y0 y1 y2 y3 y4 y5 y6))
 | 0 => ⟨fun _ _ _ _ _ r h => by simp [clocheref01_Root.l0] at h, fun _ _ _ _ _ _ _ r h => by simp [clocheref01_Root.l1] at h⟩
 | k + 1 => by
  obtain ⟨ih0, ih1⟩ := clocheref01_Root.mono_l k
  refine ⟨?_, ?_⟩
  ·intro y0 y1 y2 y3 y4
   unfold clocheref01_Root.l0
   repeat' first
   | (with_reducible exact ih0 _ _ _ _ _)
   | (with_reducible exact ih1 _ _ _ _ _ _ _)
   | (with_reducible exact clocheref01_IsQuad.mono _ _ _ _ _)
   | (with_reducible exact clocheref01_Sorted.mono _ _ _ _ _)
   | (with_reducible exact clocheref01_Turned.mono _ _ _ _ _ _)
   | (with_reducible exact LeO.refl _)
   | (with_reducible exact LeO.none _)
   | (with_reducible refine LeO.ite ?_ ?_)
   | (with_reducible refine LeO.bind ?_ (fun _ => ?_))
   | exact ih0 _ _ _ _ _
   | exact ih1 _ _ _ _ _ _ _
   | exact clocheref01_IsQuad.mono _ _ _ _ _
   | exact clocheref01_Sorted.mono _ _ _ _ _
   | exact clocheref01_Turned.mono _ _ _ _ _ _
   | exact LeO.none _
   | refine LeO.ite ?_ ?_
   | refine LeO.bind ?_ (fun _ => ?_)
  ·intro y0 y1 y2 y3 y4 y5 y6
   unfold clocheref01_Root.l1
   repeat' first
   | (with_reducible exact ih0 _ _ _ _ _)
   | (with_reducible exact ih1 _ _ _ _ _ _ _)
   | (with_reducible exact clocheref01_IsQuad.mono _ _ _ _ _)
   | (with_reducible exact clocheref01_Sorted.mono _ _ _ _ _)
   | (with_reducible exact clocheref01_Turned.mono _ _ _ _ _ _)
   | (with_reducible exact LeO.refl _)
   | (with_reducible exact LeO.none _)
   | (with_reducible refine LeO.ite ?_ ?_)
   | (with_reducible refine LeO.bind ?_ (fun _ => ?_))
   | exact ih0 _ _ _ _ _
   | exact ih1 _ _ _ _ _ _ _
   | exact clocheref01_IsQuad.mono _ _ _ _ _
   | exact clocheref01_Sorted.mono _ _ _ _ _
   | exact clocheref01_Turned.mono _ _ _ _ _ _
   | exact LeO.none _
   | refine LeO.ite ?_ ?_
   | refine LeO.bind ?_ (fun _ => ?_)
theorem clocheref01_Root.mono : ∀ a0 a1 a2 a3 k, LeO (clocheref01_Root.f k a0 a1 a2 a3) (clocheref01_Root.f (k + 1) a0 a1 a2 a3) := by
 intro a0 a1 a2 a3 k
 obtain ⟨ih0, ih1⟩ := clocheref01_Root.mono_l k
 unfold clocheref01_Root.f
 repeat' first
   | (with_reducible exact ih0 _ _ _ _ _)
   | (with_reducible exact ih1 _ _ _ _ _ _ _)
   | (with_reducible exact clocheref01_IsQuad.mono _ _ _ _ _)
   | (with_reducible exact clocheref01_Sorted.mono _ _ _ _ _)
   | (with_reducible exact clocheref01_Turned.mono _ _ _ _ _ _)
   | (with_reducible exact LeO.refl _)
   | (with_reducible exact LeO.none _)
   | (with_reducible refine LeO.ite ?_ ?_)
   | (with_reducible refine LeO.bind ?_ (fun _ => ?_))
   | exact ih0 _ _ _ _ _
   | exact ih1 _ _ _ _ _ _ _
   | exact clocheref01_IsQuad.mono _ _ _ _ _
   | exact clocheref01_Sorted.mono _ _ _ _ _
   | exact clocheref01_Turned.mono _ _ _ _ _ _
   | exact LeO.none _
   | refine LeO.ite ?_ ?_
   | refine LeO.bind ?_ (fun _ => ?_)
theorem clocheref01_Root.calls (k : Nat) (a0_0 : Int) (a0_1 : Int) (a0_2 : Int) (a0_3 : Int) (r1 : Int) (r2 : Int) (r3 : Int) (r4 : Int) (r5 : Int) (r6 : Int) (w : World) (h : clocheref01_Root.f k a0_0 a0_1 a0_2 a0_3 = some (r1, r2, r3, r4, r5, r6)) :
  Calls Try.prog 16 #[.agg #[.int .i64 a0_0, .int .i64 a0_1, .int .i64 a0_2, .int .i64 a0_3]] w fun e w' => e = .returned (.tuple #[.agg #[.int .i64 r1, .int .i64 r2, .int .i64 r3, .int .i64 r4], .int .i64 r5, .int .i64 r6]) ∧ Below w.heap.size w w' := by
 have hu23 := Try.underlying23
 have HB := Aside0.mk (Below.refl w.heap.size w)
 have H : ((clocheref01_IsQuad.f k a0_0 a0_1 a0_2 a0_3).bind fun t443 => (if t443 = true then (clocheref01_Root.l0 k 0 a0_0 a0_1 a0_2 a0_3) else (some (0, 0, 0, 0, 0, 2)))) = some (r1, r2, r3, r4, r5, r6) := h
 clear h
 replace H := Option.bind_eq_some_iff.mp H
 obtain ⟨t443, A20, H⟩ := H
 replace H : (if t443 = true then (clocheref01_Root.l0 k 0 a0_0 a0_1 a0_2 a0_3) else (some (0, 0, 0, 0, 0, 2))) = some (r1, r2, r3, r4, r5, r6) := H
 have A2 := Aside0.mk A20
 clear A20
 by_cases c3 : t443 = true
 ·subst c3
  have H1 : (clocheref01_Root.l0 k 0 a0_0 a0_1 a0_2 a0_3) = some (r1, r2, r3, r4, r5, r6) := by rw [if_pos rfl] at H; exact H
  clear H
  have H := H1
  clear H1
  have H' := Aside0.mk H
  clear H
  go_enter Try.func16, Try.ntmps16
  go_wp2_with (first | ((with_reducible refine gate_dst (N := 1) rfl ?_); refine box_event ?hg (N := 1) ?hd (cs := #[.int .i64 a0_0, .int .i64 a0_1, .int .i64 a0_2, .int .i64 a0_3]) (t := 23) ?hr ?_; (case hd => rfl); (case hg => rfl); (case hr => exact gs_); intro gb441 hg w4 hbox hb; have n0_ := Aside0.mk (below_step (lw_ HB.out) hb); have n1_ := Aside0.mk (hbox); have n2_ := Aside0.mk ((by rw [hg]; exact (below_size (lw_ HB.out)) : w.heap.size ≤ gb441)); have n3_ := Aside0.mk ((by rw [hg]; exact (below_size (lw_ HB.out)) : w.heap.size ≤ gb441)); clear HB; have HB := n0_; have BK441 := n1_; have GW441 := n2_; have GE441 := n3_; clear n0_ n1_ n2_ n3_; clear hb hbox hg) | ((with_reducible refine gate_dst (N := 2) rfl ?_); refine box_event ?hg (N := 2) ?hd (cs := #[.int .i64 0, .int .i64 0, .int .i64 0, .int .i64 0]) (t := 23) ?hr ?_; (case hd => rfl); (case hg => rfl); (case hr => exact gs_); intro gb442 hg w5 hbox hb; have n0_ := Aside0.mk (blk_below (g := gb441) (o := .cells #[.int .i64 a0_0, .int .i64 a0_1, .int .i64 a0_2, .int .i64 a0_3] 23 (0, 0)) (by refine bs_ ?_; exact BK441.out) hb); have n1_ := Aside0.mk (below_step (by repeat (first | (with_reducible first | exact HB.out | apply below_alloc | apply pw_below_drewN | apply below_drew1 | refine below_set ?_ GE441.out) | exact HB.out)) hb); have n2_ := Aside0.mk (hbox); have n3_ := Aside0.mk ((by rw [hg]; exact (below_size (by repeat (first | (with_reducible first | exact HB.out | apply below_alloc | apply pw_below_drewN | apply below_drew1 | refine below_set ?_ GE441.out) | exact HB.out))) : w.heap.size ≤ gb442)); have n4_ := Aside0.mk ((by rw [hg]; exact (below_size (by repeat (first | (with_reducible first | exact HB.out | apply below_alloc | apply pw_below_drewN | apply below_drew1 | refine below_set ?_ GE441.out) | exact HB.out))) : w.heap.size ≤ gb442)); have n5_ := Aside0.mk ((by rw [hg]; exact Nat.ne_of_lt (blk_lt (g := gb441) (o := .cells #[.int .i64 a0_0, .int .i64 a0_1, .int .i64 a0_2, .int .i64 a0_3] 23 (0, 0)) (by refine bs_ ?_; exact BK441.out)) : gb441 ≠ gb442)); have n6_ := Aside0.mk ((by rw [hg]; exact Nat.ne_of_gt (blk_lt (g := gb441) (o := .cells #[.int .i64 a0_0, .int .i64 a0_1, .int .i64 a0_2, .int .i64 a0_3] 23 (0, 0)) (by refine bs_ ?_; exact BK441.out)) : gb442 ≠ gb441)); clear BK441; clear HB; have BK441 := n0_; have HB := n1_; have BK442 := n2_; have GW442 := n3_; have GE442 := n4_; have NB441_442 := n5_; have NB442_441 := n6_; clear n0_ n1_ n2_ n3_ n4_ n5_ n6_; clear hb hbox hg; have hnb6 := NB441_442.out; have hnc6 := NB442_441.out; have hcz7_0 : w5.cell? ⟨gb441, 0, none⟩ = some (.int .i64 a0_0) := (blk_cell BK441.out 0).trans rfl; have hcz7_1 : w5.cell? ⟨gb441, 1, none⟩ = some (.int .i64 a0_1) := (blk_cell BK441.out 1).trans rfl; have hcz7_2 : w5.cell? ⟨gb441, 2, none⟩ = some (.int .i64 a0_2) := (blk_cell BK441.out 2).trans rfl; have hcz7_3 : w5.cell? ⟨gb441, 3, none⟩ = some (.int .i64 a0_3) := (blk_cell BK441.out 3).trans rfl; have hfz7_0 := blk_frozen BK441.out 0; have hfz7_1 := blk_frozen BK441.out 1; have hfz7_2 := blk_frozen BK441.out 2; have hfz7_3 := blk_frozen BK441.out 3) | (go_at_call 27; (with_reducible refine (clocheref01_IsQuad.calls k a0_0 a0_1 a0_2 a0_3 true _ A2.out).mono ?_); rintro e w8 ⟨rfl, hb⟩; have n0_ := Aside0.mk (blk_below (g := gb441) (o := .cells #[.int .i64 a0_0, .int .i64 a0_1, .int .i64 a0_2, .int .i64 a0_3] 23 (0, 0)) (by refine bs_ ?_; exact BK441.out) hb); have n1_ := Aside0.mk (blk_below (g := gb442) (o := .cells #[.int .i64 0, .int .i64 0, .int .i64 0, .int .i64 0] 23 (0, 0)) (by refine bs_ ?_; exact BK442.out) hb); have n2_ := Aside0.mk (below_step (by repeat (first | (with_reducible first | exact HB.out | apply below_alloc | apply pw_below_drewN | apply below_drew1 | refine below_set ?_ GE441.out | refine below_set ?_ GE442.out) | exact HB.out)) hb); clear BK441; clear BK442; clear HB; have BK441 := n0_; have BK442 := n1_; have HB := n2_; clear n0_ n1_ n2_; (try clear hb); (try clear hb2); (try clear hk); (try clear hi)))
  repeat (go_quiet (first | ((with_reducible refine gate_dst (N := 1) rfl ?_); refine box_event ?hg (N := 1) ?hd (cs := #[.int .i64 a0_0, .int .i64 a0_1, .int .i64 a0_2, .int .i64 a0_3]) (t := 23) ?hr ?_; (case hd => rfl); (case hg => rfl); (case hr => exact gs_); intro gb441 hg w4 hbox hb; have n0_ := Aside0.mk (below_step (lw_ HB.out) hb); have n1_ := Aside0.mk (hbox); have n2_ := Aside0.mk ((by rw [hg]; exact (below_size (lw_ HB.out)) : w.heap.size ≤ gb441)); have n3_ := Aside0.mk ((by rw [hg]; exact (below_size (lw_ HB.out)) : w.heap.size ≤ gb441)); clear HB; have HB := n0_; have BK441 := n1_; have GW441 := n2_; have GE441 := n3_; clear n0_ n1_ n2_ n3_; clear hb hbox hg) | ((with_reducible refine gate_dst (N := 2) rfl ?_); refine box_event ?hg (N := 2) ?hd (cs := #[.int .i64 0, .int .i64 0, .int .i64 0, .int .i64 0]) (t := 23) ?hr ?_; (case hd => rfl); (case hg => rfl); (case hr => exact gs_); intro gb442 hg w5 hbox hb; have n0_ := Aside0.mk (blk_below (g := gb441) (o := .cells #[.int .i64 a0_0, .int .i64 a0_1, .int .i64 a0_2, .int .i64 a0_3] 23 (0, 0)) (by refine bs_ ?_; exact BK441.out) hb); have n1_ := Aside0.mk (below_step (by repeat (first | (with_reducible first | exact HB.out | apply below_alloc | apply pw_below_drewN | apply below_drew1 | refine below_set ?_ GE441.out) | exact HB.out)) hb); have n2_ := Aside0.mk (hbox); have n3_ := Aside0.mk ((by rw [hg]; exact (below_size (by repeat (first | (with_reducible first | exact HB.out | apply below_alloc | apply pw_below_drewN | apply below_drew1 | refine below_set ?_ GE441.out) | exact HB.out))) : w.heap.size ≤ gb442)); have n4_ := Aside0.mk ((by rw [hg]; exact (below_size (by repeat (first | (with_reducible first | exact HB.out | apply below_alloc | apply pw_below_drewN | apply below_drew1 | refine below_set ?_ GE441.out) | exact HB.out))) : w.heap.size ≤ gb442)); have n5_ := Aside0.mk ((by rw [hg]; exact Nat.ne_of_lt (blk_lt (g := gb441) (o := .cells #[.int .i64 a0_0, .int .i64 a0_1, .int .i64 a0_2, .int .i64 a0_3] 23 (0, 0)) (by refine bs_ ?_; exact BK441.out)) : gb441 ≠ gb442)); have n6_ := Aside0.mk ((by rw [hg]; exact Nat.ne_of_gt (blk_lt (g := gb441) (o := .cells #[.int .i64 a0_0, .int .i64 a0_1, .int .i64 a0_2, .int .i64 a0_3] 23 (0, 0)) (by refine bs_ ?_; exact BK441.out)) : gb442 ≠ gb441)); clear BK441; clear HB; have BK441 := n0_; have HB := n1_; have BK442 := n2_; have GW442 := n3_; have GE442 := n4_; have NB441_442 := n5_; have NB442_441 := n6_; clear n0_ n1_ n2_ n3_ n4_ n5_ n6_; clear hb hbox hg; have hnb6 := NB441_442.out; have hnc6 := NB442_441.out; have hcz7_0 : w5.cell? ⟨gb441, 0, none⟩ = some (.int .i64 a0_0) := (blk_cell BK441.out 0).trans rfl; have hcz7_1 : w5.cell? ⟨gb441, 1, none⟩ = some (.int .i64 a0_1) := (blk_cell BK441.out 1).trans rfl; have hcz7_2 : w5.cell? ⟨gb441, 2, none⟩ = some (.int .i64 a0_2) := (blk_cell BK441.out 2).trans rfl; have hcz7_3 : w5.cell? ⟨gb441, 3, none⟩ = some (.int .i64 a0_3) := (blk_cell BK441.out 3).trans rfl; have hfz7_0 := blk_frozen BK441.out 0; have hfz7_1 := blk_frozen BK441.out 1; have hfz7_2 := blk_frozen BK441.out 2; have hfz7_3 := blk_frozen BK441.out 3) | (go_at_call 27; (with_reducible refine (clocheref01_IsQuad.calls k a0_0 a0_1 a0_2 a0_3 true _ A2.out).mono ?_); rintro e w8 ⟨rfl, hb⟩; have n0_ := Aside0.mk (blk_below (g := gb441) (o := .cells #[.int .i64 a0_0, .int .i64 a0_1, .int .i64 a0_2, .int .i64 a0_3] 23 (0, 0)) (by refine bs_ ?_; exact BK441.out) hb); have n1_ := Aside0.mk (blk_below (g := gb442) (o := .cells #[.int .i64 0, .int .i64 0, .int .i64 0, .int .i64 0] 23 (0, 0)) (by refine bs_ ?_; exact BK442.out) hb); have n2_ := Aside0.mk (below_step (by repeat (first | (with_reducible first | exact HB.out | apply below_alloc | apply pw_below_drewN | apply below_drew1 | refine below_set ?_ GE441.out | refine below_set ?_ GE442.out) | exact HB.out)) hb); clear BK441; clear BK442; clear HB; have BK441 := n0_; have BK442 := n1_; have HB := n2_; clear n0_ n1_ n2_; (try clear hb); (try clear hb2); (try clear hk); (try clear hi))); try go_wp2_with (first | ((with_reducible refine gate_dst (N := 1) rfl ?_); refine box_event ?hg (N := 1) ?hd (cs := #[.int .i64 a0_0, .int .i64 a0_1, .int .i64 a0_2, .int .i64 a0_3]) (t := 23) ?hr ?_; (case hd => rfl); (case hg => rfl); (case hr => exact gs_); intro gb441 hg w4 hbox hb; have n0_ := Aside0.mk (below_step (lw_ HB.out) hb); have n1_ := Aside0.mk (hbox); have n2_ := Aside0.mk ((by rw [hg]; exact (below_size (lw_ HB.out)) : w.heap.size ≤ gb441)); have n3_ := Aside0.mk ((by rw [hg]; exact (below_size (lw_ HB.out)) : w.heap.size ≤ gb441)); clear HB; have HB := n0_; have BK441 := n1_; have GW441 := n2_; have GE441 := n3_; clear n0_ n1_ n2_ n3_; clear hb hbox hg) | ((with_reducible refine gate_dst (N := 2) rfl ?_); refine box_event ?hg (N := 2) ?hd (cs := #[.int .i64 0, .int .i64 0, .int .i64 0, .int .i64 0]) (t := 23) ?hr ?_; (case hd => rfl); (case hg => rfl); (case hr => exact gs_); intro gb442 hg w5 hbox hb; have n0_ := Aside0.mk (blk_below (g := gb441) (o := .cells #[.int .i64 a0_0, .int .i64 a0_1, .int .i64 a0_2, .int .i64 a0_3] 23 (0, 0)) (by refine bs_ ?_; exact BK441.out) hb); have n1_ := Aside0.mk (below_step (by repeat (first | (with_reducible first | exact HB.out | apply below_alloc | apply pw_below_drewN | apply below_drew1 | refine below_set ?_ GE441.out) | exact HB.out)) hb); have n2_ := Aside0.mk (hbox); have n3_ := Aside0.mk ((by rw [hg]; exact (below_size (by repeat (first | (with_reducible first | exact HB.out | apply below_alloc | apply pw_below_drewN | apply below_drew1 | refine below_set ?_ GE441.out) | exact HB.out))) : w.heap.size ≤ gb442)); have n4_ := Aside0.mk ((by rw [hg]; exact (below_size (by repeat (first | (with_reducible first | exact HB.out | apply below_alloc | apply pw_below_drewN | apply below_drew1 | refine below_set ?_ GE441.out) | exact HB.out))) : w.heap.size ≤ gb442)); have n5_ := Aside0.mk ((by rw [hg]; exact Nat.ne_of_lt (blk_lt (g := gb441) (o := .cells #[.int .i64 a0_0, .int .i64 a0_1, .int .i64 a0_2, .int .i64 a0_3] 23 (0, 0)) (by refine bs_ ?_; exact BK441.out)) : gb441 ≠ gb442)); have n6_ := Aside0.mk ((by rw [hg]; exact Nat.ne_of_gt (blk_lt (g := gb441) (o := .cells #[.int .i64 a0_0, .int .i64 a0_1, .int .i64 a0_2, .int .i64 a0_3] 23 (0, 0)) (by refine bs_ ?_; exact BK441.out)) : gb442 ≠ gb441)); clear BK441; clear HB; have BK441 := n0_; have HB := n1_; have BK442 := n2_; have GW442 := n3_; have GE442 := n4_; have NB441_442 := n5_; have NB442_441 := n6_; clear n0_ n1_ n2_ n3_ n4_ n5_ n6_; clear hb hbox hg; have hnb6 := NB441_442.out; have hnc6 := NB442_441.out; have hcz7_0 : w5.cell? ⟨gb441, 0, none⟩ = some (.int .i64 a0_0) := (blk_cell BK441.out 0).trans rfl; have hcz7_1 : w5.cell? ⟨gb441, 1, none⟩ = some (.int .i64 a0_1) := (blk_cell BK441.out 1).trans rfl; have hcz7_2 : w5.cell? ⟨gb441, 2, none⟩ = some (.int .i64 a0_2) := (blk_cell BK441.out 2).trans rfl; have hcz7_3 : w5.cell? ⟨gb441, 3, none⟩ = some (.int .i64 a0_3) := (blk_cell BK441.out 3).trans rfl; have hfz7_0 := blk_frozen BK441.out 0; have hfz7_1 := blk_frozen BK441.out 1; have hfz7_2 := blk_frozen BK441.out 2; have hfz7_3 := blk_frozen BK441.out 3) | (go_at_call 27; (with_reducible refine (clocheref01_IsQuad.calls k a0_0 a0_1 a0_2 a0_3 true _ A2.out).mono ?_); rintro e w8 ⟨rfl, hb⟩; have n0_ := Aside0.mk (blk_below (g := gb441) (o := .cells #[.int .i64 a0_0, .int .i64 a0_1, .int .i64 a0_2, .int .i64 a0_3] 23 (0, 0)) (by refine bs_ ?_; exact BK441.out) hb); have n1_ := Aside0.mk (blk_below (g := gb442) (o := .cells #[.int .i64 0, .int .i64 0, .int .i64 0, .int .i64 0] 23 (0, 0)) (by refine bs_ ?_; exact BK442.out) hb); have n2_ := Aside0.mk (below_step (by repeat (first | (with_reducible first | exact HB.out | apply below_alloc | apply pw_below_drewN | apply below_drew1 | refine below_set ?_ GE441.out | refine below_set ?_ GE442.out) | exact HB.out)) hb); clear BK441; clear BK442; clear HB; have BK441 := n0_; have BK442 := n1_; have HB := n2_; clear n0_ n1_ n2_; (try clear hb); (try clear hb2); (try clear hk); (try clear hi))))
  go_loopg [5] k (fun kq v5 w' => ∃ (x5_1 : Int) (x442000_1 : Int) (x442001_1 : Int) (x442002_1 : Int) (x442003_1 : Int) (x443000_1 : Int) (x443001_1 : Int) (x443002_1 : Int) (x443003_1 : Int), v5 = .int .i64 x5_1 ∧ Aside0 (clocheref01_Root.l0 kq x5_1 x442000_1 x442001_1 x442002_1 x442003_1 = some (r1, r2, r3, r4, r5, r6)) ∧ Aside0 (kq ≤ k) ∧ Aside0 (w'.heap[gb441]? = some (.cells #[.int .i64 x442000_1, .int .i64 x442001_1, .int .i64 x442002_1, .int .i64 x442003_1] 23 (0, 0))) ∧ Aside0 (w'.heap[gb442]? = some (.cells #[.int .i64 x443000_1, .int .i64 x443001_1, .int .i64 x443002_1, .int .i64 x443003_1] 23 (0, 0))) ∧ Aside0 (Below w.heap.size w w'))
  case atStart => exact ⟨(0), (a0_0), (a0_1), (a0_2), (a0_3), (0), (0), (0), (0), eq_, H', ⟨Nat.le_refl _⟩, ⟨by refine bs_ ?_; exact BK441.out⟩, ⟨by refine bs_ ?_; exact BK442.out⟩, ⟨by repeat (first | (with_reducible first | exact HB.out | apply below_alloc | apply pw_below_drewN | apply below_drew1 | refine below_set ?_ GE441.out | refine below_set ?_ GE442.out) | exact HB.out)⟩⟩
  case round =>
   clear H'
   try clear c1
   try clear p2
   try clear c3
   try clear c6
   try clear hcz7_0
   try clear hcz7_1
   try clear hcz7_2
   try clear hcz7_3
   try clear hfz7_0
   try clear hfz7_1
   try clear hfz7_2
   try clear hfz7_3
   obtain ⟨x5_1, x442000_1, x442001_1, x442002_1, x442003_1, x443000_1, x443001_1, x443002_1, x443003_1, rfl, HA, HK1, BK441, BK442, HB⟩ := hrel
   cases gk with
   | zero => exact absurd HA.out (by simp [clocheref01_Root.l0])
   | succ k1 =>
    have H := HA.out
    clear HA
    simp only [clocheref01_Root.l0] at H
    have H' := Aside0.mk H
    clear H
    go_wp2
    repeat (go_quiet (fail); try go_wp2)
    go_loopg [6, 7] k1 (fun kq v6 v7 w' => ∃ (x6_2 : Int) (x7_2 : Int), v6 = .int .i64 x6_2 ∧ v7 = .int .i64 x7_2 ∧ Aside0 (clocheref01_Root.l1 kq x5_1 x6_2 x7_2 x442000_1 x442001_1 x442002_1 x442003_1 = some (r1, r2, r3, r4, r5, r6)) ∧ Aside0 (kq ≤ k1) ∧ Aside0 (w'.heap[gb441]? = some (.cells #[.int .i64 x442000_1, .int .i64 x442001_1, .int .i64 x442002_1, .int .i64 x442003_1] 23 (0, 0))) ∧ Aside0 (w'.heap[gb442]? = some (.cells #[.int .i64 x443000_1, .int .i64 x443001_1, .int .i64 x443002_1, .int .i64 x443003_1] 23 (0, 0))) ∧ Aside0 (Below w.heap.size w w'))
    case atStart => exact ⟨(0), (1), eq_, eq_, H', ⟨Nat.le_refl _⟩, ⟨by refine bs_ ?_; exact BK441.out⟩, ⟨by refine bs_ ?_; exact BK442.out⟩, ⟨by repeat (first | (with_reducible first | exact HB.out | apply below_alloc | apply pw_below_drewN | apply below_drew1 | refine below_set ?_ GE441.out | refine below_set ?_ GE442.out) | exact HB.out)⟩⟩
    case round =>
     clear H'
     try clear c1
     try clear p2
     try clear c3
     try clear c6
     try clear hcz7_0
     try clear hcz7_1
     try clear hcz7_2
     try clear hcz7_3
     try clear hfz7_0
     try clear hfz7_1
     try clear hfz7_2
     try clear hfz7_3
     try clear p2
     obtain ⟨x6_2, x7_2, rfl, rfl, HA, HK2, BK441, BK442, HB⟩ := hrel
     cases gk with
     | zero => exact absurd HA.out (by simp [clocheref01_Root.l1])
     | succ k2 =>
      have H := HA.out
      clear HA
      simp only [clocheref01_Root.l1] at H
      by_cases c9 : x7_2 < 4
      ·rw [if_pos c9] at H
       have c9b0 : decide (x7_2 < 4) = true := decide_eq_true c9
       clear c9
       by_cases c10 : 0 ≤ x7_2
       ·rw [if_pos c10] at H
        have c10b0 : decide (0 ≤ x7_2) = true := decide_eq_true c10
        clear c10
        by_cases c11 : 0 ≤ x6_2
        ·rw [if_pos c11] at H
         have c11b0 : decide (0 ≤ x6_2) = true := decide_eq_true c11
         clear c11
         by_cases c12 : x6_2 < 4
         ·rw [if_pos c12] at H
          have c12b0 : decide (x6_2 < 4) = true := decide_eq_true c12
          clear c12
          by_cases c13 : (at4 x442000_1 x442001_1 x442002_1 x442003_1 x7_2) ≥ (at4 x442000_1 x442001_1 x442002_1 x442003_1 x6_2)
          ·rw [if_pos c13] at H
           have c13b0 : decide ((at4 x442000_1 x442001_1 x442002_1 x442003_1 x6_2) ≤ (at4 x442000_1 x442001_1 x442002_1 x442003_1 x7_2)) = true := decide_eq_true c13
           clear c13
           have H' := Aside0.mk H
           clear H
           have hnb15 := NB441_442.out
           have hnc15 := NB442_441.out
           have hcz16_0 : wr.cell? ⟨gb441, 0, none⟩ = some (.int .i64 x442000_1) := (blk_cell BK441.out 0).trans rfl
           have hcz16_1 : wr.cell? ⟨gb441, 1, none⟩ = some (.int .i64 x442001_1) := (blk_cell BK441.out 1).trans rfl
           have hcz16_2 : wr.cell? ⟨gb441, 2, none⟩ = some (.int .i64 x442002_1) := (blk_cell BK441.out 2).trans rfl
           have hcz16_3 : wr.cell? ⟨gb441, 3, none⟩ = some (.int .i64 x442003_1) := (blk_cell BK441.out 3).trans rfl
           have hfz16_0 := blk_frozen BK441.out 0
           have hfz16_1 := blk_frozen BK441.out 1
           have hfz16_2 := blk_frozen BK441.out 2
           have hfz16_3 := blk_frozen BK441.out 3
           have pdy14 : 0 ≤ (x7_2 : Int) := of_decide_eq_true as_
           have qdy14 : (x7_2 : Int) < 4 := of_decide_eq_true as_
           replace pdy14 := eq_true pdy14
           replace qdy14 := eq_true qdy14
           have hxdy14 : wr.cell? ⟨gb441, (x7_2 : Int).toNat, none⟩ = some (.int .i64 (at4 x442000_1 x442001_1 x442002_1 x442003_1 x7_2)) := blk_at4 BK441.out (of_eq_true pdy14) (of_eq_true qdy14)
           have hfdy14 := blk_frozen BK441.out (x7_2 : Int).toNat
           have pdy17 : 0 ≤ (x6_2 : Int) := of_decide_eq_true as_
           have qdy17 : (x6_2 : Int) < 4 := of_decide_eq_true as_
           replace pdy17 := eq_true pdy17
           replace qdy17 := eq_true qdy17
           have hxdy17 : wr.cell? ⟨gb441, (x6_2 : Int).toNat, none⟩ = some (.int .i64 (at4 x442000_1 x442001_1 x442002_1 x442003_1 x6_2)) := blk_at4 BK441.out (of_eq_true pdy17) (of_eq_true qdy17)
           have hfdy17 := blk_frozen BK441.out (x6_2 : Int).toNat
           go_wp2
           repeat (go_quiet (fail); try go_wp2)
           go_roundg k2
           case measure => have := HK1.out; have := HK2.out; omega
           case rel => exact ⟨(x7_2), (wrap64 (x7_2 + 1)), eq_, eq_, H', ⟨by have := HK1.out; have := HK2.out; omega⟩, ⟨by refine bs_ ?_; exact BK441.out⟩, ⟨by refine bs_ ?_; exact BK442.out⟩, ⟨by repeat (first | (with_reducible first | exact HB.out | apply below_alloc | apply pw_below_drewN | apply below_drew1 | refine below_set ?_ GE441.out | refine below_set ?_ GE442.out) | exact HB.out)⟩⟩
          ·rw [if_neg c13] at H
           have c13b0 : decide ((at4 x442000_1 x442001_1 x442002_1 x442003_1 x6_2) ≤ (at4 x442000_1 x442001_1 x442002_1 x442003_1 x7_2)) = false := decide_eq_false c13
           clear c13
           have H' := Aside0.mk H
           clear H
           have hnb19 := NB441_442.out
           have hnc19 := NB442_441.out
           have hcz20_0 : wr.cell? ⟨gb441, 0, none⟩ = some (.int .i64 x442000_1) := (blk_cell BK441.out 0).trans rfl
           have hcz20_1 : wr.cell? ⟨gb441, 1, none⟩ = some (.int .i64 x442001_1) := (blk_cell BK441.out 1).trans rfl
           have hcz20_2 : wr.cell? ⟨gb441, 2, none⟩ = some (.int .i64 x442002_1) := (blk_cell BK441.out 2).trans rfl
           have hcz20_3 : wr.cell? ⟨gb441, 3, none⟩ = some (.int .i64 x442003_1) := (blk_cell BK441.out 3).trans rfl
           have hfz20_0 := blk_frozen BK441.out 0
           have hfz20_1 := blk_frozen BK441.out 1
           have hfz20_2 := blk_frozen BK441.out 2
           have hfz20_3 := blk_frozen BK441.out 3
           have pdy18 : 0 ≤ (x7_2 : Int) := of_decide_eq_true as_
           have qdy18 : (x7_2 : Int) < 4 := of_decide_eq_true as_
           replace pdy18 := eq_true pdy18
           replace qdy18 := eq_true qdy18
           have hxdy18 : wr.cell? ⟨gb441, (x7_2 : Int).toNat, none⟩ = some (.int .i64 (at4 x442000_1 x442001_1 x442002_1 x442003_1 x7_2)) := blk_at4 BK441.out (of_eq_true pdy18) (of_eq_true qdy18)
           have hfdy18 := blk_frozen BK441.out (x7_2 : Int).toNat
           have pdy21 : 0 ≤ (x6_2 : Int) := of_decide_eq_true as_
           have qdy21 : (x6_2 : Int) < 4 := of_decide_eq_true as_
           replace pdy21 := eq_true pdy21
           replace qdy21 := eq_true qdy21
           have hxdy21 : wr.cell? ⟨gb441, (x6_2 : Int).toNat, none⟩ = some (.int .i64 (at4 x442000_1 x442001_1 x442002_1 x442003_1 x6_2)) := blk_at4 BK441.out (of_eq_true pdy21) (of_eq_true qdy21)
           have hfdy21 := blk_frozen BK441.out (x6_2 : Int).toNat
           go_wp2
           repeat (go_quiet (fail); try go_wp2)
           go_roundg k2
           case measure => have := HK1.out; have := HK2.out; omega
           case rel => exact ⟨(x6_2), (wrap64 (x7_2 + 1)), eq_, eq_, H', ⟨by have := HK1.out; have := HK2.out; omega⟩, ⟨by refine bs_ ?_; exact BK441.out⟩, ⟨by refine bs_ ?_; exact BK442.out⟩, ⟨by repeat (first | (with_reducible first | exact HB.out | apply below_alloc | apply pw_below_drewN | apply below_drew1 | refine below_set ?_ GE441.out | refine below_set ?_ GE442.out) | exact HB.out)⟩⟩
         ·rw [if_neg c12] at H
          exact absurd H (by simp)
        ·rw [if_neg c11] at H
         exact absurd H (by simp)
       ·rw [if_neg c10] at H
        exact absurd H (by simp)
      ·rw [if_neg c9] at H
       have c9b0 : decide (x7_2 < 4) = false := decide_eq_false c9
       clear c9
       replace H := Option.bind_eq_some_iff.mp H
       obtain ⟨t444, A220, H⟩ := H
       replace H : (if 0 ≤ x6_2 then (if x6_2 < 4 then (if t444 ≥ (at4 x442000_1 x442001_1 x442002_1 x442003_1 x6_2) then ((clocheref01_Sorted.f k2 x442000_1 x442001_1 x442002_1 x442003_1).bind fun bt445 => (some (bt445.1, bt445.2.1, bt445.2.2.1, bt445.2.2.2, x5_1, 0))) else (clocheref01_Root.l0 k2 (wrap64 (x5_1 + 1)) (pt4 0 x442000_1 x6_2 t444) (pt4 1 x442001_1 x6_2 t444) (pt4 2 x442002_1 x6_2 t444) (pt4 3 x442003_1 x6_2 t444))) else (none)) else (none)) = some (r1, r2, r3, r4, r5, r6) := H
       have A22 := Aside0.mk A220
       clear A220
       by_cases c23 : 0 ≤ x6_2
       ·rw [if_pos c23] at H
        have c23b0 : decide (0 ≤ x6_2) = true := decide_eq_true c23
        clear c23
        by_cases c24 : x6_2 < 4
        ·rw [if_pos c24] at H
         have c24b0 : decide (x6_2 < 4) = true := decide_eq_true c24
         clear c24
         by_cases c25 : t444 ≥ (at4 x442000_1 x442001_1 x442002_1 x442003_1 x6_2)
         ·rw [if_pos c25] at H
          have c25b0 : decide ((at4 x442000_1 x442001_1 x442002_1 x442003_1 x6_2) ≤ t444) = true := decide_eq_true c25
          clear c25
          replace H := Option.bind_eq_some_iff.mp H
          obtain ⟨⟨t445, t446, t447, t448⟩, A260, H⟩ := H
          replace H : (some (t445, t446, t447, t448, x5_1, 0)) = some (r1, r2, r3, r4, r5, r6) := H
          have A26 := Aside0.mk A260
          clear A260
          simp only [Option.some.injEq, Prod.mk.injEq] at H
          obtain ⟨rfl, rfl, rfl, rfl, rfl, rfl⟩ := H
          have hnb27 := NB441_442.out
          have hnc27 := NB442_441.out
          have hcz28_0 : wr.cell? ⟨gb441, 0, none⟩ = some (.int .i64 x442000_1) := (blk_cell BK441.out 0).trans rfl
          have hcz28_1 : wr.cell? ⟨gb441, 1, none⟩ = some (.int .i64 x442001_1) := (blk_cell BK441.out 1).trans rfl
          have hcz28_2 : wr.cell? ⟨gb441, 2, none⟩ = some (.int .i64 x442002_1) := (blk_cell BK441.out 2).trans rfl
          have hcz28_3 : wr.cell? ⟨gb441, 3, none⟩ = some (.int .i64 x442003_1) := (blk_cell BK441.out 3).trans rfl
          have hfz28_0 := blk_frozen BK441.out 0
          have hfz28_1 := blk_frozen BK441.out 1
          have hfz28_2 := blk_frozen BK441.out 2
          have hfz28_3 := blk_frozen BK441.out 3
          go_wp2_with (first | (go_at_call 31; (with_reducible refine (clocheref01_Turned.calls k2 x442000_1 x442001_1 x442002_1 x442003_1 x6_2 t444 _ A22.out).mono ?_); rintro e w29 ⟨rfl, hb⟩; have n0_ := Aside0.mk (blk_below (g := gb441) (o := .cells #[.int .i64 x442000_1, .int .i64 x442001_1, .int .i64 x442002_1, .int .i64 x442003_1] 23 (0, 0)) (by refine bs_ ?_; exact BK441.out) hb); have n1_ := Aside0.mk (blk_below (g := gb442) (o := .cells #[.int .i64 x443000_1, .int .i64 x443001_1, .int .i64 x443002_1, .int .i64 x443003_1] 23 (0, 0)) (by refine bs_ ?_; exact BK442.out) hb); have n2_ := Aside0.mk (below_step (by repeat (first | (with_reducible first | exact HB.out | apply below_alloc | apply pw_below_drewN | apply below_drew1 | refine below_set ?_ GE441.out | refine below_set ?_ GE442.out) | exact HB.out)) hb); clear BK441; clear BK442; clear HB; have BK441 := n0_; have BK442 := n1_; have HB := n2_; clear n0_ n1_ n2_; (try clear hb); (try clear hb2); (try clear hk); (try clear hi); have hcz31_0 : w29.cell? ⟨gb441, 0, none⟩ = some (.int .i64 x442000_1) := (blk_cell BK441.out 0).trans rfl; have hcz31_1 : w29.cell? ⟨gb441, 1, none⟩ = some (.int .i64 x442001_1) := (blk_cell BK441.out 1).trans rfl; have hcz31_2 : w29.cell? ⟨gb441, 2, none⟩ = some (.int .i64 x442002_1) := (blk_cell BK441.out 2).trans rfl; have hcz31_3 : w29.cell? ⟨gb441, 3, none⟩ = some (.int .i64 x442003_1) := (blk_cell BK441.out 3).trans rfl; have hfz31_0 := blk_frozen BK441.out 0; have hfz31_1 := blk_frozen BK441.out 1; have hfz31_2 := blk_frozen BK441.out 2; have hfz31_3 := blk_frozen BK441.out 3; have pdy30 : 0 ≤ (x6_2 : Int) := of_decide_eq_true as_; have qdy30 : (x6_2 : Int) < 4 := of_decide_eq_true as_; replace pdy30 := eq_true pdy30; replace qdy30 := eq_true qdy30; have hxdy30 : w29.cell? ⟨gb441, (x6_2 : Int).toNat, none⟩ = some (.int .i64 (at4 x442000_1 x442001_1 x442002_1 x442003_1 x6_2)) := blk_at4 BK441.out (of_eq_true pdy30) (of_eq_true qdy30); have hfdy30 := blk_frozen BK441.out (x6_2 : Int).toNat) | (go_at_call 32; (with_reducible refine (clocheref01_Sorted.calls k2 x442000_1 x442001_1 x442002_1 x442003_1 t445 t446 t447 t448 _ A26.out).mono ?_); rintro e w32 ⟨rfl, hb⟩; have n0_ := Aside0.mk (blk_below (g := gb441) (o := .cells #[.int .i64 x442000_1, .int .i64 x442001_1, .int .i64 x442002_1, .int .i64 x442003_1] 23 (0, 0)) (by refine bs_ ?_; exact BK441.out) hb); have n1_ := Aside0.mk (blk_below (g := gb442) (o := .cells #[.int .i64 x443000_1, .int .i64 x443001_1, .int .i64 x443002_1, .int .i64 x443003_1] 23 (0, 0)) (by refine bs_ ?_; exact BK442.out) hb); have n2_ := Aside0.mk (below_step (by repeat (first | (with_reducible first | exact HB.out | apply below_alloc | apply pw_below_drewN | apply below_drew1 | refine below_set ?_ GE441.out | refine below_set ?_ GE442.out) | exact HB.out)) hb); clear BK441; clear BK442; clear HB; have BK441 := n0_; have BK442 := n1_; have HB := n2_; clear n0_ n1_ n2_; (try clear hb); (try clear hb2); (try clear hk); (try clear hi); have hcz33_0 : w32.cell? ⟨gb442, 0, none⟩ = some (.int .i64 x443000_1) := (blk_cell BK442.out 0).trans rfl; have hcz33_1 : w32.cell? ⟨gb442, 1, none⟩ = some (.int .i64 x443001_1) := (blk_cell BK442.out 1).trans rfl; have hcz33_2 : w32.cell? ⟨gb442, 2, none⟩ = some (.int .i64 x443002_1) := (blk_cell BK442.out 2).trans rfl; have hcz33_3 : w32.cell? ⟨gb442, 3, none⟩ = some (.int .i64 x443003_1) := (blk_cell BK442.out 3).trans rfl; have hfz33_0 := blk_frozen BK442.out 0; have hfz33_1 := blk_frozen BK442.out 1; have hfz33_2 := blk_frozen BK442.out 2; have hfz33_3 := blk_frozen BK442.out 3))
          repeat (go_quiet (first | (go_at_call 31; (with_reducible refine (clocheref01_Turned.calls k2 x442000_1 x442001_1 x442002_1 x442003_1 x6_2 t444 _ A22.out).mono ?_); rintro e w29 ⟨rfl, hb⟩; have n0_ := Aside0.mk (blk_below (g := gb441) (o := .cells #[.int .i64 x442000_1, .int .i64 x442001_1, .int .i64 x442002_1, .int .i64 x442003_1] 23 (0, 0)) (by refine bs_ ?_; exact BK441.out) hb); have n1_ := Aside0.mk (blk_below (g := gb442) (o := .cells #[.int .i64 x443000_1, .int .i64 x443001_1, .int .i64 x443002_1, .int .i64 x443003_1] 23 (0, 0)) (by refine bs_ ?_; exact BK442.out) hb); have n2_ := Aside0.mk (below_step (by repeat (first | (with_reducible first | exact HB.out | apply below_alloc | apply pw_below_drewN | apply below_drew1 | refine below_set ?_ GE441.out | refine below_set ?_ GE442.out) | exact HB.out)) hb); clear BK441; clear BK442; clear HB; have BK441 := n0_; have BK442 := n1_; have HB := n2_; clear n0_ n1_ n2_; (try clear hb); (try clear hb2); (try clear hk); (try clear hi); have hcz31_0 : w29.cell? ⟨gb441, 0, none⟩ = some (.int .i64 x442000_1) := (blk_cell BK441.out 0).trans rfl; have hcz31_1 : w29.cell? ⟨gb441, 1, none⟩ = some (.int .i64 x442001_1) := (blk_cell BK441.out 1).trans rfl; have hcz31_2 : w29.cell? ⟨gb441, 2, none⟩ = some (.int .i64 x442002_1) := (blk_cell BK441.out 2).trans rfl; have hcz31_3 : w29.cell? ⟨gb441, 3, none⟩ = some (.int .i64 x442003_1) := (blk_cell BK441.out 3).trans rfl; have hfz31_0 := blk_frozen BK441.out 0; have hfz31_1 := blk_frozen BK441.out 1; have hfz31_2 := blk_frozen BK441.out 2; have hfz31_3 := blk_frozen BK441.out 3; have pdy30 : 0 ≤ (x6_2 : Int) := of_decide_eq_true as_; have qdy30 : (x6_2 : Int) < 4 := of_decide_eq_true as_; replace pdy30 := eq_true pdy30; replace qdy30 := eq_true qdy30; have hxdy30 : w29.cell? ⟨gb441, (x6_2 : Int).toNat, none⟩ = some (.int .i64 (at4 x442000_1 x442001_1 x442002_1 x442003_1 x6_2)) := blk_at4 BK441.out (of_eq_true pdy30) (of_eq_true qdy30); have hfdy30 := blk_frozen BK441.out (x6_2 : Int).toNat) | (go_at_call 32; (with_reducible refine (clocheref01_Sorted.calls k2 x442000_1 x442001_1 x442002_1 x442003_1 t445 t446 t447 t448 _ A26.out).mono ?_); rintro e w32 ⟨rfl, hb⟩; have n0_ := Aside0.mk (blk_below (g := gb441) (o := .cells #[.int .i64 x442000_1, .int .i64 x442001_1, .int .i64 x442002_1, .int .i64 x442003_1] 23 (0, 0)) (by refine bs_ ?_; exact BK441.out) hb); have n1_ := Aside0.mk (blk_below (g := gb442) (o := .cells #[.int .i64 x443000_1, .int .i64 x443001_1, .int .i64 x443002_1, .int .i64 x443003_1] 23 (0, 0)) (by refine bs_ ?_; exact BK442.out) hb); have n2_ := Aside0.mk (below_step (by repeat (first | (with_reducible first | exact HB.out | apply below_alloc | apply pw_below_drewN | apply below_drew1 | refine below_set ?_ GE441.out | refine below_set ?_ GE442.out) | exact HB.out)) hb); clear BK441; clear BK442; clear HB; have BK441 := n0_; have BK442 := n1_; have HB := n2_; clear n0_ n1_ n2_; (try clear hb); (try clear hb2); (try clear hk); (try clear hi); have hcz33_0 : w32.cell? ⟨gb442, 0, none⟩ = some (.int .i64 x443000_1) := (blk_cell BK442.out 0).trans rfl; have hcz33_1 : w32.cell? ⟨gb442, 1, none⟩ = some (.int .i64 x443001_1) := (blk_cell BK442.out 1).trans rfl; have hcz33_2 : w32.cell? ⟨gb442, 2, none⟩ = some (.int .i64 x443002_1) := (blk_cell BK442.out 2).trans rfl; have hcz33_3 : w32.cell? ⟨gb442, 3, none⟩ = some (.int .i64 x443003_1) := (blk_cell BK442.out 3).trans rfl; have hfz33_0 := blk_frozen BK442.out 0; have hfz33_1 := blk_frozen BK442.out 1; have hfz33_2 := blk_frozen BK442.out 2; have hfz33_3 := blk_frozen BK442.out 3)); try go_wp2_with (first | (go_at_call 31; (with_reducible refine (clocheref01_Turned.calls k2 x442000_1 x442001_1 x442002_1 x442003_1 x6_2 t444 _ A22.out).mono ?_); rintro e w29 ⟨rfl, hb⟩; have n0_ := Aside0.mk (blk_below (g := gb441) (o := .cells #[.int .i64 x442000_1, .int .i64 x442001_1, .int .i64 x442002_1, .int .i64 x442003_1] 23 (0, 0)) (by refine bs_ ?_; exact BK441.out) hb); have n1_ := Aside0.mk (blk_below (g := gb442) (o := .cells #[.int .i64 x443000_1, .int .i64 x443001_1, .int .i64 x443002_1, .int .i64 x443003_1] 23 (0, 0)) (by refine bs_ ?_; exact BK442.out) hb); have n2_ := Aside0.mk (below_step (by repeat (first | (with_reducible first | exact HB.out | apply below_alloc | apply pw_below_drewN | apply below_drew1 | refine below_set ?_ GE441.out | refine below_set ?_ GE442.out) | exact HB.out)) hb); clear BK441; clear BK442; clear HB; have BK441 := n0_; have BK442 := n1_; have HB := n2_; clear n0_ n1_ n2_; (try clear hb); (try clear hb2); (try clear hk); (try clear hi); have hcz31_0 : w29.cell? ⟨gb441, 0, none⟩ = some (.int .i64 x442000_1) := (blk_cell BK441.out 0).trans rfl; have hcz31_1 : w29.cell? ⟨gb441, 1, none⟩ = some (.int .i64 x442001_1) := (blk_cell BK441.out 1).trans rfl; have hcz31_2 : w29.cell? ⟨gb441, 2, none⟩ = some (.int .i64 x442002_1) := (blk_cell BK441.out 2).trans rfl; have hcz31_3 : w29.cell? ⟨gb441, 3, none⟩ = some (.int .i64 x442003_1) := (blk_cell BK441.out 3).trans rfl; have hfz31_0 := blk_frozen BK441.out 0; have hfz31_1 := blk_frozen BK441.out 1; have hfz31_2 := blk_frozen BK441.out 2; have hfz31_3 := blk_frozen BK441.out 3; have pdy30 : 0 ≤ (x6_2 : Int) := of_decide_eq_true as_; have qdy30 : (x6_2 : Int) < 4 := of_decide_eq_true as_; replace pdy30 := eq_true pdy30; replace qdy30 := eq_true qdy30; have hxdy30 : w29.cell? ⟨gb441, (x6_2 : Int).toNat, none⟩ = some (.int .i64 (at4 x442000_1 x442001_1 x442002_1 x442003_1 x6_2)) := blk_at4 BK441.out (of_eq_true pdy30) (of_eq_true qdy30); have hfdy30 := blk_frozen BK441.out (x6_2 : Int).toNat) | (go_at_call 32; (with_reducible refine (clocheref01_Sorted.calls k2 x442000_1 x442001_1 x442002_1 x442003_1 t445 t446 t447 t448 _ A26.out).mono ?_); rintro e w32 ⟨rfl, hb⟩; have n0_ := Aside0.mk (blk_below (g := gb441) (o := .cells #[.int .i64 x442000_1, .int .i64 x442001_1, .int .i64 x442002_1, .int .i64 x442003_1] 23 (0, 0)) (by refine bs_ ?_; exact BK441.out) hb); have n1_ := Aside0.mk (blk_below (g := gb442) (o := .cells #[.int .i64 x443000_1, .int .i64 x443001_1, .int .i64 x443002_1, .int .i64 x443003_1] 23 (0, 0)) (by refine bs_ ?_; exact BK442.out) hb); have n2_ := Aside0.mk (below_step (by repeat (first | (with_reducible first | exact HB.out | apply below_alloc | apply pw_below_drewN | apply below_drew1 | refine below_set ?_ GE441.out | refine below_set ?_ GE442.out) | exact HB.out)) hb); clear BK441; clear BK442; clear HB; have BK441 := n0_; have BK442 := n1_; have HB := n2_; clear n0_ n1_ n2_; (try clear hb); (try clear hb2); (try clear hk); (try clear hi); have hcz33_0 : w32.cell? ⟨gb442, 0, none⟩ = some (.int .i64 x443000_1) := (blk_cell BK442.out 0).trans rfl; have hcz33_1 : w32.cell? ⟨gb442, 1, none⟩ = some (.int .i64 x443001_1) := (blk_cell BK442.out 1).trans rfl; have hcz33_2 : w32.cell? ⟨gb442, 2, none⟩ = some (.int .i64 x443002_1) := (blk_cell BK442.out 2).trans rfl; have hcz33_3 : w32.cell? ⟨gb442, 3, none⟩ = some (.int .i64 x443003_1) := (blk_cell BK442.out 3).trans rfl; have hfz33_0 := blk_frozen BK442.out 0; have hfz33_1 := blk_frozen BK442.out 1; have hfz33_2 := blk_frozen BK442.out 2; have hfz33_3 := blk_frozen BK442.out 3)))
          refine bodyPost_ret (results_ctt rfl _ _ gb442 23 #[.int .i64 t445, .int .i64 t446, .int .i64 t447, .int .i64 t448] (0, 0) _ rfl (by refine bs_ ?_; refine blk_put (cs := #[.int .i64 t445, .int .i64 t446, .int .i64 t447, .int .i64 x443003_1]) ?_ 3 _ rfl; refine bs_ ?_; refine blk_put (cs := #[.int .i64 t445, .int .i64 t446, .int .i64 x443002_1, .int .i64 x443003_1]) ?_ 2 _ rfl; refine bs_ ?_; refine blk_put (cs := #[.int .i64 t445, .int .i64 x443001_1, .int .i64 x443002_1, .int .i64 x443003_1]) ?_ 1 _ rfl; refine bs_ ?_; refine blk_put (cs := #[.int .i64 x443000_1, .int .i64 x443001_1, .int .i64 x443002_1, .int .i64 x443003_1]) ?_ 0 _ rfl; refine bs_ ?_; exact BK442.out) Try.underlying23 rfl (by kernel_rfl)) rfl ?_
          exact ⟨by first | rfl | (simp [errW_none, errW_some] <;> rfl) | (simp [*, errW_none, errW_some] <;> rfl), by repeat (first | (with_reducible first | exact HB.out | apply below_alloc | apply pw_below_drewN | apply below_drew1 | refine below_set ?_ GE441.out | refine below_set ?_ GE442.out) | exact HB.out)⟩
         ·rw [if_neg c25] at H
          have c25b0 : decide ((at4 x442000_1 x442001_1 x442002_1 x442003_1 x6_2) ≤ t444) = false := decide_eq_false c25
          clear c25
          have H' := Aside0.mk H
          clear H
          have hnb34 := NB441_442.out
          have hnc34 := NB442_441.out
          have hcz35_0 : wr.cell? ⟨gb441, 0, none⟩ = some (.int .i64 x442000_1) := (blk_cell BK441.out 0).trans rfl
          have hcz35_1 : wr.cell? ⟨gb441, 1, none⟩ = some (.int .i64 x442001_1) := (blk_cell BK441.out 1).trans rfl
          have hcz35_2 : wr.cell? ⟨gb441, 2, none⟩ = some (.int .i64 x442002_1) := (blk_cell BK441.out 2).trans rfl
          have hcz35_3 : wr.cell? ⟨gb441, 3, none⟩ = some (.int .i64 x442003_1) := (blk_cell BK441.out 3).trans rfl
          have hfz35_0 := blk_frozen BK441.out 0
          have hfz35_1 := blk_frozen BK441.out 1
          have hfz35_2 := blk_frozen BK441.out 2
          have hfz35_3 := blk_frozen BK441.out 3
          go_wp2_with (first | (go_at_call 31; (with_reducible refine (clocheref01_Turned.calls k2 x442000_1 x442001_1 x442002_1 x442003_1 x6_2 t444 _ A22.out).mono ?_); rintro e w36 ⟨rfl, hb⟩; have n0_ := Aside0.mk (blk_below (g := gb441) (o := .cells #[.int .i64 x442000_1, .int .i64 x442001_1, .int .i64 x442002_1, .int .i64 x442003_1] 23 (0, 0)) (by refine bs_ ?_; exact BK441.out) hb); have n1_ := Aside0.mk (blk_below (g := gb442) (o := .cells #[.int .i64 x443000_1, .int .i64 x443001_1, .int .i64 x443002_1, .int .i64 x443003_1] 23 (0, 0)) (by refine bs_ ?_; exact BK442.out) hb); have n2_ := Aside0.mk (below_step (by repeat (first | (with_reducible first | exact HB.out | apply below_alloc | apply pw_below_drewN | apply below_drew1 | refine below_set ?_ GE441.out | refine below_set ?_ GE442.out) | exact HB.out)) hb); clear BK441; clear BK442; clear HB; have BK441 := n0_; have BK442 := n1_; have HB := n2_; clear n0_ n1_ n2_; (try clear hb); (try clear hb2); (try clear hk); (try clear hi); have hcz38_0 : w36.cell? ⟨gb441, 0, none⟩ = some (.int .i64 x442000_1) := (blk_cell BK441.out 0).trans rfl; have hcz38_1 : w36.cell? ⟨gb441, 1, none⟩ = some (.int .i64 x442001_1) := (blk_cell BK441.out 1).trans rfl; have hcz38_2 : w36.cell? ⟨gb441, 2, none⟩ = some (.int .i64 x442002_1) := (blk_cell BK441.out 2).trans rfl; have hcz38_3 : w36.cell? ⟨gb441, 3, none⟩ = some (.int .i64 x442003_1) := (blk_cell BK441.out 3).trans rfl; have hfz38_0 := blk_frozen BK441.out 0; have hfz38_1 := blk_frozen BK441.out 1; have hfz38_2 := blk_frozen BK441.out 2; have hfz38_3 := blk_frozen BK441.out 3; have pdy37 : 0 ≤ (x6_2 : Int) := of_decide_eq_true as_; have qdy37 : (x6_2 : Int) < 4 := of_decide_eq_true as_; replace pdy37 := eq_true pdy37; replace qdy37 := eq_true qdy37; have hxdy37 : w36.cell? ⟨gb441, (x6_2 : Int).toNat, none⟩ = some (.int .i64 (at4 x442000_1 x442001_1 x442002_1 x442003_1 x6_2)) := blk_at4 BK441.out (of_eq_true pdy37) (of_eq_true qdy37); have hfdy37 := blk_frozen BK441.out (x6_2 : Int).toNat; have pdy39 : 0 ≤ (x6_2 : Int) := of_decide_eq_true as_; have qdy39 : (x6_2 : Int) < 4 := of_decide_eq_true as_; replace pdy39 := eq_true pdy39; replace qdy39 := eq_true qdy39; have hxdy39 : w36.cell? ⟨gb441, (x6_2 : Int).toNat, none⟩ = some (.int .i64 (at4 x442000_1 x442001_1 x442002_1 x442003_1 x6_2)) := blk_at4 BK441.out (of_eq_true pdy39) (of_eq_true qdy39); have hfdy39 := blk_frozen BK441.out (x6_2 : Int).toNat) | ((with_reducible refine gate_store (t := 3) (p := 38) rfl ?_); (try (rw [drewN_self w36]; generalize hq_ : World.drewN w36 _ = w36; have n0_ := Aside0.mk (blk_at hq_ BK441.out); have n1_ := Aside0.mk (blk_at hq_ BK442.out); have n2_ := Aside0.mk (below_at hq_ HB.out); clear hq_ BK441 BK442 HB; have BK441 := n0_; have BK442 := n1_; have HB := n2_; clear n0_ n1_ n2_)); have hxdy39 : w36.cell? ⟨gb441, (x6_2 : Int).toNat, none⟩ = some (.int .i64 (at4 x442000_1 x442001_1 x442002_1 x442003_1 x6_2)) := blk_at4 BK441.out (of_eq_true pdy39) (of_eq_true qdy39); have hfdy39 := blk_frozen BK441.out (x6_2 : Int).toNat; refine store_event (t := 3) (p := 38) (v := ?vo_w40) (w1 := (w36.setCell ⟨gb441, (x6_2 : Int).toNat, none⟩ (.int .i64 t444))) ?hg ?ho ?hn ?hr ?_; (case ho => rfl); (case hg => rfl); (case hn => rfl); (case hr => exact gs_); intro w40 hw; have n0_ : Aside0 (w40.heap[gb441]? = some (.cells #[.int .i64 (pt4 0 x442000_1 x6_2 t444), .int .i64 (pt4 1 x442001_1 x6_2 t444), .int .i64 (pt4 2 x442002_1 x6_2 t444), .int .i64 (pt4 3 x442003_1 x6_2 t444)] 23 (0, 0))) := ⟨(by rw [hw]; exact (by refine bs_ ?_; refine blk_put (cs := #[.int .i64 x442000_1, .int .i64 x442001_1, .int .i64 x442002_1, .int .i64 x442003_1]) ?_ (x6_2 : Int).toNat _ (set4i _ _ _ _ _ _ (of_eq_true pdy39) (of_eq_true qdy39)); refine bs_ ?_; exact BK441.out))⟩; have n1_ : Aside0 (w40.heap[gb442]? = some (.cells #[.int .i64 x443000_1, .int .i64 x443001_1, .int .i64 x443002_1, .int .i64 x443003_1] 23 (0, 0))) := ⟨(by rw [hw]; exact (by refine bs_ ?_; refine blk_far ?_ NB442_441.out _; refine bs_ ?_; exact BK442.out))⟩; have n2_ : Aside0 (Below w.heap.size w w40) := ⟨(by rw [hw]; exact (by repeat (first | (with_reducible first | exact HB.out | apply below_alloc | apply pw_below_drewN | apply below_drew1 | refine below_set ?_ GE441.out | refine below_set ?_ GE442.out) | exact HB.out)))⟩; clear hw; clear BK441; clear BK442; clear HB; have BK441 := n0_; have BK442 := n1_; have HB := n2_; clear n0_ n1_ n2_))
          repeat (go_quiet (first | (go_at_call 31; (with_reducible refine (clocheref01_Turned.calls k2 x442000_1 x442001_1 x442002_1 x442003_1 x6_2 t444 _ A22.out).mono ?_); rintro e w36 ⟨rfl, hb⟩; have n0_ := Aside0.mk (blk_below (g := gb441) (o := .cells #[.int .i64 x442000_1, .int .i64 x442001_1, .int .i64 x442002_1, .int .i64 x442003_1] 23 (0, 0)) (by refine bs_ ?_; exact BK441.out) hb); have n1_ := Aside0.mk (blk_below (g := gb442) (o := .cells #[.int .i64 x443000_1, .int .i64 x443001_1, .int .i64 x443002_1, .int .i64 x443003_1] 23 (0, 0)) (by refine bs_ ?_; exact BK442.out) hb); have n2_ := Aside0.mk (below_step (by repeat (first | (with_reducible first | exact HB.out | apply below_alloc | apply pw_below_drewN | apply below_drew1 | refine below_set ?_ GE441.out | refine below_set ?_ GE442.out) | exact HB.out)) hb); clear BK441; clear BK442; clear HB; have BK441 := n0_; have BK442 := n1_; have HB := n2_; clear n0_ n1_ n2_; (try clear hb); (try clear hb2); (try clear hk); (try clear hi); have hcz38_0 : w36.cell? ⟨gb441, 0, none⟩ = some (.int .i64 x442000_1) := (blk_cell BK441.out 0).trans rfl; have hcz38_1 : w36.cell? ⟨gb441, 1, none⟩ = some (.int .i64 x442001_1) := (blk_cell BK441.out 1).trans rfl; have hcz38_2 : w36.cell? ⟨gb441, 2, none⟩ = some (.int .i64 x442002_1) := (blk_cell BK441.out 2).trans rfl; have hcz38_3 : w36.cell? ⟨gb441, 3, none⟩ = some (.int .i64 x442003_1) := (blk_cell BK441.out 3).trans rfl; have hfz38_0 := blk_frozen BK441.out 0; have hfz38_1 := blk_frozen BK441.out 1; have hfz38_2 := blk_frozen BK441.out 2; have hfz38_3 := blk_frozen BK441.out 3; have pdy37 : 0 ≤ (x6_2 : Int) := of_decide_eq_true as_; have qdy37 : (x6_2 : Int) < 4 := of_decide_eq_true as_; replace pdy37 := eq_true pdy37; replace qdy37 := eq_true qdy37; have hxdy37 : w36.cell? ⟨gb441, (x6_2 : Int).toNat, none⟩ = some (.int .i64 (at4 x442000_1 x442001_1 x442002_1 x442003_1 x6_2)) := blk_at4 BK441.out (of_eq_true pdy37) (of_eq_true qdy37); have hfdy37 := blk_frozen BK441.out (x6_2 : Int).toNat; have pdy39 : 0 ≤ (x6_2 : Int) := of_decide_eq_true as_; have qdy39 : (x6_2 : Int) < 4 := of_decide_eq_true as_; replace pdy39 := eq_true pdy39; replace qdy39 := eq_true qdy39; have hxdy39 : w36.cell? ⟨gb441, (x6_2 : Int).toNat, none⟩ = some (.int .i64 (at4 x442000_1 x442001_1 x442002_1 x442003_1 x6_2)) := blk_at4 BK441.out (of_eq_true pdy39) (of_eq_true qdy39); have hfdy39 := blk_frozen BK441.out (x6_2 : Int).toNat) | ((with_reducible refine gate_store (t := 3) (p := 38) rfl ?_); (try (rw [drewN_self w36]; generalize hq_ : World.drewN w36 _ = w36; have n0_ := Aside0.mk (blk_at hq_ BK441.out); have n1_ := Aside0.mk (blk_at hq_ BK442.out); have n2_ := Aside0.mk (below_at hq_ HB.out); clear hq_ BK441 BK442 HB; have BK441 := n0_; have BK442 := n1_; have HB := n2_; clear n0_ n1_ n2_)); have hxdy39 : w36.cell? ⟨gb441, (x6_2 : Int).toNat, none⟩ = some (.int .i64 (at4 x442000_1 x442001_1 x442002_1 x442003_1 x6_2)) := blk_at4 BK441.out (of_eq_true pdy39) (of_eq_true qdy39); have hfdy39 := blk_frozen BK441.out (x6_2 : Int).toNat; refine store_event (t := 3) (p := 38) (v := ?vo_w40) (w1 := (w36.setCell ⟨gb441, (x6_2 : Int).toNat, none⟩ (.int .i64 t444))) ?hg ?ho ?hn ?hr ?_; (case ho => rfl); (case hg => rfl); (case hn => rfl); (case hr => exact gs_); intro w40 hw; have n0_ : Aside0 (w40.heap[gb441]? = some (.cells #[.int .i64 (pt4 0 x442000_1 x6_2 t444), .int .i64 (pt4 1 x442001_1 x6_2 t444), .int .i64 (pt4 2 x442002_1 x6_2 t444), .int .i64 (pt4 3 x442003_1 x6_2 t444)] 23 (0, 0))) := ⟨(by rw [hw]; exact (by refine bs_ ?_; refine blk_put (cs := #[.int .i64 x442000_1, .int .i64 x442001_1, .int .i64 x442002_1, .int .i64 x442003_1]) ?_ (x6_2 : Int).toNat _ (set4i _ _ _ _ _ _ (of_eq_true pdy39) (of_eq_true qdy39)); refine bs_ ?_; exact BK441.out))⟩; have n1_ : Aside0 (w40.heap[gb442]? = some (.cells #[.int .i64 x443000_1, .int .i64 x443001_1, .int .i64 x443002_1, .int .i64 x443003_1] 23 (0, 0))) := ⟨(by rw [hw]; exact (by refine bs_ ?_; refine blk_far ?_ NB442_441.out _; refine bs_ ?_; exact BK442.out))⟩; have n2_ : Aside0 (Below w.heap.size w w40) := ⟨(by rw [hw]; exact (by repeat (first | (with_reducible first | exact HB.out | apply below_alloc | apply pw_below_drewN | apply below_drew1 | refine below_set ?_ GE441.out | refine below_set ?_ GE442.out) | exact HB.out)))⟩; clear hw; clear BK441; clear BK442; clear HB; have BK441 := n0_; have BK442 := n1_; have HB := n2_; clear n0_ n1_ n2_)); try go_wp2_with (first | (go_at_call 31; (with_reducible refine (clocheref01_Turned.calls k2 x442000_1 x442001_1 x442002_1 x442003_1 x6_2 t444 _ A22.out).mono ?_); rintro e w36 ⟨rfl, hb⟩; have n0_ := Aside0.mk (blk_below (g := gb441) (o := .cells #[.int .i64 x442000_1, .int .i64 x442001_1, .int .i64 x442002_1, .int .i64 x442003_1] 23 (0, 0)) (by refine bs_ ?_; exact BK441.out) hb); have n1_ := Aside0.mk (blk_below (g := gb442) (o := .cells #[.int .i64 x443000_1, .int .i64 x443001_1, .int .i64 x443002_1, .int .i64 x443003_1] 23 (0, 0)) (by refine bs_ ?_; exact BK442.out) hb); have n2_ := Aside0.mk (below_step (by repeat (first | (with_reducible first | exact HB.out | apply below_alloc | apply pw_below_drewN | apply below_drew1 | refine below_set ?_ GE441.out | refine below_set ?_ GE442.out) | exact HB.out)) hb); clear BK441; clear BK442; clear HB; have BK441 := n0_; have BK442 := n1_; have HB := n2_; clear n0_ n1_ n2_; (try clear hb); (try clear hb2); (try clear hk); (try clear hi); have hcz38_0 : w36.cell? ⟨gb441, 0, none⟩ = some (.int .i64 x442000_1) := (blk_cell BK441.out 0).trans rfl; have hcz38_1 : w36.cell? ⟨gb441, 1, none⟩ = some (.int .i64 x442001_1) := (blk_cell BK441.out 1).trans rfl; have hcz38_2 : w36.cell? ⟨gb441, 2, none⟩ = some (.int .i64 x442002_1) := (blk_cell BK441.out 2).trans rfl; have hcz38_3 : w36.cell? ⟨gb441, 3, none⟩ = some (.int .i64 x442003_1) := (blk_cell BK441.out 3).trans rfl; have hfz38_0 := blk_frozen BK441.out 0; have hfz38_1 := blk_frozen BK441.out 1; have hfz38_2 := blk_frozen BK441.out 2; have hfz38_3 := blk_frozen BK441.out 3; have pdy37 : 0 ≤ (x6_2 : Int) := of_decide_eq_true as_; have qdy37 : (x6_2 : Int) < 4 := of_decide_eq_true as_; replace pdy37 := eq_true pdy37; replace qdy37 := eq_true qdy37; have hxdy37 : w36.cell? ⟨gb441, (x6_2 : Int).toNat, none⟩ = some (.int .i64 (at4 x442000_1 x442001_1 x442002_1 x442003_1 x6_2)) := blk_at4 BK441.out (of_eq_true pdy37) (of_eq_true qdy37); have hfdy37 := blk_frozen BK441.out (x6_2 : Int).toNat; have pdy39 : 0 ≤ (x6_2 : Int) := of_decide_eq_true as_; have qdy39 : (x6_2 : Int) < 4 := of_decide_eq_true as_; replace pdy39 := eq_true pdy39; replace qdy39 := eq_true qdy39; have hxdy39 : w36.cell? ⟨gb441, (x6_2 : Int).toNat, none⟩ = some (.int .i64 (at4 x442000_1 x442001_1 x442002_1 x442003_1 x6_2)) := blk_at4 BK441.out (of_eq_true pdy39) (of_eq_true qdy39); have hfdy39 := blk_frozen BK441.out (x6_2 : Int).toNat) | ((with_reducible refine gate_store (t := 3) (p := 38) rfl ?_); (try (rw [drewN_self w36]; generalize hq_ : World.drewN w36 _ = w36; have n0_ := Aside0.mk (blk_at hq_ BK441.out); have n1_ := Aside0.mk (blk_at hq_ BK442.out); have n2_ := Aside0.mk (below_at hq_ HB.out); clear hq_ BK441 BK442 HB; have BK441 := n0_; have BK442 := n1_; have HB := n2_; clear n0_ n1_ n2_)); have hxdy39 : w36.cell? ⟨gb441, (x6_2 : Int).toNat, none⟩ = some (.int .i64 (at4 x442000_1 x442001_1 x442002_1 x442003_1 x6_2)) := blk_at4 BK441.out (of_eq_true pdy39) (of_eq_true qdy39); have hfdy39 := blk_frozen BK441.out (x6_2 : Int).toNat; refine store_event (t := 3) (p := 38) (v := ?vo_w40) (w1 := (w36.setCell ⟨gb441, (x6_2 : Int).toNat, none⟩ (.int .i64 t444))) ?hg ?ho ?hn ?hr ?_; (case ho => rfl); (case hg => rfl); (case hn => rfl); (case hr => exact gs_); intro w40 hw; have n0_ : Aside0 (w40.heap[gb441]? = some (.cells #[.int .i64 (pt4 0 x442000_1 x6_2 t444), .int .i64 (pt4 1 x442001_1 x6_2 t444), .int .i64 (pt4 2 x442002_1 x6_2 t444), .int .i64 (pt4 3 x442003_1 x6_2 t444)] 23 (0, 0))) := ⟨(by rw [hw]; exact (by refine bs_ ?_; refine blk_put (cs := #[.int .i64 x442000_1, .int .i64 x442001_1, .int .i64 x442002_1, .int .i64 x442003_1]) ?_ (x6_2 : Int).toNat _ (set4i _ _ _ _ _ _ (of_eq_true pdy39) (of_eq_true qdy39)); refine bs_ ?_; exact BK441.out))⟩; have n1_ : Aside0 (w40.heap[gb442]? = some (.cells #[.int .i64 x443000_1, .int .i64 x443001_1, .int .i64 x443002_1, .int .i64 x443003_1] 23 (0, 0))) := ⟨(by rw [hw]; exact (by refine bs_ ?_; refine blk_far ?_ NB442_441.out _; refine bs_ ?_; exact BK442.out))⟩; have n2_ : Aside0 (Below w.heap.size w w40) := ⟨(by rw [hw]; exact (by repeat (first | (with_reducible first | exact HB.out | apply below_alloc | apply pw_below_drewN | apply below_drew1 | refine below_set ?_ GE441.out | refine below_set ?_ GE442.out) | exact HB.out)))⟩; clear hw; clear BK441; clear BK442; clear HB; have BK441 := n0_; have BK442 := n1_; have HB := n2_; clear n0_ n1_ n2_)))
          go_roundg k2
          case measure => have := HK1.out; have := HK2.out; omega
          case rel => exact ⟨(wrap64 (x5_1 + 1)), (pt4 0 x442000_1 x6_2 t444), (pt4 1 x442001_1 x6_2 t444), (pt4 2 x442002_1 x6_2 t444), (pt4 3 x442003_1 x6_2 t444), (x443000_1), (x443001_1), (x443002_1), (x443003_1), eq_, H', ⟨by have := HK1.out; have := HK2.out; omega⟩, ⟨by refine bs_ ?_; exact BK441.out⟩, ⟨by refine bs_ ?_; exact BK442.out⟩, ⟨by repeat (first | (with_reducible first | exact HB.out | apply below_alloc | apply pw_below_drewN | apply below_drew1 | refine below_set ?_ GE441.out | refine below_set ?_ GE442.out) | exact HB.out)⟩⟩
        ·rw [if_neg c24] at H
         exact absurd H (by simp)
       ·rw [if_neg c23] at H
        exact absurd H (by simp)
 ·replace c3 := Bool.eq_false_iff.mpr c3
  subst c3
  have H1 : (some (0, 0, 0, 0, 0, 2)) = some (r1, r2, r3, r4, r5, r6) := by rw [if_neg (show ¬ (false = true) by decide)] at H; exact H
  clear H
  have H := H1
  clear H1
  simp only [Option.some.injEq, Prod.mk.injEq] at H
  obtain ⟨rfl, rfl, rfl, rfl, rfl, rfl⟩ := H
  go_enter Try.func16, Try.ntmps16
  go_wp2_with (first | ((with_reducible refine gate_dst (N := 1) rfl ?_); refine box_event ?hg (N := 1) ?hd (cs := #[.int .i64 a0_0, .int .i64 a0_1, .int .i64 a0_2, .int .i64 a0_3]) (t := 23) ?hr ?_; (case hd => rfl); (case hg => rfl); (case hr => exact gs_); intro gb441 hg w41 hbox hb; have n0_ := Aside0.mk (below_step (lw_ HB.out) hb); have n1_ := Aside0.mk (hbox); have n2_ := Aside0.mk ((by rw [hg]; exact (below_size (lw_ HB.out)) : w.heap.size ≤ gb441)); have n3_ := Aside0.mk ((by rw [hg]; exact (below_size (lw_ HB.out)) : w.heap.size ≤ gb441)); clear HB; have HB := n0_; have BK441 := n1_; have GW441 := n2_; have GE441 := n3_; clear n0_ n1_ n2_ n3_; clear hb hbox hg) | ((with_reducible refine gate_dst (N := 2) rfl ?_); refine box_event ?hg (N := 2) ?hd (cs := #[.int .i64 0, .int .i64 0, .int .i64 0, .int .i64 0]) (t := 23) ?hr ?_; (case hd => rfl); (case hg => rfl); (case hr => exact gs_); intro gb442 hg w42 hbox hb; have n0_ := Aside0.mk (blk_below (g := gb441) (o := .cells #[.int .i64 a0_0, .int .i64 a0_1, .int .i64 a0_2, .int .i64 a0_3] 23 (0, 0)) (by refine bs_ ?_; exact BK441.out) hb); have n1_ := Aside0.mk (below_step (by repeat (first | (with_reducible first | exact HB.out | apply below_alloc | apply pw_below_drewN | apply below_drew1 | refine below_set ?_ GE441.out) | exact HB.out)) hb); have n2_ := Aside0.mk (hbox); have n3_ := Aside0.mk ((by rw [hg]; exact (below_size (by repeat (first | (with_reducible first | exact HB.out | apply below_alloc | apply pw_below_drewN | apply below_drew1 | refine below_set ?_ GE441.out) | exact HB.out))) : w.heap.size ≤ gb442)); have n4_ := Aside0.mk ((by rw [hg]; exact (below_size (by repeat (first | (with_reducible first | exact HB.out | apply below_alloc | apply pw_below_drewN | apply below_drew1 | refine below_set ?_ GE441.out) | exact HB.out))) : w.heap.size ≤ gb442)); have n5_ := Aside0.mk ((by rw [hg]; exact Nat.ne_of_lt (blk_lt (g := gb441) (o := .cells #[.int .i64 a0_0, .int .i64 a0_1, .int .i64 a0_2, .int .i64 a0_3] 23 (0, 0)) (by refine bs_ ?_; exact BK441.out)) : gb441 ≠ gb442)); have n6_ := Aside0.mk ((by rw [hg]; exact Nat.ne_of_gt (blk_lt (g := gb441) (o := .cells #[.int .i64 a0_0, .int .i64 a0_1, .int .i64 a0_2, .int .i64 a0_3] 23 (0, 0)) (by refine bs_ ?_; exact BK441.out)) : gb442 ≠ gb441)); clear BK441; clear HB; have BK441 := n0_; have HB := n1_; have BK442 := n2_; have GW442 := n3_; have GE442 := n4_; have NB441_442 := n5_; have NB442_441 := n6_; clear n0_ n1_ n2_ n3_ n4_ n5_ n6_; clear hb hbox hg; have hnb43 := NB441_442.out; have hnc43 := NB442_441.out; have hcz44_0 : w42.cell? ⟨gb441, 0, none⟩ = some (.int .i64 a0_0) := (blk_cell BK441.out 0).trans rfl; have hcz44_1 : w42.cell? ⟨gb441, 1, none⟩ = some (.int .i64 a0_1) := (blk_cell BK441.out 1).trans rfl; have hcz44_2 : w42.cell? ⟨gb441, 2, none⟩ = some (.int .i64 a0_2) := (blk_cell BK441.out 2).trans rfl; have hcz44_3 : w42.cell? ⟨gb441, 3, none⟩ = some (.int .i64 a0_3) := (blk_cell BK441.out 3).trans rfl; have hfz44_0 := blk_frozen BK441.out 0; have hfz44_1 := blk_frozen BK441.out 1; have hfz44_2 := blk_frozen BK441.out 2; have hfz44_3 := blk_frozen BK441.out 3) | (go_at_call 27; (with_reducible refine (clocheref01_IsQuad.calls k a0_0 a0_1 a0_2 a0_3 false _ A2.out).mono ?_); rintro e w45 ⟨rfl, hb⟩; have n0_ := Aside0.mk (blk_below (g := gb441) (o := .cells #[.int .i64 a0_0, .int .i64 a0_1, .int .i64 a0_2, .int .i64 a0_3] 23 (0, 0)) (by refine bs_ ?_; exact BK441.out) hb); have n1_ := Aside0.mk (blk_below (g := gb442) (o := .cells #[.int .i64 0, .int .i64 0, .int .i64 0, .int .i64 0] 23 (0, 0)) (by refine bs_ ?_; exact BK442.out) hb); have n2_ := Aside0.mk (below_step (by repeat (first | (with_reducible first | exact HB.out | apply below_alloc | apply pw_below_drewN | apply below_drew1 | refine below_set ?_ GE441.out | refine below_set ?_ GE442.out) | exact HB.out)) hb); clear BK441; clear BK442; clear HB; have BK441 := n0_; have BK442 := n1_; have HB := n2_; clear n0_ n1_ n2_; (try clear hb); (try clear hb2); (try clear hk); (try clear hi); have hcz46_0 : w45.cell? ⟨gb442, 0, none⟩ = some (.int .i64 0) := (blk_cell BK442.out 0).trans rfl; have hcz46_1 : w45.cell? ⟨gb442, 1, none⟩ = some (.int .i64 0) := (blk_cell BK442.out 1).trans rfl; have hcz46_2 : w45.cell? ⟨gb442, 2, none⟩ = some (.int .i64 0) := (blk_cell BK442.out 2).trans rfl; have hcz46_3 : w45.cell? ⟨gb442, 3, none⟩ = some (.int .i64 0) := (blk_cell BK442.out 3).trans rfl; have hfz46_0 := blk_frozen BK442.out 0; have hfz46_1 := blk_frozen BK442.out 1; have hfz46_2 := blk_frozen BK442.out 2; have hfz46_3 := blk_frozen BK442.out 3))
  repeat (go_quiet (first | ((with_reducible refine gate_dst (N := 1) rfl ?_); refine box_event ?hg (N := 1) ?hd (cs := #[.int .i64 a0_0, .int .i64 a0_1, .int .i64 a0_2, .int .i64 a0_3]) (t := 23) ?hr ?_; (case hd => rfl); (case hg => rfl); (case hr => exact gs_); intro gb441 hg w41 hbox hb; have n0_ := Aside0.mk (below_step (lw_ HB.out) hb); have n1_ := Aside0.mk (hbox); have n2_ := Aside0.mk ((by rw [hg]; exact (below_size (lw_ HB.out)) : w.heap.size ≤ gb441)); have n3_ := Aside0.mk ((by rw [hg]; exact (below_size (lw_ HB.out)) : w.heap.size ≤ gb441)); clear HB; have HB := n0_; have BK441 := n1_; have GW441 := n2_; have GE441 := n3_; clear n0_ n1_ n2_ n3_; clear hb hbox hg) | ((with_reducible refine gate_dst (N := 2) rfl ?_); refine box_event ?hg (N := 2) ?hd (cs := #[.int .i64 0, .int .i64 0, .int .i64 0, .int .i64 0]) (t := 23) ?hr ?_; (case hd => rfl); (case hg => rfl); (case hr => exact gs_); intro gb442 hg w42 hbox hb; have n0_ := Aside0.mk (blk_below (g := gb441) (o := .cells #[.int .i64 a0_0, .int .i64 a0_1, .int .i64 a0_2, .int .i64 a0_3] 23 (0, 0)) (by refine bs_ ?_; exact BK441.out) hb); have n1_ := Aside0.mk (below_step (by repeat (first | (with_reducible first | exact HB.out | apply below_alloc | apply pw_below_drewN | apply below_drew1 | refine below_set ?_ GE441.out) | exact HB.out)) hb); have n2_ := Aside0.mk (hbox); have n3_ := Aside0.mk ((by rw [hg]; exact (below_size (by repeat (first | (with_reducible first | exact HB.out | apply below_alloc | apply pw_below_drewN | apply below_drew1 | refine below_set ?_ GE441.out) | exact HB.out))) : w.heap.size ≤ gb442)); have n4_ := Aside0.mk ((by rw [hg]; exact (below_size (by repeat (first | (with_reducible first | exact HB.out | apply below_alloc | apply pw_below_drewN | apply below_drew1 | refine below_set ?_ GE441.out) | exact HB.out))) : w.heap.size ≤ gb442)); have n5_ := Aside0.mk ((by rw [hg]; exact Nat.ne_of_lt (blk_lt (g := gb441) (o := .cells #[.int .i64 a0_0, .int .i64 a0_1, .int .i64 a0_2, .int .i64 a0_3] 23 (0, 0)) (by refine bs_ ?_; exact BK441.out)) : gb441 ≠ gb442)); have n6_ := Aside0.mk ((by rw [hg]; exact Nat.ne_of_gt (blk_lt (g := gb441) (o := .cells #[.int .i64 a0_0, .int .i64 a0_1, .int .i64 a0_2, .int .i64 a0_3] 23 (0, 0)) (by refine bs_ ?_; exact BK441.out)) : gb442 ≠ gb441)); clear BK441; clear HB; have BK441 := n0_; have HB := n1_; have BK442 := n2_; have GW442 := n3_; have GE442 := n4_; have NB441_442 := n5_; have NB442_441 := n6_; clear n0_ n1_ n2_ n3_ n4_ n5_ n6_; clear hb hbox hg; have hnb43 := NB441_442.out; have hnc43 := NB442_441.out; have hcz44_0 : w42.cell? ⟨gb441, 0, none⟩ = some (.int .i64 a0_0) := (blk_cell BK441.out 0).trans rfl; have hcz44_1 : w42.cell? ⟨gb441, 1, none⟩ = some (.int .i64 a0_1) := (blk_cell BK441.out 1).trans rfl; have hcz44_2 : w42.cell? ⟨gb441, 2, none⟩ = some (.int .i64 a0_2) := (blk_cell BK441.out 2).trans rfl; have hcz44_3 : w42.cell? ⟨gb441, 3, none⟩ = some (.int .i64 a0_3) := (blk_cell BK441.out 3).trans rfl; have hfz44_0 := blk_frozen BK441.out 0; have hfz44_1 := blk_frozen BK441.out 1; have hfz44_2 := blk_frozen BK441.out 2; have hfz44_3 := blk_frozen BK441.out 3) | (go_at_call 27; (with_reducible refine (clocheref01_IsQuad.calls k a0_0 a0_1 a0_2 a0_3 false _ A2.out).mono ?_); rintro e w45 ⟨rfl, hb⟩; have n0_ := Aside0.mk (blk_below (g := gb441) (o := .cells #[.int .i64 a0_0, .int .i64 a0_1, .int .i64 a0_2, .int .i64 a0_3] 23 (0, 0)) (by refine bs_ ?_; exact BK441.out) hb); have n1_ := Aside0.mk (blk_below (g := gb442) (o := .cells #[.int .i64 0, .int .i64 0, .int .i64 0, .int .i64 0] 23 (0, 0)) (by refine bs_ ?_; exact BK442.out) hb); have n2_ := Aside0.mk (below_step (by repeat (first | (with_reducible first | exact HB.out | apply below_alloc | apply pw_below_drewN | apply below_drew1 | refine below_set ?_ GE441.out | refine below_set ?_ GE442.out) | exact HB.out)) hb); clear BK441; clear BK442; clear HB; have BK441 := n0_; have BK442 := n1_; have HB := n2_; clear n0_ n1_ n2_; (try clear hb); (try clear hb2); (try clear hk); (try clear hi); have hcz46_0 : w45.cell? ⟨gb442, 0, none⟩ = some (.int .i64 0) := (blk_cell BK442.out 0).trans rfl; have hcz46_1 : w45.cell? ⟨gb442, 1, none⟩ = some (.int .i64 0) := (blk_cell BK442.out 1).trans rfl; have hcz46_2 : w45.cell? ⟨gb442, 2, none⟩ = some (.int .i64 0) := (blk_cell BK442.out 2).trans rfl; have hcz46_3 : w45.cell? ⟨gb442, 3, none⟩ = some (.int .i64 0) := (blk_cell BK442.out 3).trans rfl; have hfz46_0 := blk_frozen BK442.out 0; have hfz46_1 := blk_frozen BK442.out 1; have hfz46_2 := blk_frozen BK442.out 2; have hfz46_3 := blk_frozen BK442.out 3)); try go_wp2_with (first | ((with_reducible refine gate_dst (N := 1) rfl ?_); refine box_event ?hg (N := 1) ?hd (cs := #[.int .i64 a0_0, .int .i64 a0_1, .int .i64 a0_2, .int .i64 a0_3]) (t := 23) ?hr ?_; (case hd => rfl); (case hg => rfl); (case hr => exact gs_); intro gb441 hg w41 hbox hb; have n0_ := Aside0.mk (below_step (lw_ HB.out) hb); have n1_ := Aside0.mk (hbox); have n2_ := Aside0.mk ((by rw [hg]; exact (below_size (lw_ HB.out)) : w.heap.size ≤ gb441)); have n3_ := Aside0.mk ((by rw [hg]; exact (below_size (lw_ HB.out)) : w.heap.size ≤ gb441)); clear HB; have HB := n0_; have BK441 := n1_; have GW441 := n2_; have GE441 := n3_; clear n0_ n1_ n2_ n3_; clear hb hbox hg) | ((with_reducible refine gate_dst (N := 2) rfl ?_); refine box_event ?hg (N := 2) ?hd (cs := #[.int .i64 0, .int .i64 0, .int .i64 0, .int .i64 0]) (t := 23) ?hr ?_; (case hd => rfl); (case hg => rfl); (case hr => exact gs_); intro gb442 hg w42 hbox hb; have n0_ := Aside0.mk (blk_below (g := gb441) (o := .cells #[.int .i64 a0_0, .int .i64 a0_1, .int .i64 a0_2, .int .i64 a0_3] 23 (0, 0)) (by refine bs_ ?_; exact BK441.out) hb); have n1_ := Aside0.mk (below_step (by repeat (first | (with_reducible first | exact HB.out | apply below_alloc | apply pw_below_drewN | apply below_drew1 | refine below_set ?_ GE441.out) | exact HB.out)) hb); have n2_ := Aside0.mk (hbox); have n3_ := Aside0.mk ((by rw [hg]; exact (below_size (by repeat (first | (with_reducible first | exact HB.out | apply below_alloc | apply pw_below_drewN | apply below_drew1 | refine below_set ?_ GE441.out) | exact HB.out))) : w.heap.size ≤ gb442)); have n4_ := Aside0.mk ((by rw [hg]; exact (below_size (by repeat (first | (with_reducible first | exact HB.out | apply below_alloc | apply pw_below_drewN | apply below_drew1 | refine below_set ?_ GE441.out) | exact HB.out))) : w.heap.size ≤ gb442)); have n5_ := Aside0.mk ((by rw [hg]; exact Nat.ne_of_lt (blk_lt (g := gb441) (o := .cells #[.int .i64 a0_0, .int .i64 a0_1, .int .i64 a0_2, .int .i64 a0_3] 23 (0, 0)) (by refine bs_ ?_; exact BK441.out)) : gb441 ≠ gb442)); have n6_ := Aside0.mk ((by rw [hg]; exact Nat.ne_of_gt (blk_lt (g := gb441) (o := .cells #[.int .i64 a0_0, .int .i64 a0_1, .int .i64 a0_2, .int .i64 a0_3] 23 (0, 0)) (by refine bs_ ?_; exact BK441.out)) : gb442 ≠ gb441)); clear BK441; clear HB; have BK441 := n0_; have HB := n1_; have BK442 := n2_; have GW442 := n3_; have GE442 := n4_; have NB441_442 := n5_; have NB442_441 := n6_; clear n0_ n1_ n2_ n3_ n4_ n5_ n6_; clear hb hbox hg; have hnb43 := NB441_442.out; have hnc43 := NB442_441.out; have hcz44_0 : w42.cell? ⟨gb441, 0, none⟩ = some (.int .i64 a0_0) := (blk_cell BK441.out 0).trans rfl; have hcz44_1 : w42.cell? ⟨gb441, 1, none⟩ = some (.int .i64 a0_1) := (blk_cell BK441.out 1).trans rfl; have hcz44_2 : w42.cell? ⟨gb441, 2, none⟩ = some (.int .i64 a0_2) := (blk_cell BK441.out 2).trans rfl; have hcz44_3 : w42.cell? ⟨gb441, 3, none⟩ = some (.int .i64 a0_3) := (blk_cell BK441.out 3).trans rfl; have hfz44_0 := blk_frozen BK441.out 0; have hfz44_1 := blk_frozen BK441.out 1; have hfz44_2 := blk_frozen BK441.out 2; have hfz44_3 := blk_frozen BK441.out 3) | (go_at_call 27; (with_reducible refine (clocheref01_IsQuad.calls k a0_0 a0_1 a0_2 a0_3 false _ A2.out).mono ?_); rintro e w45 ⟨rfl, hb⟩; have n0_ := Aside0.mk (blk_below (g := gb441) (o := .cells #[.int .i64 a0_0, .int .i64 a0_1, .int .i64 a0_2, .int .i64 a0_3] 23 (0, 0)) (by refine bs_ ?_; exact BK441.out) hb); have n1_ := Aside0.mk (blk_below (g := gb442) (o := .cells #[.int .i64 0, .int .i64 0, .int .i64 0, .int .i64 0] 23 (0, 0)) (by refine bs_ ?_; exact BK442.out) hb); have n2_ := Aside0.mk (below_step (by repeat (first | (with_reducible first | exact HB.out | apply below_alloc | apply pw_below_drewN | apply below_drew1 | refine below_set ?_ GE441.out | refine below_set ?_ GE442.out) | exact HB.out)) hb); clear BK441; clear BK442; clear HB; have BK441 := n0_; have BK442 := n1_; have HB := n2_; clear n0_ n1_ n2_; (try clear hb); (try clear hb2); (try clear hk); (try clear hi); have hcz46_0 : w45.cell? ⟨gb442, 0, none⟩ = some (.int .i64 0) := (blk_cell BK442.out 0).trans rfl; have hcz46_1 : w45.cell? ⟨gb442, 1, none⟩ = some (.int .i64 0) := (blk_cell BK442.out 1).trans rfl; have hcz46_2 : w45.cell? ⟨gb442, 2, none⟩ = some (.int .i64 0) := (blk_cell BK442.out 2).trans rfl; have hcz46_3 : w45.cell? ⟨gb442, 3, none⟩ = some (.int .i64 0) := (blk_cell BK442.out 3).trans rfl; have hfz46_0 := blk_frozen BK442.out 0; have hfz46_1 := blk_frozen BK442.out 1; have hfz46_2 := blk_frozen BK442.out 2; have hfz46_3 := blk_frozen BK442.out 3)))
  refine bodyPost_ret (results_ctt rfl _ _ gb442 23 #[.int .i64 0, .int .i64 0, .int .i64 0, .int .i64 0] (0, 0) _ rfl (by refine bs_ ?_; refine blk_put (cs := #[.int .i64 0, .int .i64 0, .int .i64 0, .int .i64 0]) ?_ 3 _ rfl; refine bs_ ?_; refine blk_put (cs := #[.int .i64 0, .int .i64 0, .int .i64 0, .int .i64 0]) ?_ 2 _ rfl; refine bs_ ?_; refine blk_put (cs := #[.int .i64 0, .int .i64 0, .int .i64 0, .int .i64 0]) ?_ 1 _ rfl; refine bs_ ?_; refine blk_put (cs := #[.int .i64 0, .int .i64 0, .int .i64 0, .int .i64 0]) ?_ 0 _ rfl; refine bs_ ?_; exact BK442.out) Try.underlying23 rfl (by kernel_rfl)) rfl ?_
  exact ⟨by first | rfl | (simp [errW_none, errW_some] <;> rfl) | (simp [*, errW_none, errW_some] <;> rfl), by repeat (first | (with_reducible first | exact HB.out | apply below_alloc | apply pw_below_drewN | apply below_drew1 | refine below_set ?_ GE441.out | refine below_set ?_ GE442.out) | exact HB.out)⟩

/-! ### clocheref01_root: function 44 -/
def clocheref01_root.l0 : Nat → Int → Int → Int → Option (Int)
 | 0, _, _, _ => none
 | k + 1, x0, x3, x4 => if x4 > 0 then (if (wrap64 ((wrap64 (x3 + x4)) * (wrap64 (x3 + x4)))) ≤ x0 then (clocheref01_root.l0 k x0 (wrap64 (x3 + x4)) (wrap64 (Int.tdiv x4 2))) else (clocheref01_root.l0 k x0 x3 (wrap64 (Int.tdiv x4 2)))) else (some x3)
def clocheref01_root.f (k : Nat) (a0 : Int) : Option (Int) := clocheref01_root.l0 k a0 0 1073741824
theorem clocheref01_root.mono_l : ∀ k, (∀ y0 y1 y2, LeO (clocheref01_root.l0 k y0 y1 y2) (clocheref01_root.l0 (k + 1) y0 y1 y2))
 | 0 => fun _ _ _ r h => by simp [clocheref01_root.l0] at h
 | k + 1 => by
  have ih0 := clocheref01_root.mono_l k
  ·intro y0 y1 y2
   unfold clocheref01_root.l0
   repeat' first
   | (with_reducible exact ih0 _ _ _)
   | (with_reducible exact LeO.refl _)
   | (with_reducible exact LeO.none _)
   | (with_reducible refine LeO.ite ?_ ?_)
   | (with_reducible refine LeO.bind ?_ (fun _ => ?_))
   | exact ih0 _ _ _
   | exact LeO.none _
   | refine LeO.ite ?_ ?_
   | refine LeO.bind ?_ (fun _ => ?_)
theorem clocheref01_root.mono : ∀ a0 k, LeO (clocheref01_root.f k a0) (clocheref01_root.f (k + 1) a0) := by
 intro a0 k
 have ih0 := clocheref01_root.mono_l k
 unfold clocheref01_root.f
 repeat' first
   | (with_reducible exact ih0 _ _ _)
   | (with_reducible exact LeO.refl _)
   | (with_reducible exact LeO.none _)
   | (with_reducible refine LeO.ite ?_ ?_)
   | (with_reducible refine LeO.bind ?_ (fun _ => ?_))
   | exact ih0 _ _ _
   | exact LeO.none _
   | refine LeO.ite ?_ ?_
   | refine LeO.bind ?_ (fun _ => ?_)
theorem clocheref01_root.calls (k : Nat) (a0 : Int) (r : Int) (w : World) (h : clocheref01_root.f k a0 = some r) :
  Calls Try.prog 44 #[.int .i64 a0] w fun e w' => e = .returned (.int .i64 r) ∧ Drawn0 w w' := by
 have H : (clocheref01_root.l0 k a0 0 1073741824) = some r := h
 clear h
 have H' := Aside0.mk H
 clear H
 go_enter Try.func44, Try.ntmps44
 go_wp2
 go_loopg [3, 4] k (fun kq v3 v4 w' => ∃ (x3_1 : Int) (x4_1 : Int), v3 = .int .i64 x3_1 ∧ v4 = .int .i64 x4_1 ∧ Aside0 (clocheref01_root.l0 kq a0 x3_1 x4_1 = some r) ∧ Aside0 (kq ≤ k) ∧ Drawn0 w w')
 case atStart => exact ⟨(0), (1073741824), eq_, eq_, H', ⟨Nat.le_refl _⟩, by repeat (first | exact Drawn0.refl _ | apply Drawn0.step)⟩
 case round =>
  clear H'
  obtain ⟨x3_1, x4_1, rfl, rfl, HA, HK1, ⟨m1, rfl⟩⟩ := hrel
  cases gk with
  | zero => exact absurd HA.out (by simp [clocheref01_root.l0])
  | succ k1 =>
   have H := HA.out
   clear HA
   simp only [clocheref01_root.l0] at H
   by_cases c2 : x4_1 > 0
   ·rw [if_pos c2] at H
    have c2b0 : decide (0 < x4_1) = true := decide_eq_true c2
    clear c2
    by_cases c3 : (wrap64 ((wrap64 (x3_1 + x4_1)) * (wrap64 (x3_1 + x4_1)))) ≤ a0
    ·rw [if_pos c3] at H
     have c3b0 : decide ((wrap64 ((wrap64 (x3_1 + x4_1)) * (wrap64 (x3_1 + x4_1)))) ≤ a0) = true := decide_eq_true c3
     clear c3
     have H' := Aside0.mk H
     clear H
     go_wp2
     go_roundg k1
     case measure => have := HK1.out; omega
     case rel => exact ⟨(wrap64 (x3_1 + x4_1)), (wrap64 (Int.tdiv x4_1 2)), eq_, eq_, H', ⟨by have := HK1.out; omega⟩, by repeat (first | exact Drawn0.refl _ | apply Drawn0.step)⟩
    ·rw [if_neg c3] at H
     have c3b0 : decide ((wrap64 ((wrap64 (x3_1 + x4_1)) * (wrap64 (x3_1 + x4_1)))) ≤ a0) = false := decide_eq_false c3
     clear c3
     have H' := Aside0.mk H
     clear H
     go_wp2
     go_roundg k1
     case measure => have := HK1.out; omega
     case rel => exact ⟨(x3_1), (wrap64 (Int.tdiv x4_1 2)), eq_, eq_, H', ⟨by have := HK1.out; omega⟩, by repeat (first | exact Drawn0.refl _ | apply Drawn0.step)⟩
   ·rw [if_neg c2] at H
    have c2b0 : decide (0 < x4_1) = false := decide_eq_false c2
    clear c2
    obtain rfl := Option.some.inj H
    go_wp2
    go_ret
    exact ⟨by first | rfl | (simp; done) | (simp [*]; done), by repeat (first | exact Drawn0.refl _ | apply Drawn0.step)⟩

end Go.Proofs.Ytlfmafebmnggeaa.Print
