/- What the functions of the discs compute, printed by this repo's hand printer. -/
import Derived.Test.YtlfmafebmnggeaaShort
import Derived.Test.YtlfmafebmnggeaaPrintx0
import Derived.Test.YtlfmafebmnggeaaPrintx1
import Derived.Test.YtlfmafebmnggeaaPrintx3
import Derived.Test.YtlfmafebmnggeaaPrintx6
import Derived.Test.YtlfmafebmnggeaaPrintx21
import Derived.Test.YtlfmafebmnggeaaPrintx22
namespace Go.Proofs.Ytlfmafebmnggeaa.Print
open Go.RowKit Go.Proofs.YtlfmafebmnggeaaW.PrintWords Go.Proofs.YtlfmafebmnggeaaW.PrintLast Go.Proofs.YtlfmafebmnggeaaW.PrintMore
attribute [local go_sem] max2_int min2_int max_two min_two max_three min_three max_four min_four
set_option maxHeartbeats 8000000 -- slim
set_option maxRecDepth 100000
set_option linter.unusedVariables false
set_option linter.unusedSimpArgs false

attribute [local go_sem high] eqA23
/-! ### clochelaw01_DiscsRoots: function 3 -/
def clochelaw01_DiscsRoots.j0 : Nat → Int → Int → Int → Bool → Option (Bool)
 | 0, _, _, _, _ => none
 | k + 1, x1, x2, x3, x43 => if x43 = true then (none) else ((discs_Fourth.f k x1 x2 x3).bind fun bt470 => ((clocheref01_Fourth.f k x1 x2 x3).bind fun bt473 => (if bt470.1 = bt473.1 then (if bt470.2.1 = bt473.2.1 then (if bt470.2.2 = bt473.2.2 then ((clochelaw01_alive.f k).bind fun t476 => (some t476)) else (none)) else (none)) else (none))))
def clochelaw01_DiscsRoots.f (k : Nat) (a0_0 : Int) (a0_1 : Int) (a0_2 : Int) (a0_3 : Int) (a1 : Int) (a2 : Int) (a3 : Int) : Option (Bool) := (discs_Root.f k a0_0 a0_1 a0_2 a0_3).bind fun bt456 => ((clocheref01_Root.f k a0_0 a0_1 a0_2 a0_3).bind fun bt463 => (if (!(bt456.1 == bt463.1) || (!(bt456.2.1 == bt463.2.1) || (!(bt456.2.2.1 == bt463.2.2.1) || (!(bt456.2.2.2.1 == bt463.2.2.2.1))))) = true then (none) else (if bt456.2.2.2.2.1 = bt463.2.2.2.2.1 then (clochelaw01_DiscsRoots.j0 k a1 a2 a3 (bt456.2.2.2.2.2 != bt463.2.2.2.2.2)) else (none))))
theorem clochelaw01_DiscsRoots.mono_l : ∀ k, (∀ y0 y1 y2 y3, LeO (clochelaw01_DiscsRoots.j0 k y0 y1 y2 y3) (clochelaw01_DiscsRoots.j0 (k + 1) y0 y1 y2 y3))
 | 0 => fun _ _ _ _ r h => by simp [clochelaw01_DiscsRoots.j0] at h
 | k + 1 => by
  have ih0 := clochelaw01_DiscsRoots.mono_l k
  ·intro y0 y1 y2 y3
   unfold clochelaw01_DiscsRoots.j0
   repeat' first
   | (with_reducible exact ih0 _ _ _ _)
   | (with_reducible exact clochelaw01_alive.mono _)
   | (with_reducible exact clocheref01_Fourth.mono _ _ _ _)
   | (with_reducible exact clocheref01_Root.mono _ _ _ _ _)
   | (with_reducible exact discs_Fourth.mono _ _ _ _)
   | (with_reducible exact discs_Root.mono _ _ _ _ _)
   | (with_reducible exact LeO.refl _)
   | (with_reducible exact LeO.none _)
   | (with_reducible refine LeO.ite ?_ ?_)
   | (with_reducible refine LeO.bind ?_ (fun _ => ?_))
   | exact ih0 _ _ _ _
   | exact clochelaw01_alive.mono _
   | exact clocheref01_Fourth.mono _ _ _ _
   | exact clocheref01_Root.mono _ _ _ _ _
   | exact discs_Fourth.mono _ _ _ _
   | exact discs_Root.mono _ _ _ _ _
   | exact LeO.none _
   | refine LeO.ite ?_ ?_
   | refine LeO.bind ?_ (fun _ => ?_)
theorem clochelaw01_DiscsRoots.mono : ∀ a0 a1 a2 a3 a4 a5 a6 k, LeO (clochelaw01_DiscsRoots.f k a0 a1 a2 a3 a4 a5 a6) (clochelaw01_DiscsRoots.f (k + 1) a0 a1 a2 a3 a4 a5 a6) := by
 intro a0 a1 a2 a3 a4 a5 a6 k
 have ih0 := clochelaw01_DiscsRoots.mono_l k
 unfold clochelaw01_DiscsRoots.f
 repeat' first
   | (with_reducible exact ih0 _ _ _ _)
   | (with_reducible exact clochelaw01_alive.mono _)
   | (with_reducible exact clocheref01_Fourth.mono _ _ _ _)
   | (with_reducible exact clocheref01_Root.mono _ _ _ _ _)
   | (with_reducible exact discs_Fourth.mono _ _ _ _)
   | (with_reducible exact discs_Root.mono _ _ _ _ _)
   | (with_reducible exact LeO.refl _)
   | (with_reducible exact LeO.none _)
   | (with_reducible refine LeO.ite ?_ ?_)
   | (with_reducible refine LeO.bind ?_ (fun _ => ?_))
   | exact ih0 _ _ _ _
   | exact clochelaw01_alive.mono _
   | exact clocheref01_Fourth.mono _ _ _ _
   | exact clocheref01_Root.mono _ _ _ _ _
   | exact discs_Fourth.mono _ _ _ _
   | exact discs_Root.mono _ _ _ _ _
   | exact LeO.none _
   | refine LeO.ite ?_ ?_
   | refine LeO.bind ?_ (fun _ => ?_)
theorem clochelaw01_DiscsRoots.calls (k : Nat) (a0_0 : Int) (a0_1 : Int) (a0_2 : Int) (a0_3 : Int) (a1 : Int) (a2 : Int) (a3 : Int) (r : Bool) (w : World) (h : clochelaw01_DiscsRoots.f k a0_0 a0_1 a0_2 a0_3 a1 a2 a3 = some r) :
  Calls Try.prog 3 #[.agg #[.int .i64 a0_0, .int .i64 a0_1, .int .i64 a0_2, .int .i64 a0_3], .int .i64 a1, .int .i64 a2, .int .i64 a3] w fun e w' => e = .returned (.bool r) ∧ Below w.heap.size w w' := by
 have hu23 := Try.underlying23
 have HB := Aside0.mk (Below.refl w.heap.size w)
 have H : ((discs_Root.f k a0_0 a0_1 a0_2 a0_3).bind fun bt456 => ((clocheref01_Root.f k a0_0 a0_1 a0_2 a0_3).bind fun bt463 => (if (!(bt456.1 == bt463.1) || (!(bt456.2.1 == bt463.2.1) || (!(bt456.2.2.1 == bt463.2.2.1) || (!(bt456.2.2.2.1 == bt463.2.2.2.1))))) = true then (none) else (if bt456.2.2.2.2.1 = bt463.2.2.2.2.1 then (clochelaw01_DiscsRoots.j0 k a1 a2 a3 (bt456.2.2.2.2.2 != bt463.2.2.2.2.2)) else (none))))) = some r := h
 clear h
 replace H := Option.bind_eq_some_iff.mp H
 obtain ⟨⟨t456, t457, t458, t459, t460, t461⟩, A50, H⟩ := H
 replace H : ((clocheref01_Root.f k a0_0 a0_1 a0_2 a0_3).bind fun bt463 => (if (!(t456 == bt463.1) || (!(t457 == bt463.2.1) || (!(t458 == bt463.2.2.1) || (!(t459 == bt463.2.2.2.1))))) = true then (none) else (if t460 = bt463.2.2.2.2.1 then (clochelaw01_DiscsRoots.j0 k a1 a2 a3 (t461 != bt463.2.2.2.2.2)) else (none)))) = some r := H
 have A5 := Aside0.mk A50
 clear A50
 replace H := Option.bind_eq_some_iff.mp H
 obtain ⟨⟨t463, t464, t465, t466, t467, t468⟩, A60, H⟩ := H
 replace H : (if (!(t456 == t463) || (!(t457 == t464) || (!(t458 == t465) || (!(t459 == t466))))) = true then (none) else (if t460 = t467 then (clochelaw01_DiscsRoots.j0 k a1 a2 a3 (t461 != t468)) else (none))) = some r := H
 have A6 := Aside0.mk A60
 clear A60
 have HC7 := Aside0.mk H
 clear H
 go_enter Try.func3, Try.ntmps3
 go_upto_region 3 with (first | ((with_reducible refine gate_dst (N := 4) rfl ?_); refine box_event ?hg (N := 4) ?hd (cs := #[.int .i64 a0_0, .int .i64 a0_1, .int .i64 a0_2, .int .i64 a0_3]) (t := 23) ?hr ?_; (case hd => rfl); (case hg => rfl); (case hr => exact gs_); intro gb455 hg w8 hbox hb; have n0_ := Aside0.mk (below_step (lw_ HB.out) hb); have n1_ := Aside0.mk (hbox); have n2_ := Aside0.mk ((by rw [hg]; exact (below_size (lw_ HB.out)) : w.heap.size ≤ gb455)); have n3_ := Aside0.mk ((by rw [hg]; exact (below_size (lw_ HB.out)) : w.heap.size ≤ gb455)); clear HB; have HB := n0_; have BK455 := n1_; have GW455 := n2_; have GE455 := n3_; clear n0_ n1_ n2_ n3_; clear hb hbox hg; have hcz9_0 : w8.cell? ⟨gb455, 0, none⟩ = some (.int .i64 a0_0) := (blk_cell BK455.out 0).trans rfl; have hcz9_1 : w8.cell? ⟨gb455, 1, none⟩ = some (.int .i64 a0_1) := (blk_cell BK455.out 1).trans rfl; have hcz9_2 : w8.cell? ⟨gb455, 2, none⟩ = some (.int .i64 a0_2) := (blk_cell BK455.out 2).trans rfl; have hcz9_3 : w8.cell? ⟨gb455, 3, none⟩ = some (.int .i64 a0_3) := (blk_cell BK455.out 3).trans rfl; have hfz9_0 := blk_frozen BK455.out 0; have hfz9_1 := blk_frozen BK455.out 1; have hfz9_2 := blk_frozen BK455.out 2; have hfz9_3 := blk_frozen BK455.out 3) | ((with_reducible refine gate_callee (f := 15) rfl ?_); refine goesL_ (some 21) rfl rfl Try.func15 (by kernel_rfl) rfl #[.agg #[.int .i64 a0_0, .int .i64 a0_1, .int .i64 a0_2, .int .i64 a0_3]] rfl mp_ ?_; (with_reducible refine (discs_Root.calls k a0_0 a0_1 a0_2 a0_3 t456 t457 t458 t459 t460 t461 _ A5.out).mono ?_); rintro e w10 ⟨rfl, hb⟩; refine ⟨_, rfl, ?_⟩; have n0_ := Aside0.mk (blk_below (g := gb455) (o := .cells #[.int .i64 a0_0, .int .i64 a0_1, .int .i64 a0_2, .int .i64 a0_3] 23 (0, 0)) (by refine bs_ ?_; exact BK455.out) hb); have n1_ := Aside0.mk (below_step (by repeat (first | (with_reducible first | exact HB.out | apply below_alloc | apply pw_below_drewN | apply below_drew1 | refine below_set ?_ GE455.out) | exact HB.out)) hb); clear BK455; clear HB; have BK455 := n0_; have HB := n1_; clear n0_ n1_; (try clear hb); (try clear hb2); (try clear hk); (try clear hi)) | ((with_reducible refine gate_dst (N := 9) rfl ?_); refine box_event ?hg (N := 9) ?hd (cs := #[.int .i64 0, .int .i64 0, .int .i64 0, .int .i64 0]) (t := 23) ?hr ?_; (case hd => rfl); (case hg => rfl); (case hr => exact gs_); intro gb462 hg w11 hbox hb; have n0_ := Aside0.mk (blk_below (g := gb455) (o := .cells #[.int .i64 a0_0, .int .i64 a0_1, .int .i64 a0_2, .int .i64 a0_3] 23 (0, 0)) (by refine bs_ ?_; exact BK455.out) hb); have n1_ := Aside0.mk (below_step (by repeat (first | (with_reducible first | exact HB.out | apply below_alloc | apply pw_below_drewN | apply below_drew1 | refine below_set ?_ GE455.out) | exact HB.out)) hb); have n2_ := Aside0.mk (hbox); have n3_ := Aside0.mk ((by rw [hg]; exact (below_size (by repeat (first | (with_reducible first | exact HB.out | apply below_alloc | apply pw_below_drewN | apply below_drew1 | refine below_set ?_ GE455.out) | exact HB.out))) : w.heap.size ≤ gb462)); have n4_ := Aside0.mk ((by rw [hg]; exact (below_size (by repeat (first | (with_reducible first | exact HB.out | apply below_alloc | apply pw_below_drewN | apply below_drew1 | refine below_set ?_ GE455.out) | exact HB.out))) : w.heap.size ≤ gb462)); have n5_ := Aside0.mk ((by rw [hg]; exact Nat.ne_of_lt (blk_lt (g := gb455) (o := .cells #[.int .i64 a0_0, .int .i64 a0_1, .int .i64 a0_2, .int .i64 a0_3] 23 (0, 0)) (by refine bs_ ?_; exact BK455.out)) : gb455 ≠ gb462)); have n6_ := Aside0.mk ((by rw [hg]; exact Nat.ne_of_gt (blk_lt (g := gb455) (o := .cells #[.int .i64 a0_0, .int .i64 a0_1, .int .i64 a0_2, .int .i64 a0_3] 23 (0, 0)) (by refine bs_ ?_; exact BK455.out)) : gb462 ≠ gb455)); clear BK455; clear HB; have BK455 := n0_; have HB := n1_; have BK462 := n2_; have GW462 := n3_; have GE462 := n4_; have NB455_462 := n5_; have NB462_455 := n6_; clear n0_ n1_ n2_ n3_ n4_ n5_ n6_; clear hb hbox hg; have hnb12 := NB462_455.out; have hnc12 := NB455_462.out; have hcz13_0 : w11.cell? ⟨gb462, 0, none⟩ = some (.int .i64 0) := (blk_cell BK462.out 0).trans rfl; have hcz13_1 : w11.cell? ⟨gb462, 1, none⟩ = some (.int .i64 0) := (blk_cell BK462.out 1).trans rfl; have hcz13_2 : w11.cell? ⟨gb462, 2, none⟩ = some (.int .i64 0) := (blk_cell BK462.out 2).trans rfl; have hcz13_3 : w11.cell? ⟨gb462, 3, none⟩ = some (.int .i64 0) := (blk_cell BK462.out 3).trans rfl; have hfz13_0 := blk_frozen BK462.out 0; have hfz13_1 := blk_frozen BK462.out 1; have hfz13_2 := blk_frozen BK462.out 2; have hfz13_3 := blk_frozen BK462.out 3; have hcz14_0 : w11.cell? ⟨gb455, 0, none⟩ = some (.int .i64 a0_0) := (blk_cell BK455.out 0).trans rfl; have hcz14_1 : w11.cell? ⟨gb455, 1, none⟩ = some (.int .i64 a0_1) := (blk_cell BK455.out 1).trans rfl; have hcz14_2 : w11.cell? ⟨gb455, 2, none⟩ = some (.int .i64 a0_2) := (blk_cell BK455.out 2).trans rfl; have hcz14_3 : w11.cell? ⟨gb455, 3, none⟩ = some (.int .i64 a0_3) := (blk_cell BK455.out 3).trans rfl; have hfz14_0 := blk_frozen BK455.out 0; have hfz14_1 := blk_frozen BK455.out 1; have hfz14_2 := blk_frozen BK455.out 2; have hfz14_3 := blk_frozen BK455.out 3) | ((with_reducible refine gate_callee (f := 16) rfl ?_); refine goesL_ (some 27) rfl rfl Try.func16 (by kernel_rfl) rfl #[.agg #[.int .i64 a0_0, .int .i64 a0_1, .int .i64 a0_2, .int .i64 a0_3]] rfl mp_ ?_; (with_reducible refine (clocheref01_Root.calls k a0_0 a0_1 a0_2 a0_3 t463 t464 t465 t466 t467 t468 _ A6.out).mono ?_); rintro e w15 ⟨rfl, hb⟩; refine ⟨_, rfl, ?_⟩; have n0_ := Aside0.mk (blk_below (g := gb455) (o := .cells #[.int .i64 a0_0, .int .i64 a0_1, .int .i64 a0_2, .int .i64 a0_3] 23 (0, 0)) (by refine bs_ ?_; refine blk_far ?_ NB455_462.out _; refine bs_ ?_; refine blk_far ?_ NB455_462.out _; refine bs_ ?_; refine blk_far ?_ NB455_462.out _; refine bs_ ?_; refine blk_far ?_ NB455_462.out _; refine bs_ ?_; exact BK455.out) hb); have n1_ := Aside0.mk (blk_below (g := gb462) (o := .cells #[.int .i64 t456, .int .i64 t457, .int .i64 t458, .int .i64 t459] 23 (0, 0)) (by refine bs_ ?_; refine blk_put (cs := #[.int .i64 t456, .int .i64 t457, .int .i64 t458, .int .i64 0]) ?_ 3 _ rfl; refine bs_ ?_; refine blk_put (cs := #[.int .i64 t456, .int .i64 t457, .int .i64 0, .int .i64 0]) ?_ 2 _ rfl; refine bs_ ?_; refine blk_put (cs := #[.int .i64 t456, .int .i64 0, .int .i64 0, .int .i64 0]) ?_ 1 _ rfl; refine bs_ ?_; refine blk_put (cs := #[.int .i64 0, .int .i64 0, .int .i64 0, .int .i64 0]) ?_ 0 _ rfl; refine bs_ ?_; exact BK462.out) hb); have n2_ := Aside0.mk (below_step (by repeat (first | (with_reducible first | exact HB.out | apply below_alloc | apply pw_below_drewN | apply below_drew1 | refine below_set ?_ GE455.out | refine below_set ?_ GE462.out) | exact HB.out)) hb); clear BK455; clear BK462; clear HB; have BK455 := n0_; have BK462 := n1_; have HB := n2_; clear n0_ n1_ n2_; (try clear hb); (try clear hb2); (try clear hk); (try clear hi)) | ((with_reducible refine gate_dst (N := 12) rfl ?_); refine box_event ?hg (N := 12) ?hd (cs := #[.int .i64 0, .int .i64 0, .int .i64 0, .int .i64 0]) (t := 23) ?hr ?_; (case hd => rfl); (case hg => rfl); (case hr => exact gs_); intro gb469 hg w16 hbox hb; have n0_ := Aside0.mk (blk_below (g := gb455) (o := .cells #[.int .i64 a0_0, .int .i64 a0_1, .int .i64 a0_2, .int .i64 a0_3] 23 (0, 0)) (by refine bs_ ?_; exact BK455.out) hb); have n1_ := Aside0.mk (blk_below (g := gb462) (o := .cells #[.int .i64 t456, .int .i64 t457, .int .i64 t458, .int .i64 t459] 23 (0, 0)) (by refine bs_ ?_; exact BK462.out) hb); have n2_ := Aside0.mk (below_step (by repeat (first | (with_reducible first | exact HB.out | apply below_alloc | apply pw_below_drewN | apply below_drew1 | refine below_set ?_ GE455.out | refine below_set ?_ GE462.out) | exact HB.out)) hb); have n3_ := Aside0.mk (hbox); have n4_ := Aside0.mk ((by rw [hg]; exact (below_size (by repeat (first | (with_reducible first | exact HB.out | apply below_alloc | apply pw_below_drewN | apply below_drew1 | refine below_set ?_ GE455.out | refine below_set ?_ GE462.out) | exact HB.out))) : w.heap.size ≤ gb469)); have n5_ := Aside0.mk ((by rw [hg]; exact (below_size (by repeat (first | (with_reducible first | exact HB.out | apply below_alloc | apply pw_below_drewN | apply below_drew1 | refine below_set ?_ GE455.out | refine below_set ?_ GE462.out) | exact HB.out))) : w.heap.size ≤ gb469)); have n6_ := Aside0.mk ((by rw [hg]; exact Nat.ne_of_lt (blk_lt (g := gb455) (o := .cells #[.int .i64 a0_0, .int .i64 a0_1, .int .i64 a0_2, .int .i64 a0_3] 23 (0, 0)) (by refine bs_ ?_; exact BK455.out)) : gb455 ≠ gb469)); have n7_ := Aside0.mk ((by rw [hg]; exact Nat.ne_of_gt (blk_lt (g := gb455) (o := .cells #[.int .i64 a0_0, .int .i64 a0_1, .int .i64 a0_2, .int .i64 a0_3] 23 (0, 0)) (by refine bs_ ?_; exact BK455.out)) : gb469 ≠ gb455)); have n8_ := Aside0.mk ((by rw [hg]; exact Nat.ne_of_lt (blk_lt (g := gb462) (o := .cells #[.int .i64 t456, .int .i64 t457, .int .i64 t458, .int .i64 t459] 23 (0, 0)) (by refine bs_ ?_; exact BK462.out)) : gb462 ≠ gb469)); have n9_ := Aside0.mk ((by rw [hg]; exact Nat.ne_of_gt (blk_lt (g := gb462) (o := .cells #[.int .i64 t456, .int .i64 t457, .int .i64 t458, .int .i64 t459] 23 (0, 0)) (by refine bs_ ?_; exact BK462.out)) : gb469 ≠ gb462)); clear BK455; clear BK462; clear HB; have BK455 := n0_; have BK462 := n1_; have HB := n2_; have BK469 := n3_; have GW469 := n4_; have GE469 := n5_; have NB455_469 := n6_; have NB469_455 := n7_; have NB462_469 := n8_; have NB469_462 := n9_; clear n0_ n1_ n2_ n3_ n4_ n5_ n6_ n7_ n8_ n9_; clear hb hbox hg; have hnb17 := NB469_455.out; have hnc17 := NB455_469.out; have hnb18 := NB469_462.out; have hnc18 := NB462_469.out; have hcz19_0 : w16.cell? ⟨gb469, 0, none⟩ = some (.int .i64 0) := (blk_cell BK469.out 0).trans rfl; have hcz19_1 : w16.cell? ⟨gb469, 1, none⟩ = some (.int .i64 0) := (blk_cell BK469.out 1).trans rfl; have hcz19_2 : w16.cell? ⟨gb469, 2, none⟩ = some (.int .i64 0) := (blk_cell BK469.out 2).trans rfl; have hcz19_3 : w16.cell? ⟨gb469, 3, none⟩ = some (.int .i64 0) := (blk_cell BK469.out 3).trans rfl; have hfz19_0 := blk_frozen BK469.out 0; have hfz19_1 := blk_frozen BK469.out 1; have hfz19_2 := blk_frozen BK469.out 2; have hfz19_3 := blk_frozen BK469.out 3))
 (try simp only [Act.put, List.setIfInBounds_toArray, List.set_cons_zero, List.set_cons_succ])
 go_cut [43] (fun v43 wc => ∃ (kq : Nat) (x43_6 : Bool), v43 = .bool x43_6 ∧ Aside0 (clochelaw01_DiscsRoots.j0 kq a1 a2 a3 x43_6 = some r) ∧ Aside0 (kq ≤ k) ∧ Aside0 (wc.heap[gb455]? = some (.cells #[.int .i64 a0_0, .int .i64 a0_1, .int .i64 a0_2, .int .i64 a0_3] 23 (0, 0))) ∧ Aside0 (wc.heap[gb462]? = some (.cells #[.int .i64 t456, .int .i64 t457, .int .i64 t458, .int .i64 t459] 23 (0, 0))) ∧ Aside0 (wc.heap[gb469]? = some (.cells #[.int .i64 t463, .int .i64 t464, .int .i64 t465, .int .i64 t466] 23 (0, 0))) ∧ Aside0 (Below w.heap.size w wc))
 case first =>
  have H := HC7.out
  clear HC7
  by_cases c20 : (!(t456 == t463) || (!(t457 == t464) || (!(t458 == t465) || (!(t459 == t466))))) = true
  ·rw [if_pos c20] at H
   exact absurd H (by simp)
  ·rw [if_neg c20] at H
   have c20b0 : (!(t456 == t463) || (!(t457 == t464) || (!(t458 == t465) || (!(t459 == t466))))) = false := by simpa using c20
   clear c20
   (first | rw [c20b0] | (simp only [i64_w, i32_w]; rw [c20b0]) | skip)
   by_cases c21 : t460 = t467
   ·rw [if_pos c21] at H
    have c21b0 : (t460 == t467) = true := beq_iff_eq.mpr c21
    have c21b1 : (t460 != t467) = false := bne_eq_false_iff_eq.mpr c21
    clear c21
    have H' := Aside0.mk H
    clear H
    have hnb22 := NB462_455.out
    have hnc22 := NB455_462.out
    have hnb23 := NB462_469.out
    have hnc23 := NB469_462.out
    have hcz24_0 : w16.cell? ⟨gb462, 0, none⟩ = some (.int .i64 t456) := (blk_cell BK462.out 0).trans rfl
    have hcz24_1 : w16.cell? ⟨gb462, 1, none⟩ = some (.int .i64 t457) := (blk_cell BK462.out 1).trans rfl
    have hcz24_2 : w16.cell? ⟨gb462, 2, none⟩ = some (.int .i64 t458) := (blk_cell BK462.out 2).trans rfl
    have hcz24_3 : w16.cell? ⟨gb462, 3, none⟩ = some (.int .i64 t459) := (blk_cell BK462.out 3).trans rfl
    have hfz24_0 := blk_frozen BK462.out 0
    have hfz24_1 := blk_frozen BK462.out 1
    have hfz24_2 := blk_frozen BK462.out 2
    have hfz24_3 := blk_frozen BK462.out 3
    have hnb25 := NB469_455.out
    have hnc25 := NB455_469.out
    have hcz26_0 : w16.cell? ⟨gb469, 0, none⟩ = some (.int .i64 0) := (blk_cell BK469.out 0).trans rfl
    have hcz26_1 : w16.cell? ⟨gb469, 1, none⟩ = some (.int .i64 0) := (blk_cell BK469.out 1).trans rfl
    have hcz26_2 : w16.cell? ⟨gb469, 2, none⟩ = some (.int .i64 0) := (blk_cell BK469.out 2).trans rfl
    have hcz26_3 : w16.cell? ⟨gb469, 3, none⟩ = some (.int .i64 0) := (blk_cell BK469.out 3).trans rfl
    have hfz26_0 := blk_frozen BK469.out 0
    have hfz26_1 := blk_frozen BK469.out 1
    have hfz26_2 := blk_frozen BK469.out 2
    have hfz26_3 := blk_frozen BK469.out 3
    go_wp2
    go_meet
    case rel => exact ⟨_, ((t461 != t468)), eq_, H', ⟨by first | omega | exact Nat.le_refl _⟩, ⟨by refine bs_ ?_; refine blk_far ?_ NB455_469.out _; refine bs_ ?_; refine blk_far ?_ NB455_469.out _; refine bs_ ?_; refine blk_far ?_ NB455_469.out _; refine bs_ ?_; refine blk_far ?_ NB455_469.out _; refine bs_ ?_; exact BK455.out⟩, ⟨by refine bs_ ?_; refine blk_far ?_ NB462_469.out _; refine bs_ ?_; refine blk_far ?_ NB462_469.out _; refine bs_ ?_; refine blk_far ?_ NB462_469.out _; refine bs_ ?_; refine blk_far ?_ NB462_469.out _; refine bs_ ?_; exact BK462.out⟩, ⟨by refine bs_ ?_; refine blk_put (cs := #[.int .i64 t463, .int .i64 t464, .int .i64 t465, .int .i64 0]) ?_ 3 _ rfl; refine bs_ ?_; refine blk_put (cs := #[.int .i64 t463, .int .i64 t464, .int .i64 0, .int .i64 0]) ?_ 2 _ rfl; refine bs_ ?_; refine blk_put (cs := #[.int .i64 t463, .int .i64 0, .int .i64 0, .int .i64 0]) ?_ 1 _ rfl; refine bs_ ?_; refine blk_put (cs := #[.int .i64 0, .int .i64 0, .int .i64 0, .int .i64 0]) ?_ 0 _ rfl; refine bs_ ?_; exact BK469.out⟩, ⟨by repeat (first | (with_reducible first | exact HB.out | apply below_alloc | apply pw_below_drewN | apply below_drew1 | refine below_set ?_ GE455.out | refine below_set ?_ GE462.out | refine below_set ?_ GE469.out) | exact HB.out)⟩⟩
   ·rw [if_neg c21] at H
    exact absurd H (by simp)
 case rest =>
  clear HC7
  try clear c1
  try clear c2
  try clear p2
  try clear c3
  try clear c12
  try clear c15
  try clear c16
  try clear c17
  try clear c18
  try clear c20
  try clear c20b0
  try clear c21
  try clear c21b0
  try clear c21b1
  try clear c22
  try clear c23
  try clear c25
  try clear hcz13_0
  try clear hcz13_1
  try clear hcz13_2
  try clear hcz13_3
  try clear hcz14_0
  try clear hcz14_1
  try clear hcz14_2
  try clear hcz14_3
  try clear hcz19_0
  try clear hcz19_1
  try clear hcz19_2
  try clear hcz19_3
  try clear hcz24_0
  try clear hcz24_1
  try clear hcz24_2
  try clear hcz24_3
  try clear hcz26_0
  try clear hcz26_1
  try clear hcz26_2
  try clear hcz26_3
  try clear hcz9_0
  try clear hcz9_1
  try clear hcz9_2
  try clear hcz9_3
  try clear hfz13_0
  try clear hfz13_1
  try clear hfz13_2
  try clear hfz13_3
  try clear hfz14_0
  try clear hfz14_1
  try clear hfz14_2
  try clear hfz14_3
  try clear hfz19_0
  try clear hfz19_1
  try clear hfz19_2
  try clear hfz19_3
  try clear hfz24_0
  try clear hfz24_1
  try clear hfz24_2
  try clear hfz24_3
  try clear hfz26_0
  try clear hfz26_1
  try clear hfz26_2
  try clear hfz26_3
  try clear hfz9_0
  try clear hfz9_1
  try clear hfz9_2
  try clear hfz9_3
  obtain ⟨kq, x43_6, rfl, HA, HJ6, BK455, BK462, BK469, HB⟩ := hcut
  cases kq with
  | zero => exact absurd HA.out (by simp [clochelaw01_DiscsRoots.j0])
  | succ kj6 =>
   have H := HA.out
   clear HA
   simp only [clochelaw01_DiscsRoots.j0] at H
   by_cases c27 : x43_6 = true
   ·subst c27
    have H1 : (none) = some r := by rw [if_pos rfl] at H; exact H
    clear H
    have H := H1
    clear H1
    exact absurd H (by simp)
   ·replace c27 := Bool.eq_false_iff.mpr c27
    subst c27
    have H1 : ((discs_Fourth.f kj6 a1 a2 a3).bind fun bt470 => ((clocheref01_Fourth.f kj6 a1 a2 a3).bind fun bt473 => (if bt470.1 = bt473.1 then (if bt470.2.1 = bt473.2.1 then (if bt470.2.2 = bt473.2.2 then ((clochelaw01_alive.f kj6).bind fun t476 => (some t476)) else (none)) else (none)) else (none)))) = some r := by rw [if_neg (show ¬ (false = true) by decide)] at H; exact H
    clear H
    have H := H1
    clear H1
    replace H := Option.bind_eq_some_iff.mp H
    obtain ⟨⟨t470, t471, t472⟩, A280, H⟩ := H
    replace H : ((clocheref01_Fourth.f kj6 a1 a2 a3).bind fun bt473 => (if t470 = bt473.1 then (if t471 = bt473.2.1 then (if t472 = bt473.2.2 then ((clochelaw01_alive.f kj6).bind fun t476 => (some t476)) else (none)) else (none)) else (none))) = some r := H
    have A28 := Aside0.mk A280
    clear A280
    replace H := Option.bind_eq_some_iff.mp H
    obtain ⟨⟨t473, t474, t475⟩, A290, H⟩ := H
    replace H : (if t470 = t473 then (if t471 = t474 then (if t472 = t475 then ((clochelaw01_alive.f kj6).bind fun t476 => (some t476)) else (none)) else (none)) else (none)) = some r := H
    have A29 := Aside0.mk A290
    clear A290
    by_cases c30 : t470 = t473
    ·rw [if_pos c30] at H
     have c30b0 : (t470 == t473) = true := beq_iff_eq.mpr c30
     have c30b1 : (t470 != t473) = false := bne_eq_false_iff_eq.mpr c30
     clear c30
     by_cases c31 : t471 = t474
     ·rw [if_pos c31] at H
      have c31b0 : (t471 == t474) = true := beq_iff_eq.mpr c31
      have c31b1 : (t471 != t474) = false := bne_eq_false_iff_eq.mpr c31
      clear c31
      by_cases c32 : t472 = t475
      ·rw [if_pos c32] at H
       have c32b0 : (t472 == t475) = true := beq_iff_eq.mpr c32
       have c32b1 : (t472 != t475) = false := bne_eq_false_iff_eq.mpr c32
       clear c32
       replace H := Option.bind_eq_some_iff.mp H
       obtain ⟨t476, A330, H⟩ := H
       replace H : (some t476) = some r := H
       have A33 := Aside0.mk A330
       clear A330
       obtain rfl := Option.some.inj H
       go_wp2_with (first | ((with_reducible refine gate_callee (f := 17) rfl ?_); refine goesL_ (some 48) rfl rfl Try.func17 (by kernel_rfl) rfl #[.int .i64 a1, .int .i64 a2, .int .i64 a3] rfl mp_ ?_; (with_reducible refine (discs_Fourth.calls kj6 a1 a2 a3 t470 t471 t472 _ A28.out).mono ?_); rintro e w34 ⟨rfl, hb⟩; refine ⟨_, rfl, ?_⟩; have n0_ := Aside0.mk (blk_below (g := gb455) (o := .cells #[.int .i64 a0_0, .int .i64 a0_1, .int .i64 a0_2, .int .i64 a0_3] 23 (0, 0)) (by refine bs_ ?_; exact BK455.out) hb); have n1_ := Aside0.mk (blk_below (g := gb462) (o := .cells #[.int .i64 t456, .int .i64 t457, .int .i64 t458, .int .i64 t459] 23 (0, 0)) (by refine bs_ ?_; exact BK462.out) hb); have n2_ := Aside0.mk (blk_below (g := gb469) (o := .cells #[.int .i64 t463, .int .i64 t464, .int .i64 t465, .int .i64 t466] 23 (0, 0)) (by refine bs_ ?_; exact BK469.out) hb); have n3_ := Aside0.mk (below_step (by repeat (first | (with_reducible first | exact HB.out | apply below_alloc | apply pw_below_drewN | apply below_drew1 | refine below_set ?_ GE455.out | refine below_set ?_ GE462.out | refine below_set ?_ GE469.out) | exact HB.out)) hb); clear BK455; clear BK462; clear BK469; clear HB; have BK455 := n0_; have BK462 := n1_; have BK469 := n2_; have HB := n3_; clear n0_ n1_ n2_ n3_; (try clear hb); (try clear hb2); (try clear hk); (try clear hi)) | ((with_reducible refine gate_callee (f := 18) rfl ?_); refine goesL_ (some 56) rfl rfl Try.func18 (by kernel_rfl) rfl #[.int .i64 a1, .int .i64 a2, .int .i64 a3] rfl mp_ ?_; (with_reducible refine (clocheref01_Fourth.calls kj6 a1 a2 a3 t473 t474 t475 _ A29.out).mono ?_); rintro e w35 ⟨rfl, hb⟩; refine ⟨_, rfl, ?_⟩; have n0_ := Aside0.mk (blk_below (g := gb455) (o := .cells #[.int .i64 a0_0, .int .i64 a0_1, .int .i64 a0_2, .int .i64 a0_3] 23 (0, 0)) (by refine bs_ ?_; exact BK455.out) hb); have n1_ := Aside0.mk (blk_below (g := gb462) (o := .cells #[.int .i64 t456, .int .i64 t457, .int .i64 t458, .int .i64 t459] 23 (0, 0)) (by refine bs_ ?_; exact BK462.out) hb); have n2_ := Aside0.mk (blk_below (g := gb469) (o := .cells #[.int .i64 t463, .int .i64 t464, .int .i64 t465, .int .i64 t466] 23 (0, 0)) (by refine bs_ ?_; exact BK469.out) hb); have n3_ := Aside0.mk (below_step (by repeat (first | (with_reducible first | exact HB.out | apply below_alloc | apply pw_below_drewN | apply below_drew1 | refine below_set ?_ GE455.out | refine below_set ?_ GE462.out | refine below_set ?_ GE469.out) | exact HB.out)) hb); clear BK455; clear BK462; clear BK469; clear HB; have BK455 := n0_; have BK462 := n1_; have BK469 := n2_; have HB := n3_; clear n0_ n1_ n2_ n3_; (try clear hb); (try clear hb2); (try clear hk); (try clear hi)) | (go_at_call 19; (with_reducible refine (clochelaw01_alive.calls kj6  t476 _ A33.out).mono ?_); rintro e w36 ⟨rfl, hb⟩; have n0_ := Aside0.mk (blk_below (g := gb455) (o := .cells #[.int .i64 a0_0, .int .i64 a0_1, .int .i64 a0_2, .int .i64 a0_3] 23 (0, 0)) (by refine bs_ ?_; exact BK455.out) hb); have n1_ := Aside0.mk (blk_below (g := gb462) (o := .cells #[.int .i64 t456, .int .i64 t457, .int .i64 t458, .int .i64 t459] 23 (0, 0)) (by refine bs_ ?_; exact BK462.out) hb); have n2_ := Aside0.mk (blk_below (g := gb469) (o := .cells #[.int .i64 t463, .int .i64 t464, .int .i64 t465, .int .i64 t466] 23 (0, 0)) (by refine bs_ ?_; exact BK469.out) hb); have n3_ := Aside0.mk (below_step (by repeat (first | (with_reducible first | exact HB.out | apply below_alloc | apply pw_below_drewN | apply below_drew1 | refine below_set ?_ GE455.out | refine below_set ?_ GE462.out | refine below_set ?_ GE469.out) | exact HB.out)) hb); clear BK455; clear BK462; clear BK469; clear HB; have BK455 := n0_; have BK462 := n1_; have BK469 := n2_; have HB := n3_; clear n0_ n1_ n2_ n3_; (try clear hb); (try clear hb2); (try clear hk); (try clear hi)))
       go_ret
       exact ⟨by first | rfl | (simp [errW_none, errW_some] <;> rfl) | (simp [*, errW_none, errW_some] <;> rfl), by repeat (first | (with_reducible first | exact HB.out | apply below_alloc | apply pw_below_drewN | apply below_drew1 | refine below_set ?_ GE455.out | refine below_set ?_ GE462.out | refine below_set ?_ GE469.out) | exact HB.out)⟩
      ·rw [if_neg c32] at H
       exact absurd H (by simp)
     ·rw [if_neg c31] at H
      exact absurd H (by simp)
    ·rw [if_neg c30] at H
     exact absurd H (by simp)

end Go.Proofs.Ytlfmafebmnggeaa.Print
