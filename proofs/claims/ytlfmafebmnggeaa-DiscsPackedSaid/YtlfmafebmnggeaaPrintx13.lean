/- What the functions of the discs compute, printed by this repo's hand printer. -/
import Derived.Test.YtlfmafebmnggeaaShort
import Derived.Test.YtlfmafebmnggeaaPrintx0
import Derived.Test.YtlfmafebmnggeaaPrintx7
import Derived.Test.YtlfmafebmnggeaaPrintx8
import Derived.Test.YtlfmafebmnggeaaPrintx10
import Derived.Test.YtlfmafebmnggeaaPrintx12
namespace Go.Proofs.Ytlfmafebmnggeaa.Print
open Go.RowKit Go.Proofs.YtlfmafebmnggeaaW.PrintWords Go.Proofs.YtlfmafebmnggeaaW.PrintLast Go.Proofs.YtlfmafebmnggeaaW.PrintMore
attribute [local go_sem] max2_int min2_int max_two min_two max_three min_three max_four min_four
set_option maxHeartbeats 8000000 -- slim
set_option maxRecDepth 100000
set_option linter.unusedVariables false
set_option linter.unusedSimpArgs false

/-! ### clocheref01_IsQuad: function 27 -/
def clocheref01_IsQuad.l0 : Nat → Int → Int → Int → Int → Int → Bool → List Int → Bool → List Int → Option (Bool)
 | 0, _, _, _, _, _, _, _, _, _ => none
 | k + 1, x5, x282000, x282001, x282002, x282003, x291000, x291001, x292000, x292001 => if x5 < 4 then (if 0 ≤ x5 then ((clocheref01_InRange.f (at4 x282000 x282001 x282002 x282003 x5)).bind fun t292 => (if t292 = true then ((clocheref01_Of.f k (at4 x282000 x282001 x282002 x282003 x5)).bind fun bt293 => ((clocheref01_Plus.f k x291000 x291001 bt293.1 bt293.2).bind fun bt297 => ((clocheref01_Of.f k (at4 x282000 x282001 x282002 x282003 x5)).bind fun bt301 => ((clocheref01_Of.f k (at4 x282000 x282001 x282002 x282003 x5)).bind fun bt305 => ((clocheref01_Times.f k bt301.1 bt301.2 bt305.1 bt305.2).bind fun bt309 => ((clocheref01_Plus.f k x292000 x292001 bt309.1 bt309.2).bind fun bt313 => (clocheref01_IsQuad.l0 k (wrap64 (x5 + 1)) x282000 x282001 x282002 x282003 bt297.1 bt297.2 bt313.1 bt313.2))))))) else (some false))) else (none)) else ((clocheref01_Of.f k 0).bind fun bt317 => ((clocheref01_Compare.f k x291000 x291001 bt317.1 bt317.2).bind fun t321 => (if t321 > 0 then ((clocheref01_Times.f k x291000 x291001 x291000 x291001).bind fun bt322 => ((clocheref01_Of.f k 2).bind fun bt326 => ((clocheref01_Times.f k bt326.1 bt326.2 x292000 x292001).bind fun bt330 => ((clocheref01_Compare.f k bt322.1 bt322.2 bt330.1 bt330.2).bind fun t334 => (some (t334 == 0)))))) else (some false))))
def clocheref01_IsQuad.f (k : Nat) (a0_0 : Int) (a0_1 : Int) (a0_2 : Int) (a0_3 : Int) : Option (Bool) := (clocheref01_Of.f k 0).bind fun bt282 => ((clocheref01_Of.f k 0).bind fun bt286 => (clocheref01_IsQuad.l0 k 0 a0_0 a0_1 a0_2 a0_3 bt282.1 bt282.2 bt286.1 bt286.2))
theorem clocheref01_IsQuad.mono_l : ∀ k, (∀ y0 y1 y2 y3 y4 y5 y6 y7 y8, LeO (clocheref01_IsQuad.l0 k y0 y1 y2 y3 y4 y5 y6 y7 y8) (clocheref01_IsQuad.l0 (k + 1) y0 y1 y2 y3 y4 y5 y6 y7 y8))
 | 0 => fun _ _ _ _ _ _ _ _ _ r h => by simp [clocheref01_IsQuad.l0] at h
 | k + 1 => by
  have ih0 := clocheref01_IsQuad.mono_l k
  ·intro y0 y1 y2 y3 y4 y5 y6 y7 y8
   unfold clocheref01_IsQuad.l0
   repeat' first
   | (with_reducible exact ih0 _ _ _ _ _ _ _ _ _)
   | (with_reducible exact clocheref01_Compare.mono _ _ _ _ _)
   | (with_reducible exact clocheref01_Of.mono _ _)
   | (with_reducible exact clocheref01_Plus.mono _ _ _ _ _)
   | (with_reducible exact clocheref01_Times.mono _ _ _ _ _)
   | (with_reducible exact LeO.refl _)
   | (with_reducible exact LeO.none _)
   | (with_reducible refine LeO.ite ?_ ?_)
   | (with_reducible refine LeO.bind ?_ (fun _ => ?_))
   | exact ih0 _ _ _ _ _ _ _ _ _
   | exact clocheref01_Compare.mono _ _ _ _ _
   | exact clocheref01_Of.mono _ _
   | exact clocheref01_Plus.mono _ _ _ _ _
   | exact clocheref01_Times.mono _ _ _ _ _
   | exact LeO.none _
   | refine LeO.ite ?_ ?_
   | refine LeO.bind ?_ (fun _ => ?_)
theorem clocheref01_IsQuad.mono : ∀ a0 a1 a2 a3 k, LeO (clocheref01_IsQuad.f k a0 a1 a2 a3) (clocheref01_IsQuad.f (k + 1) a0 a1 a2 a3) := by
 intro a0 a1 a2 a3 k
 have ih0 := clocheref01_IsQuad.mono_l k
 unfold clocheref01_IsQuad.f
 repeat' first
   | (with_reducible exact ih0 _ _ _ _ _ _ _ _ _)
   | (with_reducible exact clocheref01_Compare.mono _ _ _ _ _)
   | (with_reducible exact clocheref01_Of.mono _ _)
   | (with_reducible exact clocheref01_Plus.mono _ _ _ _ _)
   | (with_reducible exact clocheref01_Times.mono _ _ _ _ _)
   | (with_reducible exact LeO.refl _)
   | (with_reducible exact LeO.none _)
   | (with_reducible refine LeO.ite ?_ ?_)
   | (with_reducible refine LeO.bind ?_ (fun _ => ?_))
   | exact ih0 _ _ _ _ _ _ _ _ _
   | exact clocheref01_Compare.mono _ _ _ _ _
   | exact clocheref01_Of.mono _ _
   | exact clocheref01_Plus.mono _ _ _ _ _
   | exact clocheref01_Times.mono _ _ _ _ _
   | exact LeO.none _
   | refine LeO.ite ?_ ?_
   | refine LeO.bind ?_ (fun _ => ?_)
def clocheref01_IsQuad.T8 : Bool × List (List Nat × List Nat) := (true, [([], []), ([], []), ([1], [1]), ([2], [2]), ([3], [3]), ([], []), ([5], [5]), ([6], [6]), ([7, 4], [7]), ([4, 8, 8], [4, 8]), ([0, 9, 9], [0, 9]), ([10, 10, 0, 1, 2, 3, 4, 5, 6, 7, 8, 9, 10], [10])])
def clocheref01_IsQuad.B8 : List Nat := [0, 0, 2, 6, 14, 0, 32, 96, 254, 510, 1023, 2047]
theorem clocheref01_IsQuad.tab8 : rtab .any (opsOf Try.f27 8) = clocheref01_IsQuad.T8 := by kernel_rfl
theorem clocheref01_IsQuad.bits8 : waitsOk clocheref01_IsQuad.T8.2 clocheref01_IsQuad.B8 = true := by kernel_rfl
def clocheref01_IsQuad.T9 : Bool × List (List Nat × List Nat) := (true, [([], []), ([], []), ([0, 1, 1], [0, 1]), ([2], [2]), ([3, 2], [3]), ([4], [4]), ([4], [4]), ([5, 6, 4, 4], [4, 5, 6]), ([7, 4], [4]), ([4], [4]), ([8, 9, 8, 4], [4, 8, 9]), ([7, 10, 10, 4], [4, 7, 10]), ([11, 4], [4, 11]), ([4, 12], [4, 12]), ([13, 11, 0, 1, 2, 3, 4, 5, 6, 7, 8, 9, 10, 11, 12, 13], [13])])
def clocheref01_IsQuad.B9 : List Nat := [0, 0, 3, 7, 15, 31, 31, 127, 255, 31, 1023, 2047, 4095, 8191, 16383]
theorem clocheref01_IsQuad.tab9 : rtab .any (opsOf Try.f27 9) = clocheref01_IsQuad.T9 := by kernel_rfl
theorem clocheref01_IsQuad.bits9 : waitsOk clocheref01_IsQuad.T9.2 clocheref01_IsQuad.B9 = true := by kernel_rfl
theorem clocheref01_IsQuad.calls (k : Nat) (a0_0 : Int) (a0_1 : Int) (a0_2 : Int) (a0_3 : Int) (r : Bool) (w : World) (h : clocheref01_IsQuad.f k a0_0 a0_1 a0_2 a0_3 = some r) :
  Calls Try.prog 27 #[.agg #[.int .i64 a0_0, .int .i64 a0_1, .int .i64 a0_2, .int .i64 a0_3]] w fun e w' => e = .returned (.bool r) ∧ Below w.heap.size w w' := by
 have hu23 := Try.underlying23
 have hu75 := Try.underlying75
 have HB := Aside0.mk (Below.refl w.heap.size w)
 have H : ((clocheref01_Of.f k 0).bind fun bt282 => ((clocheref01_Of.f k 0).bind fun bt286 => (clocheref01_IsQuad.l0 k 0 a0_0 a0_1 a0_2 a0_3 bt282.1 bt282.2 bt286.1 bt286.2))) = some r := h
 clear h
 replace H := Option.bind_eq_some_iff.mp H
 obtain ⟨⟨t282, t283⟩, A20, H⟩ := H
 replace H : ((clocheref01_Of.f k 0).bind fun bt286 => (clocheref01_IsQuad.l0 k 0 a0_0 a0_1 a0_2 a0_3 t282 t283 bt286.1 bt286.2)) = some r := H
 have A2 := Aside0.mk A20
 clear A20
 replace H := Option.bind_eq_some_iff.mp H
 obtain ⟨⟨t286, t287⟩, A30, H⟩ := H
 replace H : (clocheref01_IsQuad.l0 k 0 a0_0 a0_1 a0_2 a0_3 t282 t283 t286 t287) = some r := H
 have A3 := Aside0.mk A30
 clear A30
 have H' := Aside0.mk H
 clear H
 go_enter Try.func27, Try.ntmps27
 go_wp2_with (first | ((with_reducible refine gate_dst (N := 1) rfl ?_); refine box_event ?hg (N := 1) ?hd (cs := #[.int .i64 a0_0, .int .i64 a0_1, .int .i64 a0_2, .int .i64 a0_3]) (t := 23) ?hr ?_; (case hd => rfl); (case hg => rfl); (case hr => exact gs_); intro gb281 hg w4 hbox hb; have n0_ := Aside0.mk (below_step (lw_ HB.out) hb); have n1_ := Aside0.mk (hbox); have n2_ := Aside0.mk ((by rw [hg]; exact (below_size (lw_ HB.out)) : w.heap.size ≤ gb281)); have n3_ := Aside0.mk ((by rw [hg]; exact (below_size (lw_ HB.out)) : w.heap.size ≤ gb281)); clear HB; have HB := n0_; have BK281 := n1_; have GW281 := n2_; have GE281 := n3_; clear n0_ n1_ n2_ n3_; clear hb hbox hg) | ((with_reducible refine gate_callee (f := 56) rfl ?_); refine goesL_ (some 6) rfl rfl Try.func56 (by kernel_rfl) rfl #[.int .i64 0] rfl mp_ ?_; (with_reducible refine (clocheref01_Of.calls k 0 t282 t283 _ A2.out).mono ?_); rintro e w5 ⟨v284, rfl, ho0, hb⟩; refine ⟨_, rfl, ?_⟩; have n0_ := Aside0.mk (Kd.R_lower ho0 (below_size (by repeat (first | (with_reducible first | exact HB.out | apply below_alloc | apply pw_below_drewN | apply below_drew1 | refine below_set ?_ GE281.out) | exact HB.out)))); have n1_ := Aside0.mk (blk_below (g := gb281) (o := .cells #[.int .i64 a0_0, .int .i64 a0_1, .int .i64 a0_2, .int .i64 a0_3] 23 (0, 0)) (by refine bs_ ?_; exact BK281.out) hb); have n2_ := Aside0.mk (below_step (by repeat (first | (with_reducible first | exact HB.out | apply below_alloc | apply pw_below_drewN | apply below_drew1 | refine below_set ?_ GE281.out) | exact HB.out)) hb); clear BK281; clear HB; have HO285 := n0_; have BK281 := n1_; have HB := n2_; clear n0_ n1_ n2_; (try clear hb); (try clear hb2); (try clear hk); (try clear hi); (try clear ho0)) | ((with_reducible refine gate_callee (f := 56) rfl ?_); refine goesL_ (some 7) rfl rfl Try.func56 (by kernel_rfl) rfl #[.int .i64 0] rfl mp_ ?_; (with_reducible refine (clocheref01_Of.calls k 0 t286 t287 _ A3.out).mono ?_); rintro e w6 ⟨v288, rfl, ho0, hb⟩; refine ⟨_, rfl, ?_⟩; have n0_ := Aside0.mk (Kd.R_elder' (by refine kr_ ?_; exact HO285.out) (Kd.R_base ho0) hb); have n1_ := Aside0.mk (Kd.R_lower (Kd.R_new' ho0 (Kd.R_lt (by refine kr_ ?_; exact HO285.out))) (below_size (by repeat (first | (with_reducible first | exact HB.out | apply below_alloc | apply pw_below_drewN | apply below_drew1 | refine below_set ?_ GE281.out) | exact HB.out)))); have n2_ := Aside0.mk (blk_below (g := gb281) (o := .cells #[.int .i64 a0_0, .int .i64 a0_1, .int .i64 a0_2, .int .i64 a0_3] 23 (0, 0)) (by refine bs_ ?_; exact BK281.out) hb); have n3_ := Aside0.mk (below_step (by repeat (first | (with_reducible first | exact HB.out | apply below_alloc | apply pw_below_drewN | apply below_drew1 | refine below_set ?_ GE281.out) | exact HB.out)) hb); clear HO285; clear BK281; clear HB; have HO285 := n0_; have HO289 := n1_; have BK281 := n2_; have HB := n3_; clear n0_ n1_ n2_ n3_; (try clear hb); (try clear hb2); (try clear hk); (try clear hi); (try clear ho0)) | ((with_reducible refine gate_dst (N := 3) rfl ?_); refine box_event ?hg (N := 3) ?hd (cs := #[.bool false, .slice none 0 0]) (t := 75) ?hr ?_; (case hd => rfl); (case hg => rfl); (case hr => exact gs_); intro gb290 hg w7 hbox hb; have n0_ := Aside0.mk (Kd.R_below (by refine kr_ ?_; exact HO285.out) hb); have n1_ := Aside0.mk (Kd.R_below (by refine kr_ ?_; exact HO289.out) hb); have n2_ := Aside0.mk (blk_below (g := gb281) (o := .cells #[.int .i64 a0_0, .int .i64 a0_1, .int .i64 a0_2, .int .i64 a0_3] 23 (0, 0)) (by refine bs_ ?_; exact BK281.out) hb); have n3_ := Aside0.mk (below_step (by repeat (first | (with_reducible first | exact HB.out | apply below_alloc | apply pw_below_drewN | apply below_drew1 | refine below_set ?_ GE281.out) | exact HB.out)) hb); have n4_ := Aside0.mk (hbox); have n5_ := Aside0.mk ((by rw [hg]; exact (below_size (by repeat (first | (with_reducible first | exact HB.out | apply below_alloc | apply pw_below_drewN | apply below_drew1 | refine below_set ?_ GE281.out) | exact HB.out))) : w.heap.size ≤ gb290)); have n6_ := Aside0.mk ((by rw [hg]; exact (below_size (by repeat (first | (with_reducible first | exact HB.out | apply below_alloc | apply pw_below_drewN | apply below_drew1 | refine below_set ?_ GE281.out) | exact HB.out))) : w.heap.size ≤ gb290)); have n7_ := Aside0.mk ((by rw [hg]; exact Nat.ne_of_lt (blk_lt (g := gb281) (o := .cells #[.int .i64 a0_0, .int .i64 a0_1, .int .i64 a0_2, .int .i64 a0_3] 23 (0, 0)) (by refine bs_ ?_; exact BK281.out)) : gb281 ≠ gb290)); have n8_ := Aside0.mk ((by rw [hg]; exact Nat.ne_of_gt (blk_lt (g := gb281) (o := .cells #[.int .i64 a0_0, .int .i64 a0_1, .int .i64 a0_2, .int .i64 a0_3] 23 (0, 0)) (by refine bs_ ?_; exact BK281.out)) : gb290 ≠ gb281)); clear HO285; clear HO289; clear BK281; clear HB; have HO285 := n0_; have HO289 := n1_; have BK281 := n2_; have HB := n3_; have BK290 := n4_; have GW290 := n5_; have GE290 := n6_; have NB281_290 := n7_; have NB290_281 := n8_; clear n0_ n1_ n2_ n3_ n4_ n5_ n6_ n7_ n8_; clear hb hbox hg) | ((with_reducible refine gate_dst (N := 4) rfl ?_); refine box_event ?hg (N := 4) ?hd (cs := #[.bool false, .slice none 0 0]) (t := 75) ?hr ?_; (case hd => rfl); (case hg => rfl); (case hr => exact gs_); intro gb291 hg w8 hbox hb; have n0_ := Aside0.mk (Kd.R_below (by refine kr_ ?_; exact HO285.out) hb); have n1_ := Aside0.mk (Kd.R_below (by refine kr_ ?_; exact HO289.out) hb); have n2_ := Aside0.mk (blk_below (g := gb281) (o := .cells #[.int .i64 a0_0, .int .i64 a0_1, .int .i64 a0_2, .int .i64 a0_3] 23 (0, 0)) (by refine bs_ ?_; exact BK281.out) hb); have n3_ := Aside0.mk (blk_below (g := gb290) (o := .cells #[.bool false, .slice none 0 0] 75 (0, 0)) (by refine bs_ ?_; exact BK290.out) hb); have n4_ := Aside0.mk (below_step (by repeat (first | (with_reducible first | exact HB.out | apply below_alloc | apply pw_below_drewN | apply below_drew1 | refine below_set ?_ GE281.out | refine below_set ?_ GE290.out) | exact HB.out)) hb); have n5_ := Aside0.mk (hbox); have n6_ := Aside0.mk ((by rw [hg]; exact (below_size (by repeat (first | (with_reducible first | exact HB.out | apply below_alloc | apply pw_below_drewN | apply below_drew1 | refine below_set ?_ GE281.out | refine below_set ?_ GE290.out) | exact HB.out))) : w.heap.size ≤ gb291)); have n7_ := Aside0.mk ((by rw [hg]; exact (below_size (by repeat (first | (with_reducible first | exact HB.out | apply below_alloc | apply pw_below_drewN | apply below_drew1 | refine below_set ?_ GE281.out | refine below_set ?_ GE290.out) | exact HB.out))) : w.heap.size ≤ gb291)); have n8_ := Aside0.mk ((by rw [hg]; exact Nat.ne_of_lt (blk_lt (g := gb281) (o := .cells #[.int .i64 a0_0, .int .i64 a0_1, .int .i64 a0_2, .int .i64 a0_3] 23 (0, 0)) (by refine bs_ ?_; exact BK281.out)) : gb281 ≠ gb291)); have n9_ := Aside0.mk ((by rw [hg]; exact Nat.ne_of_gt (blk_lt (g := gb281) (o := .cells #[.int .i64 a0_0, .int .i64 a0_1, .int .i64 a0_2, .int .i64 a0_3] 23 (0, 0)) (by refine bs_ ?_; exact BK281.out)) : gb291 ≠ gb281)); have n10_ := Aside0.mk ((by rw [hg]; exact Nat.ne_of_lt (blk_lt (g := gb290) (o := .cells #[.bool false, .slice none 0 0] 75 (0, 0)) (by refine bs_ ?_; exact BK290.out)) : gb290 ≠ gb291)); have n11_ := Aside0.mk ((by rw [hg]; exact Nat.ne_of_gt (blk_lt (g := gb290) (o := .cells #[.bool false, .slice none 0 0] 75 (0, 0)) (by refine bs_ ?_; exact BK290.out)) : gb291 ≠ gb290)); clear HO285; clear HO289; clear BK281; clear BK290; clear HB; have HO285 := n0_; have HO289 := n1_; have BK281 := n2_; have BK290 := n3_; have HB := n4_; have BK291 := n5_; have GW291 := n6_; have GE291 := n7_; have NB281_291 := n8_; have NB291_281 := n9_; have NB290_291 := n10_; have NB291_290 := n11_; clear n0_ n1_ n2_ n3_ n4_ n5_ n6_ n7_ n8_ n9_ n10_ n11_; clear hb hbox hg; have hnb9 := NB290_281.out; have hnc9 := NB281_290.out; have hnb10 := NB290_291.out; have hnc10 := NB291_290.out; have hcz11_0 : w8.cell? ⟨gb290, 0, none⟩ = some (.bool false) := (blk_cell BK290.out 0).trans rfl; have hcz11_1 : w8.cell? ⟨gb290, 1, none⟩ = some (.slice none 0 0) := (blk_cell BK290.out 1).trans rfl; have hfz11_0 := blk_frozen BK290.out 0; have hfz11_1 := blk_frozen BK290.out 1; obtain ⟨Ao12, co12, eo12⟩ := Kd.R_slice HO285.out; subst eo12; have hnb13 := NB291_281.out; have hnc13 := NB281_291.out; have hcz14_0 : w8.cell? ⟨gb291, 0, none⟩ = some (.bool false) := (blk_cell BK291.out 0).trans rfl; have hcz14_1 : w8.cell? ⟨gb291, 1, none⟩ = some (.slice none 0 0) := (blk_cell BK291.out 1).trans rfl; have hfz14_0 := blk_frozen BK291.out 0; have hfz14_1 := blk_frozen BK291.out 1; obtain ⟨Ao15, co15, eo15⟩ := Kd.R_slice HO289.out; subst eo15))
 go_loopg [5] k (fun kq v5 w' => ∃ (x5_1 : Int) (x291000_1 : Bool) (x291001_1 : List Int) (x292000_1 : Bool) (x292001_1 : List Int) (u291001 : Value) (u292001 : Value), v5 = .int .i64 x5_1 ∧ Aside0 (clocheref01_IsQuad.l0 kq x5_1 a0_0 a0_1 a0_2 a0_3 x291000_1 x291001_1 x292000_1 x292001_1 = some r) ∧ Aside0 (kq ≤ k) ∧ Aside0 (Kd.R (Kd.int .i64) 3 w' w.heap.size (fun k_ => some k_ ≠ (u292001 : Value).ownBlock) u291001 x291001_1) ∧ Aside0 (Kd.R (Kd.int .i64) 3 w' w.heap.size (fun k_ => some k_ ≠ (u291001 : Value).ownBlock) u292001 x292001_1) ∧ Aside0 (w'.heap[gb281]? = some (.cells #[.int .i64 a0_0, .int .i64 a0_1, .int .i64 a0_2, .int .i64 a0_3] 23 (0, 0))) ∧ Aside0 (w'.heap[gb290]? = some (.cells #[.bool x291000_1, u291001] 75 (0, 0))) ∧ Aside0 (w'.heap[gb291]? = some (.cells #[.bool x292000_1, u292001] 75 (0, 0))) ∧ Aside0 (Below w.heap.size w w'))
 case atStart => exact ⟨(0), (t282), (t283), (t286), (t287), (.slice Ao12 t283.length co12), (.slice Ao15 t287.length co15), eq_, H', ⟨Nat.le_refl _⟩, ⟨by refine kr_ ?_; exact Kd.R_mono (Kd.R_far (p := ⟨gb291, 1, none⟩) (Kd.R_far (p := ⟨gb291, 0, none⟩) (Kd.R_far (p := ⟨gb290, 1, none⟩) (Kd.R_far (p := ⟨gb290, 0, none⟩) (Kd.R_types (Kd.R_types HO285.out BK290.out (by decide)) BK291.out (by decide)) (fun _ hk => hk.1.2) (.bool t282)) (fun _ hk => hk.1.2) (.slice Ao12 t283.length co12)) (fun _ hk => hk.2) (.bool t286)) (fun _ hk => hk.2) (.slice Ao15 t287.length co15)) (fun _ hk => hk.1.1.2)⟩, ⟨by refine kr_ ?_; exact Kd.R_mono (Kd.R_far (p := ⟨gb291, 1, none⟩) (Kd.R_far (p := ⟨gb291, 0, none⟩) (Kd.R_far (p := ⟨gb290, 1, none⟩) (Kd.R_far (p := ⟨gb290, 0, none⟩) (Kd.R_types (Kd.R_types HO289.out BK290.out (by decide)) BK291.out (by decide)) (fun _ hk => hk.1.2) (.bool t282)) (fun _ hk => hk.1.2) (.slice Ao12 t283.length co12)) (fun _ hk => hk.2) (.bool t286)) (fun _ hk => hk.2) (.slice Ao15 t287.length co15)) (fun _ hk => hk.1.1.2)⟩, ⟨by refine bs_ ?_; refine blk_far ?_ NB281_291.out _; refine bs_ ?_; refine blk_far ?_ NB281_291.out _; refine bs_ ?_; refine blk_far ?_ NB281_290.out _; refine bs_ ?_; refine blk_far ?_ NB281_290.out _; refine bs_ ?_; exact BK281.out⟩, ⟨by refine bs_ ?_; refine blk_far ?_ NB290_291.out _; refine bs_ ?_; refine blk_far ?_ NB290_291.out _; refine bs_ ?_; refine blk_put (cs := #[.bool t282, .slice none 0 0]) ?_ 1 _ rfl; refine bs_ ?_; refine blk_put (cs := #[.bool false, .slice none 0 0]) ?_ 0 _ rfl; refine bs_ ?_; exact BK290.out⟩, ⟨by refine bs_ ?_; refine blk_put (cs := #[.bool t286, .slice none 0 0]) ?_ 1 _ rfl; refine bs_ ?_; refine blk_put (cs := #[.bool false, .slice none 0 0]) ?_ 0 _ rfl; refine bs_ ?_; refine blk_far ?_ NB291_290.out _; refine bs_ ?_; refine blk_far ?_ NB291_290.out _; refine bs_ ?_; exact BK291.out⟩, ⟨by repeat (first | (with_reducible first | exact HB.out | apply below_alloc | apply pw_below_drewN | apply below_drew1 | refine below_set ?_ GE281.out | refine below_set ?_ GE290.out | refine below_set ?_ GE291.out) | exact HB.out)⟩⟩
 case round =>
  clear H'
  try clear c1
  try clear c2
  try clear p2
  try clear c5
  try clear c9
  try clear c10
  try clear c13
  try clear hcz11_0
  try clear hcz11_1
  try clear hcz14_0
  try clear hcz14_1
  try clear hfz11_0
  try clear hfz11_1
  try clear hfz14_0
  try clear hfz14_1
  obtain ⟨x5_1, x291000_1, x291001_1, x292000_1, x292001_1, u291001, u292001, rfl, HA, HK1, HO_291001, HO_292001, BK281, BK290, BK291, HB⟩ := hrel
  cases gk with
  | zero => exact absurd HA.out (by simp [clocheref01_IsQuad.l0])
  | succ k1 =>
   have H := HA.out
   clear HA
   simp only [clocheref01_IsQuad.l0] at H
   by_cases c16 : x5_1 < 4
   ·rw [if_pos c16] at H
    have c16b0 : decide (x5_1 < 4) = true := decide_eq_true c16
    clear c16
    by_cases c17 : 0 ≤ x5_1
    ·rw [if_pos c17] at H
     have c17b0 : decide (0 ≤ x5_1) = true := decide_eq_true c17
     clear c17
     replace H := Option.bind_eq_some_iff.mp H
     obtain ⟨t292, A180, H⟩ := H
     replace H : (if t292 = true then ((clocheref01_Of.f k1 (at4 a0_0 a0_1 a0_2 a0_3 x5_1)).bind fun bt293 => ((clocheref01_Plus.f k1 x291000_1 x291001_1 bt293.1 bt293.2).bind fun bt297 => ((clocheref01_Of.f k1 (at4 a0_0 a0_1 a0_2 a0_3 x5_1)).bind fun bt301 => ((clocheref01_Of.f k1 (at4 a0_0 a0_1 a0_2 a0_3 x5_1)).bind fun bt305 => ((clocheref01_Times.f k1 bt301.1 bt301.2 bt305.1 bt305.2).bind fun bt309 => ((clocheref01_Plus.f k1 x292000_1 x292001_1 bt309.1 bt309.2).bind fun bt313 => (clocheref01_IsQuad.l0 k1 (wrap64 (x5_1 + 1)) a0_0 a0_1 a0_2 a0_3 bt297.1 bt297.2 bt313.1 bt313.2))))))) else (some false)) = some r := H
     have A18 := Aside0.mk A180
     clear A180
     by_cases c19 : t292 = true
     ·subst c19
      have H1 : ((clocheref01_Of.f k1 (at4 a0_0 a0_1 a0_2 a0_3 x5_1)).bind fun bt293 => ((clocheref01_Plus.f k1 x291000_1 x291001_1 bt293.1 bt293.2).bind fun bt297 => ((clocheref01_Of.f k1 (at4 a0_0 a0_1 a0_2 a0_3 x5_1)).bind fun bt301 => ((clocheref01_Of.f k1 (at4 a0_0 a0_1 a0_2 a0_3 x5_1)).bind fun bt305 => ((clocheref01_Times.f k1 bt301.1 bt301.2 bt305.1 bt305.2).bind fun bt309 => ((clocheref01_Plus.f k1 x292000_1 x292001_1 bt309.1 bt309.2).bind fun bt313 => (clocheref01_IsQuad.l0 k1 (wrap64 (x5_1 + 1)) a0_0 a0_1 a0_2 a0_3 bt297.1 bt297.2 bt313.1 bt313.2))))))) = some r := by rw [if_pos rfl] at H; exact H
      clear H
      have H := H1
      clear H1
      replace H := Option.bind_eq_some_iff.mp H
      obtain ⟨⟨t293, t294⟩, A200, H⟩ := H
      replace H : ((clocheref01_Plus.f k1 x291000_1 x291001_1 t293 t294).bind fun bt297 => ((clocheref01_Of.f k1 (at4 a0_0 a0_1 a0_2 a0_3 x5_1)).bind fun bt301 => ((clocheref01_Of.f k1 (at4 a0_0 a0_1 a0_2 a0_3 x5_1)).bind fun bt305 => ((clocheref01_Times.f k1 bt301.1 bt301.2 bt305.1 bt305.2).bind fun bt309 => ((clocheref01_Plus.f k1 x292000_1 x292001_1 bt309.1 bt309.2).bind fun bt313 => (clocheref01_IsQuad.l0 k1 (wrap64 (x5_1 + 1)) a0_0 a0_1 a0_2 a0_3 bt297.1 bt297.2 bt313.1 bt313.2)))))) = some r := H
      have A20 := Aside0.mk A200
      clear A200
      replace H := Option.bind_eq_some_iff.mp H
      obtain ⟨⟨t297, t298⟩, A210, H⟩ := H
      replace H : ((clocheref01_Of.f k1 (at4 a0_0 a0_1 a0_2 a0_3 x5_1)).bind fun bt301 => ((clocheref01_Of.f k1 (at4 a0_0 a0_1 a0_2 a0_3 x5_1)).bind fun bt305 => ((clocheref01_Times.f k1 bt301.1 bt301.2 bt305.1 bt305.2).bind fun bt309 => ((clocheref01_Plus.f k1 x292000_1 x292001_1 bt309.1 bt309.2).bind fun bt313 => (clocheref01_IsQuad.l0 k1 (wrap64 (x5_1 + 1)) a0_0 a0_1 a0_2 a0_3 t297 t298 bt313.1 bt313.2))))) = some r := H
      have A21 := Aside0.mk A210
      clear A210
      replace H := Option.bind_eq_some_iff.mp H
      obtain ⟨⟨t301, t302⟩, A220, H⟩ := H
      replace H : ((clocheref01_Of.f k1 (at4 a0_0 a0_1 a0_2 a0_3 x5_1)).bind fun bt305 => ((clocheref01_Times.f k1 t301 t302 bt305.1 bt305.2).bind fun bt309 => ((clocheref01_Plus.f k1 x292000_1 x292001_1 bt309.1 bt309.2).bind fun bt313 => (clocheref01_IsQuad.l0 k1 (wrap64 (x5_1 + 1)) a0_0 a0_1 a0_2 a0_3 t297 t298 bt313.1 bt313.2)))) = some r := H
      have A22 := Aside0.mk A220
      clear A220
      replace H := Option.bind_eq_some_iff.mp H
      obtain ⟨⟨t305, t306⟩, A230, H⟩ := H
      replace H : ((clocheref01_Times.f k1 t301 t302 t305 t306).bind fun bt309 => ((clocheref01_Plus.f k1 x292000_1 x292001_1 bt309.1 bt309.2).bind fun bt313 => (clocheref01_IsQuad.l0 k1 (wrap64 (x5_1 + 1)) a0_0 a0_1 a0_2 a0_3 t297 t298 bt313.1 bt313.2))) = some r := H
      have A23 := Aside0.mk A230
      clear A230
      replace H := Option.bind_eq_some_iff.mp H
      obtain ⟨⟨t309, t310⟩, A240, H⟩ := H
      replace H : ((clocheref01_Plus.f k1 x292000_1 x292001_1 t309 t310).bind fun bt313 => (clocheref01_IsQuad.l0 k1 (wrap64 (x5_1 + 1)) a0_0 a0_1 a0_2 a0_3 t297 t298 bt313.1 bt313.2)) = some r := H
      have A24 := Aside0.mk A240
      clear A240
      replace H := Option.bind_eq_some_iff.mp H
      obtain ⟨⟨t313, t314⟩, A250, H⟩ := H
      replace H : (clocheref01_IsQuad.l0 k1 (wrap64 (x5_1 + 1)) a0_0 a0_1 a0_2 a0_3 t297 t298 t313 t314) = some r := H
      have A25 := Aside0.mk A250
      clear A250
      have H' := Aside0.mk H
      clear H
      have hnb27 := NB281_290.out
      have hnc27 := NB290_281.out
      have hnb28 := NB281_291.out
      have hnc28 := NB291_281.out
      have hcz29_0 : wr.cell? ⟨gb281, 0, none⟩ = some (.int .i64 a0_0) := (blk_cell BK281.out 0).trans rfl
      have hcz29_1 : wr.cell? ⟨gb281, 1, none⟩ = some (.int .i64 a0_1) := (blk_cell BK281.out 1).trans rfl
      have hcz29_2 : wr.cell? ⟨gb281, 2, none⟩ = some (.int .i64 a0_2) := (blk_cell BK281.out 2).trans rfl
      have hcz29_3 : wr.cell? ⟨gb281, 3, none⟩ = some (.int .i64 a0_3) := (blk_cell BK281.out 3).trans rfl
      have hfz29_0 := blk_frozen BK281.out 0
      have hfz29_1 := blk_frozen BK281.out 1
      have hfz29_2 := blk_frozen BK281.out 2
      have hfz29_3 := blk_frozen BK281.out 3
      have pdy26 : 0 ≤ (x5_1 : Int) := of_decide_eq_true as_
      have qdy26 : (x5_1 : Int) < 4 := of_decide_eq_true as_
      replace pdy26 := eq_true pdy26
      replace qdy26 := eq_true qdy26
      have hxdy26 : wr.cell? ⟨gb281, (x5_1 : Int).toNat, none⟩ = some (.int .i64 (at4 a0_0 a0_1 a0_2 a0_3 x5_1)) := blk_at4 BK281.out (of_eq_true pdy26) (of_eq_true qdy26)
      have hfdy26 := blk_frozen BK281.out (x5_1 : Int).toNat
      try go_wp2_with (first | ((with_reducible refine gate_callee (f := 30) rfl ?_); refine goesL_ (some 15) rfl rfl Try.func30 (by kernel_rfl) rfl #[.int .i64 (at4 a0_0 a0_1 a0_2 a0_3 x5_1)] rfl mp_ ?_; (with_reducible refine (clocheref01_InRange.calls (at4 a0_0 a0_1 a0_2 a0_3 x5_1) true _ A18.out).mono ?_); rintro e w' ⟨rfl, ⟨nd, rfl⟩⟩; refine ⟨_, rfl, ?_⟩; (try (rw [drewN_self wr]; generalize hq_ : World.drewN wr _ = wr; have n0_ : Aside0 (Kd.R (Kd.int .i64) 3 wr w.heap.size (fun k_ => some k_ ≠ (u292001 : Value).ownBlock) u291001 x291001_1) := ⟨by rw [← hq_]; exact (by refine kr_ ?_; exact HO_291001.out)⟩; have n1_ : Aside0 (Kd.R (Kd.int .i64) 3 wr w.heap.size (fun k_ => some k_ ≠ (u291001 : Value).ownBlock) u292001 x292001_1) := ⟨by rw [← hq_]; exact (by refine kr_ ?_; exact HO_292001.out)⟩; have n2_ : Aside0 (wr.heap[gb281]? = some (.cells #[.int .i64 a0_0, .int .i64 a0_1, .int .i64 a0_2, .int .i64 a0_3] 23 (0, 0))) := ⟨by rw [← hq_]; exact (by refine bs_ ?_; exact BK281.out)⟩; have n3_ : Aside0 (wr.heap[gb290]? = some (.cells #[.bool x291000_1, u291001] 75 (0, 0))) := ⟨by rw [← hq_]; exact (by refine bs_ ?_; exact BK290.out)⟩; have n4_ : Aside0 (wr.heap[gb291]? = some (.cells #[.bool x292000_1, u292001] 75 (0, 0))) := ⟨by rw [← hq_]; exact (by refine bs_ ?_; exact BK291.out)⟩; have n5_ : Aside0 (Below w.heap.size w wr) := ⟨by rw [← hq_]; exact (by repeat (first | (with_reducible first | exact HB.out | apply below_alloc | apply pw_below_drewN | apply below_drew1 | refine below_set ?_ GE281.out | refine below_set ?_ GE290.out | refine below_set ?_ GE291.out) | exact HB.out))⟩; clear HO_291001 HO_292001 BK281 BK290 BK291 HB hq_; have HO_291001 := n0_; have HO_292001 := n1_; have BK281 := n2_; have BK290 := n3_; have BK291 := n4_; have HB := n5_; clear n0_ n1_ n2_ n3_ n4_ n5_))))
      have n0_ := Aside0.mk (Kd.R_drew HO_291001.out)
      have n1_ := Aside0.mk (Kd.R_drew HO_292001.out)
      have n2_ := Aside0.mk (blk_drew BK281.out)
      have n3_ := Aside0.mk (blk_drew BK290.out)
      have n4_ := Aside0.mk (blk_drew BK291.out)
      have n5_ := Aside0.mk (below_drew1 HB.out)
      clear HO_291001
      clear HO_292001
      clear BK281
      clear BK290
      clear BK291
      clear HB
      have HO_291001 := n0_
      have HO_292001 := n1_
      have BK281 := n2_
      have BK290 := n3_
      have BK291 := n4_
      have HB := n5_
      clear n0_ n1_ n2_ n3_ n4_ n5_
      have pdy31 : 0 ≤ (x5_1 : Int) := of_decide_eq_true as_
      have qdy31 : (x5_1 : Int) < 4 := of_decide_eq_true as_
      replace pdy31 := eq_true pdy31
      replace qdy31 := eq_true qdy31
      refine start_ (n := 7) (S := fun w' => w'.cell? ⟨gb290, 0, none⟩ = some (.bool x291000_1) ∧ w'.cell? ⟨gb290, 1, none⟩ = some (u291001) ∧ w'.cell? ⟨gb281, 0, none⟩ = some (.int .i64 a0_0) ∧ w'.cell? ⟨gb281, 1, none⟩ = some (.int .i64 a0_1) ∧ w'.cell? ⟨gb281, 2, none⟩ = some (.int .i64 a0_2) ∧ w'.cell? ⟨gb281, 3, none⟩ = some (.int .i64 a0_3) ∧ w'.cell? ⟨gb281, (x5_1 : Int).toNat, none⟩ = some (.int .i64 (at4 a0_0 a0_1 a0_2 a0_3 x5_1))) (ds := [6]) #[false, false, false, false, false, false, false] (by kernel_rfl) rfl rfl ⟨(blk_cell BK290.out 0).trans rfl, (blk_cell BK290.out 1).trans rfl, (blk_cell BK281.out 0).trans rfl, (blk_cell BK281.out 1).trans rfl, (blk_cell BK281.out 2).trans rfl, (blk_cell BK281.out 3).trans rfl, blk_at4 BK281.out (of_eq_true pdy31) (of_eq_true qdy31)⟩ (fun hHeld => ?_)
      generalize wr.drew = w30 at HO_291001 HO_292001 BK281 BK290 BK291 HB hHeld ⊢
      refine pure_ (i := 1) (N := some 18) (v := ?_) (a' := ?_) #[false, true, false, false, false, false, false] rfl rfl (by kernel_rfl) (fun _ _ _ h => h) (Or.inl ⟨by rfl, ?_⟩) ?_ ?_
      rotate_left
      ·intro w'
       go_simp
       with_reducible rfl
      rotate_left
      ·exact pt_
      refine pure_ (i := 2) (N := some 19) (v := ?_) (a' := ?_) #[false, true, true, false, false, false, false] rfl rfl (by kernel_rfl) (fun _ _ _ h => h) (Or.inl ⟨by rfl, ?_⟩) ?_ ?_
      rotate_left
      ·intro w'
       go_simp
       with_reducible rfl
      rotate_left
      ·exact pt_
      refine take_ (i := 0) (N := some 17) (v := ?_) (a' := ?_) #[true, true, true, false, false, false, false] rfl rfl (by kernel_rfl) (fun _ _ _ h => h) (Or.inl ⟨by rfl, ?_⟩) hHeld ?_ ?_
      rotate_left
      ·rintro w' ⟨s0, s1, s2, s3, s4, s5, s6⟩
       go_simp
       with_reducible rfl
      rotate_left
      ·exact pt_
      refine take_ (i := 3) (N := some 20) (v := ?_) (a' := ?_) #[true, true, true, true, false, false, false] rfl rfl (by kernel_rfl) (fun _ _ _ h => h) (Or.inl ⟨by rfl, ?_⟩) hHeld ?_ ?_
      rotate_left
      ·rintro w' ⟨s0, s1, s2, s3, s4, s5, s6⟩
       go_simp
       with_reducible rfl
      rotate_left
      ·exact pt_
      refine one_ (i := 4) (N := some 21) #[true, true, true, true, true, false, false] rfl rfl (by kernel_rfl) (by decide) (fun K hK => ?_)
      refine goes_ Try.func56 (by kernel_rfl) rfl #[.int .i64 (at4 a0_0 a0_1 a0_2 a0_3 x5_1)] (by rfl) rfl rfl mp_ ?_
      with_reducible refine (clocheref01_Of.calls k1 (at4 a0_0 a0_1 a0_2 a0_3 x5_1) t293 t294 _ A20.out).mono ?_
      rintro e w32 ⟨v295, rfl, ho0, hb⟩
      refine ⟨_, rfl, ?_⟩
      have n0_ := Aside0.mk (Kd.R_elder' (by refine kr_ ?_; exact HO_291001.out) (Kd.R_base ho0) hb)
      have n1_ := Aside0.mk (Kd.R_elder' (by refine kr_ ?_; exact HO_292001.out) (Kd.R_base ho0) hb)
      have n2_ := Aside0.mk (Kd.R_lower (Kd.R_new' (Kd.R_new' ho0 (Kd.R_lt (by refine kr_ ?_; exact HO_291001.out))) (Kd.R_lt (by refine kr_ ?_; exact HO_292001.out))) (below_size (by repeat (first | (with_reducible first | exact HB.out | apply below_alloc | apply pw_below_drewN | apply below_drew1 | refine below_set ?_ GE281.out | refine below_set ?_ GE290.out | refine below_set ?_ GE291.out) | exact HB.out))))
      have n3_ := Aside0.mk (blk_below (g := gb281) (o := .cells #[.int .i64 a0_0, .int .i64 a0_1, .int .i64 a0_2, .int .i64 a0_3] 23 (0, 0)) (by refine bs_ ?_; exact BK281.out) hb)
      have n4_ := Aside0.mk (blk_below (g := gb290) (o := .cells #[.bool x291000_1, u291001] 75 (0, 0)) (by refine bs_ ?_; exact BK290.out) hb)
      have n5_ := Aside0.mk (blk_below (g := gb291) (o := .cells #[.bool x292000_1, u292001] 75 (0, 0)) (by refine bs_ ?_; exact BK291.out) hb)
      have n6_ := Aside0.mk (below_step (by repeat (first | (with_reducible first | exact HB.out | apply below_alloc | apply pw_below_drewN | apply below_drew1 | refine below_set ?_ GE281.out | refine below_set ?_ GE290.out | refine below_set ?_ GE291.out) | exact HB.out)) hb)
      clear HO_291001
      clear HO_292001
      clear BK281
      clear BK290
      clear BK291
      clear HB
      have HO_291001 := n0_
      have HO_292001 := n1_
      have HO296 := n2_
      have BK281 := n3_
      have BK290 := n4_
      have BK291 := n5_
      have HB := n6_
      clear n0_ n1_ n2_ n3_ n4_ n5_ n6_
      (try clear hb)
      (try clear hb2)
      (try clear hk)
      (try clear hi)
      (try clear ho0)
      obtain ⟨Ao33, co33, eo33⟩ := Kd.R_slice HO_291001.out
      (first | subst eo33 | (injection eo33 with f1_ f2_ f3_; have f4_ := f1_.symm; have f5_ := f3_.symm; clear f1_ f2_ f3_; subst f4_; subst f5_))
      obtain ⟨Ao34, co34, eo34⟩ := Kd.R_slice HO296.out
      (first | subst eo34 | (injection eo34 with f1_ f2_ f3_; have f4_ := f1_.symm; have f5_ := f3_.symm; clear f1_ f2_ f3_; subst f4_; subst f5_))
      refine hK.out _ _ ⟨(blk_cell BK290.out 0).trans rfl, (blk_cell BK290.out 1).trans rfl, (blk_cell BK281.out 0).trans rfl, (blk_cell BK281.out 1).trans rfl, (blk_cell BK281.out 2).trans rfl, (blk_cell BK281.out 3).trans rfl, blk_at4 BK281.out (of_eq_true pdy31) (of_eq_true qdy31)⟩ (fun hHeld => ?_)
      clear hK K
      refine norm_ (a' := ?_) ?_ ?_
      rotate_left
      ·show Act.put _ (some 21) _ = _
       exact pt_
      refine one_ (i := 5) (N := some 22) #[true, true, true, true, true, true, false] rfl rfl (by kernel_rfl) (by decide) (fun K hK => ?_)
      refine goes_ Try.func57 (by kernel_rfl) rfl #[.agg #[.bool x291000_1, .slice Ao33 x291001_1.length co33], .agg #[.bool t293, .slice Ao34 t294.length co34]] (by rfl) rfl rfl mp_ ?_
      with_reducible refine (clocheref01_Plus.calls k1 x291000_1 _ _ x291001_1 t293 _ _ t294 t297 t298 _ ?side1 ?side2 ?side3 ?side4 A21.out).mono ?_
      (case side1 => repeat (first | exact (Kd.R_reads' HO_291001.out).2.2 | (with_reducible refine Kd.C_alloc ?_ _) | (with_reducible refine Kd.C_drewN ?_ _) | (with_reducible refine Kd.C_drew ?_)))
      (case side2 => exact (Kd.R_reads' HO_291001.out).2.1)
      (case side3 => repeat (first | exact (Kd.R_reads' HO296.out).2.2 | (with_reducible refine Kd.C_alloc ?_ _) | (with_reducible refine Kd.C_drewN ?_ _) | (with_reducible refine Kd.C_drew ?_)))
      (case side4 => exact (Kd.R_reads' HO296.out).2.1)
      rintro e w35 ⟨v299, rfl, ho0, hb⟩
      refine ⟨_, rfl, ?_⟩
      have n0_ := Aside0.mk (Kd.R_elder' (by refine kr_ ?_; exact HO_291001.out) (Kd.R_base ho0) hb)
      have n1_ := Aside0.mk (Kd.R_elder' (by refine kr_ ?_; exact HO_292001.out) (Kd.R_base ho0) hb)
      have n2_ := Aside0.mk (Kd.R_elder' (by refine kr_ ?_; exact HO296.out) (Kd.R_base ho0) hb)
      have n3_ := Aside0.mk (Kd.R_lower (Kd.R_new' (Kd.R_new' (Kd.R_new' ho0 (Kd.R_lt (by refine kr_ ?_; exact HO_291001.out))) (Kd.R_lt (by refine kr_ ?_; exact HO_292001.out))) (Kd.R_lt (by refine kr_ ?_; exact HO296.out))) (below_size (by repeat (first | (with_reducible first | exact HB.out | apply below_alloc | apply pw_below_drewN | apply below_drew1 | refine below_set ?_ GE281.out | refine below_set ?_ GE290.out | refine below_set ?_ GE291.out) | exact HB.out))))
      have n4_ := Aside0.mk (blk_below (g := gb281) (o := .cells #[.int .i64 a0_0, .int .i64 a0_1, .int .i64 a0_2, .int .i64 a0_3] 23 (0, 0)) (by refine bs_ ?_; exact BK281.out) hb)
      have n5_ := Aside0.mk (blk_below (g := gb290) (o := .cells #[.bool x291000_1, .slice Ao33 x291001_1.length co33] 75 (0, 0)) (by refine bs_ ?_; exact BK290.out) hb)
      have n6_ := Aside0.mk (blk_below (g := gb291) (o := .cells #[.bool x292000_1, u292001] 75 (0, 0)) (by refine bs_ ?_; exact BK291.out) hb)
      have n7_ := Aside0.mk (below_step (by repeat (first | (with_reducible first | exact HB.out | apply below_alloc | apply pw_below_drewN | apply below_drew1 | refine below_set ?_ GE281.out | refine below_set ?_ GE290.out | refine below_set ?_ GE291.out) | exact HB.out)) hb)
      clear HO_291001
      clear HO_292001
      clear HO296
      clear BK281
      clear BK290
      clear BK291
      clear HB
      have HO_291001 := n0_
      have HO_292001 := n1_
      have HO296 := n2_
      have HO300 := n3_
      have BK281 := n4_
      have BK290 := n5_
      have BK291 := n6_
      have HB := n7_
      clear n0_ n1_ n2_ n3_ n4_ n5_ n6_ n7_
      (try clear hb)
      (try clear hb2)
      (try clear hk)
      (try clear hi)
      (try clear ho0)
      obtain ⟨Ao37, co37, eo37⟩ := Kd.R_slice HO300.out
      (first | subst eo37 | (injection eo37 with f1_ f2_ f3_; have f4_ := f1_.symm; have f5_ := f3_.symm; clear f1_ f2_ f3_; subst f4_; subst f5_))
      refine hK.out _ _ ⟨(blk_cell BK290.out 0).trans rfl, (blk_cell BK290.out 1).trans rfl, (blk_cell BK281.out 0).trans rfl, (blk_cell BK281.out 1).trans rfl, (blk_cell BK281.out 2).trans rfl, (blk_cell BK281.out 3).trans rfl, blk_at4 BK281.out (of_eq_true pdy31) (of_eq_true qdy31)⟩ (fun hHeld => ?_)
      clear hK K
      refine norm_ (a' := ?_) ?_ ?_
      rotate_left
      ·show Act.put _ (some 22) _ = _
       exact pt_
      refine last_ (i := 6) (N := none) #[true, true, true, true, true, true, true] rfl rfl (by kernel_rfl) (by decide) (fun K hK => ?_)
      have hs36 : w35.cell? ⟨gb290, 0, none⟩ = some (.bool x291000_1) := (blk_cell BK290.out 0).trans rfl
      have hfs36 := blk_frozen BK290.out 0
      have hns36_0 := NB281_290.out
      have hns36_2 := NB291_290.out
      have hms36_0 := NB290_281.out
      have hms36_2 := NB290_291.out
      have hs38 : w35.cell? ⟨gb290, 1, none⟩ = some (.slice Ao33 x291001_1.length co33) := (blk_cell BK290.out 1).trans rfl
      have hfs38 := blk_frozen BK290.out 1
      have hns38_0 := NB281_290.out
      have hns38_2 := NB291_290.out
      have hms38_0 := NB290_281.out
      have hms38_2 := NB290_291.out
      refine skip_ (w1 := ?_) (by rfl) rfl ?_ ?_
      rotate_left
      ·go_simp
       rfl
      refine hK.out _ _ ?_
      clear hK K
      refine done_ (by kernel_rfl) ?_
      try go_wp2
      have n0_ : Aside0 (Kd.R (Kd.int .i64) 3 ((w35.setCell ⟨gb290, 0, none⟩ (.bool t297)).setCell ⟨gb290, 1, none⟩ (.slice Ao37 t298.length co37)) w.heap.size (fun k_ => some k_ ≠ (u292001 : Value).ownBlock ∧ some k_ ≠ (.slice Ao34 t294.length co34 : Value).ownBlock ∧ some k_ ≠ (.slice Ao37 t298.length co37 : Value).ownBlock) (.slice Ao33 x291001_1.length co33) x291001_1) := ⟨by refine kr_ ?_; exact Kd.R_mono (Kd.R_far (p := ⟨gb290, 1, none⟩) (Kd.R_far (p := ⟨gb290, 0, none⟩) (Kd.R_types HO_291001.out BK290.out (by decide)) (fun _ hk => hk.2) (.bool t297)) (fun _ hk => hk.2) (.slice Ao37 t298.length co37)) (fun _ hk => ⟨hk.1.1.1, ⟨hk.1.1.2, hk.1.2⟩⟩)⟩
      have n1_ : Aside0 (Kd.R (Kd.int .i64) 3 ((w35.setCell ⟨gb290, 0, none⟩ (.bool t297)).setCell ⟨gb290, 1, none⟩ (.slice Ao37 t298.length co37)) w.heap.size (fun k_ => some k_ ≠ (.slice Ao33 x291001_1.length co33 : Value).ownBlock ∧ some k_ ≠ (.slice Ao34 t294.length co34 : Value).ownBlock ∧ some k_ ≠ (.slice Ao37 t298.length co37 : Value).ownBlock) u292001 x292001_1) := ⟨by refine kr_ ?_; exact Kd.R_mono (Kd.R_far (p := ⟨gb290, 1, none⟩) (Kd.R_far (p := ⟨gb290, 0, none⟩) (Kd.R_types HO_292001.out BK290.out (by decide)) (fun _ hk => hk.2) (.bool t297)) (fun _ hk => hk.2) (.slice Ao37 t298.length co37)) (fun _ hk => ⟨hk.1.1.1, ⟨hk.1.1.2, hk.1.2⟩⟩)⟩
      have n2_ : Aside0 (Kd.R (Kd.int .i64) 3 ((w35.setCell ⟨gb290, 0, none⟩ (.bool t297)).setCell ⟨gb290, 1, none⟩ (.slice Ao37 t298.length co37)) w.heap.size (fun k_ => some k_ ≠ (.slice Ao33 x291001_1.length co33 : Value).ownBlock ∧ some k_ ≠ (u292001 : Value).ownBlock ∧ some k_ ≠ (.slice Ao37 t298.length co37 : Value).ownBlock) (.slice Ao34 t294.length co34) t294) := ⟨by refine kr_ ?_; exact Kd.R_mono (Kd.R_far (p := ⟨gb290, 1, none⟩) (Kd.R_far (p := ⟨gb290, 0, none⟩) (Kd.R_types HO296.out BK290.out (by decide)) (fun _ hk => hk.2) (.bool t297)) (fun _ hk => hk.2) (.slice Ao37 t298.length co37)) (fun _ hk => ⟨hk.1.1.1.2, ⟨hk.1.1.2, hk.1.2⟩⟩)⟩
      have n3_ : Aside0 (Kd.R (Kd.int .i64) 3 ((w35.setCell ⟨gb290, 0, none⟩ (.bool t297)).setCell ⟨gb290, 1, none⟩ (.slice Ao37 t298.length co37)) w.heap.size (fun k_ => some k_ ≠ (.slice Ao33 x291001_1.length co33 : Value).ownBlock ∧ some k_ ≠ (u292001 : Value).ownBlock ∧ some k_ ≠ (.slice Ao34 t294.length co34 : Value).ownBlock) (.slice Ao37 t298.length co37) t298) := ⟨by refine kr_ ?_; exact Kd.R_mono (Kd.R_far (p := ⟨gb290, 1, none⟩) (Kd.R_far (p := ⟨gb290, 0, none⟩) (Kd.R_types HO300.out BK290.out (by decide)) (fun _ hk => hk.2) (.bool t297)) (fun _ hk => hk.2) (.slice Ao37 t298.length co37)) (fun _ hk => ⟨hk.1.1.1.2, ⟨hk.1.1.2, hk.1.2⟩⟩)⟩
      have n4_ : Aside0 (((w35.setCell ⟨gb290, 0, none⟩ (.bool t297)).setCell ⟨gb290, 1, none⟩ (.slice Ao37 t298.length co37)).heap[gb281]? = some (.cells #[.int .i64 a0_0, .int .i64 a0_1, .int .i64 a0_2, .int .i64 a0_3] 23 (0, 0))) := ⟨by refine bs_ ?_; refine blk_far ?_ NB281_290.out _; refine bs_ ?_; refine blk_far ?_ NB281_290.out _; refine bs_ ?_; exact BK281.out⟩
      have n5_ : Aside0 (((w35.setCell ⟨gb290, 0, none⟩ (.bool t297)).setCell ⟨gb290, 1, none⟩ (.slice Ao37 t298.length co37)).heap[gb290]? = some (.cells #[.bool t297, .slice Ao37 t298.length co37] 75 (0, 0))) := ⟨by refine bs_ ?_; refine blk_put (cs := #[.bool t297, .slice Ao33 x291001_1.length co33]) ?_ 1 _ rfl; refine bs_ ?_; refine blk_put (cs := #[.bool x291000_1, .slice Ao33 x291001_1.length co33]) ?_ 0 _ rfl; refine bs_ ?_; exact BK290.out⟩
      have n6_ : Aside0 (((w35.setCell ⟨gb290, 0, none⟩ (.bool t297)).setCell ⟨gb290, 1, none⟩ (.slice Ao37 t298.length co37)).heap[gb291]? = some (.cells #[.bool x292000_1, u292001] 75 (0, 0))) := ⟨by refine bs_ ?_; refine blk_far ?_ NB291_290.out _; refine bs_ ?_; refine blk_far ?_ NB291_290.out _; refine bs_ ?_; exact BK291.out⟩
      have n7_ : Aside0 (Below w.heap.size w ((w35.setCell ⟨gb290, 0, none⟩ (.bool t297)).setCell ⟨gb290, 1, none⟩ (.slice Ao37 t298.length co37))) := ⟨by repeat (first | (with_reducible first | exact HB.out | apply below_alloc | apply pw_below_drewN | apply below_drew1 | refine below_set ?_ GE281.out | refine below_set ?_ GE290.out | refine below_set ?_ GE291.out) | exact HB.out)⟩
      (try clear HO_291001)
      (try clear HO_292001)
      (try clear HO296)
      (try clear HO300)
      (try clear BK281)
      (try clear BK290)
      (try clear BK291)
      (try clear HB)
      generalize ((w35.setCell ⟨gb290, 0, none⟩ (.bool t297)).setCell ⟨gb290, 1, none⟩ (.slice Ao37 t298.length co37)) = w39 at n0_ n1_ n2_ n3_ n4_ n5_ n6_ n7_ ⊢
      have HO_291001 := n0_
      have HO_292001 := n1_
      have HO296 := n2_
      have HO300 := n3_
      have BK281 := n4_
      have BK290 := n5_
      have BK291 := n6_
      have HB := n7_
      clear n0_ n1_ n2_ n3_ n4_ n5_ n6_ n7_
      have n0_ := Aside0.mk (Kd.R_drew HO_291001.out)
      have n1_ := Aside0.mk (Kd.R_drew HO_292001.out)
      have n2_ := Aside0.mk (Kd.R_drew HO296.out)
      have n3_ := Aside0.mk (Kd.R_drew HO300.out)
      have n4_ := Aside0.mk (blk_drew BK281.out)
      have n5_ := Aside0.mk (blk_drew BK290.out)
      have n6_ := Aside0.mk (blk_drew BK291.out)
      have n7_ := Aside0.mk (below_drew1 HB.out)
      clear HO_291001
      clear HO_292001
      clear HO296
      clear HO300
      clear BK281
      clear BK290
      clear BK291
      clear HB
      have HO_291001 := n0_
      have HO_292001 := n1_
      have HO296 := n2_
      have HO300 := n3_
      have BK281 := n4_
      have BK290 := n5_
      have BK291 := n6_
      have HB := n7_
      clear n0_ n1_ n2_ n3_ n4_ n5_ n6_ n7_
      have pdy41 : 0 ≤ (x5_1 : Int) := of_decide_eq_true as_
      have qdy41 : (x5_1 : Int) < 4 := of_decide_eq_true as_
      replace pdy41 := eq_true pdy41
      replace qdy41 := eq_true qdy41
      have pdy42 : 0 ≤ (x5_1 : Int) := of_decide_eq_true as_
      have qdy42 : (x5_1 : Int) < 4 := of_decide_eq_true as_
      replace pdy42 := eq_true pdy42
      replace qdy42 := eq_true qdy42
      refine start_ (n := 12) (S := fun w' => w'.cell? ⟨gb291, 0, none⟩ = some (.bool x292000_1) ∧ w'.cell? ⟨gb291, 1, none⟩ = some (u292001) ∧ w'.cell? ⟨gb281, 0, none⟩ = some (.int .i64 a0_0) ∧ w'.cell? ⟨gb281, 1, none⟩ = some (.int .i64 a0_1) ∧ w'.cell? ⟨gb281, 2, none⟩ = some (.int .i64 a0_2) ∧ w'.cell? ⟨gb281, 3, none⟩ = some (.int .i64 a0_3) ∧ w'.cell? ⟨gb281, (x5_1 : Int).toNat, none⟩ = some (.int .i64 (at4 a0_0 a0_1 a0_2 a0_3 x5_1)) ∧ w'.cell? ⟨gb281, (x5_1 : Int).toNat, none⟩ = some (.int .i64 (at4 a0_0 a0_1 a0_2 a0_3 x5_1))) (ds := [11]) #[false, false, false, false, false, false, false, false, false, false, false, false] (by kernel_rfl) rfl rfl ⟨(blk_cell BK291.out 0).trans rfl, (blk_cell BK291.out 1).trans rfl, (blk_cell BK281.out 0).trans rfl, (blk_cell BK281.out 1).trans rfl, (blk_cell BK281.out 2).trans rfl, (blk_cell BK281.out 3).trans rfl, blk_at4 BK281.out (of_eq_true pdy41) (of_eq_true qdy41), blk_at4 BK281.out (of_eq_true pdy42) (of_eq_true qdy42)⟩ (fun hHeld => ?_); refine with_tabW clocheref01_IsQuad.tab8 clocheref01_IsQuad.bits8 (fun HT_ HW_ => ?_)
      generalize w39.drew = w40 at HO_291001 HO_292001 HO296 HO300 BK281 BK290 BK291 HB hHeld ⊢
      refine pure_ (i := 1) (N := some 24) (v := ?_) (a' := ?_) #[false, true, false, false, false, false, false, false, false, false, false, false] rfl rfl (any_of HT_.out (by kernel_rfl)) (fun _ _ _ h => h) (Or.inl ⟨by rfl, ?_⟩) ?_ ?_
      rotate_left
      ·intro w'
       go_simp
       with_reducible rfl
      rotate_left
      ·exact pt_
      refine pure_ (i := 2) (N := some 25) (v := ?_) (a' := ?_) #[false, true, true, false, false, false, false, false, false, false, false, false] rfl rfl (any_of HT_.out (by kernel_rfl)) (fun _ _ _ h => h) (Or.inl ⟨by rfl, ?_⟩) ?_ ?_
      rotate_left
      ·intro w'
       go_simp
       with_reducible rfl
      rotate_left
      ·exact pt_
      refine pure_ (i := 5) (N := some 28) (v := ?_) (a' := ?_) #[false, true, true, false, false, true, false, false, false, false, false, false] rfl rfl (any_of HT_.out (by kernel_rfl)) (fun _ _ _ h => h) (Or.inl ⟨by rfl, ?_⟩) ?_ ?_
      rotate_left
      ·intro w'
       go_simp
       with_reducible rfl
      rotate_left
      ·exact pt_
      refine pure_ (i := 6) (N := some 29) (v := ?_) (a' := ?_) #[false, true, true, false, false, true, true, false, false, false, false, false] rfl rfl (any_of HT_.out (by kernel_rfl)) (fun _ _ _ h => h) (Or.inl ⟨by rfl, ?_⟩) ?_ ?_
      rotate_left
      ·intro w'
       go_simp
       with_reducible rfl
      rotate_left
      ·exact pt_
      refine take_ (i := 0) (N := some 23) (v := ?_) (a' := ?_) #[true, true, true, false, false, true, true, false, false, false, false, false] rfl rfl (take_ofW HT_.out HW_.out (by kernel_rfl)) (fun _ _ _ h => h) (Or.inl ⟨by rfl, ?_⟩) hHeld ?_ ?_
      rotate_left
      ·rintro w' ⟨s0, s1, s2, s3, s4, s5, s6, s7⟩
       go_simp
       with_reducible rfl
      rotate_left
      ·exact pt_
      refine take_ (i := 3) (N := some 26) (v := ?_) (a' := ?_) #[true, true, true, true, false, true, true, false, false, false, false, false] rfl rfl (take_ofW HT_.out HW_.out (by kernel_rfl)) (fun _ _ _ h => h) (Or.inl ⟨by rfl, ?_⟩) hHeld ?_ ?_
      rotate_left
      ·rintro w' ⟨s0, s1, s2, s3, s4, s5, s6, s7⟩
       go_simp
       with_reducible rfl
      rotate_left
      ·exact pt_
      refine take_ (i := 7) (N := some 30) (v := ?_) (a' := ?_) #[true, true, true, true, false, true, true, true, false, false, false, false] rfl rfl (take_ofW HT_.out HW_.out (by kernel_rfl)) (fun _ _ _ h => h) (Or.inl ⟨by rfl, ?_⟩) hHeld ?_ ?_
      rotate_left
      ·rintro w' ⟨s0, s1, s2, s3, s4, s5, s6, s7⟩
       go_simp
       with_reducible rfl
      rotate_left
      ·exact pt_
      refine one_ (i := 4) (N := some 27) #[true, true, true, true, true, true, true, true, false, false, false, false] rfl rfl (one_of HT_.out (by kernel_rfl)) (by decide) (fun K hK => ?_)
      refine goes_ Try.func56 (by kernel_rfl) rfl #[.int .i64 (at4 a0_0 a0_1 a0_2 a0_3 x5_1)] (by rfl) rfl rfl mp_ ?_
      with_reducible refine (clocheref01_Of.calls k1 (at4 a0_0 a0_1 a0_2 a0_3 x5_1) t301 t302 _ A22.out).mono ?_
      rintro e w43 ⟨v303, rfl, ho0, hb⟩
      refine ⟨_, rfl, ?_⟩
      have n0_ := Aside0.mk (Kd.R_elder' (by refine kr_ ?_; exact HO_291001.out) (Kd.R_base ho0) hb)
      have n1_ := Aside0.mk (Kd.R_elder' (by refine kr_ ?_; exact HO_292001.out) (Kd.R_base ho0) hb)
      have n2_ := Aside0.mk (Kd.R_elder' (by refine kr_ ?_; exact HO296.out) (Kd.R_base ho0) hb)
      have n3_ := Aside0.mk (Kd.R_elder' (by refine kr_ ?_; exact HO300.out) (Kd.R_base ho0) hb)
      have n4_ := Aside0.mk (Kd.R_lower (Kd.R_new' (Kd.R_new' (Kd.R_new' (Kd.R_new' ho0 (Kd.R_lt (by refine kr_ ?_; exact HO_291001.out))) (Kd.R_lt (by refine kr_ ?_; exact HO_292001.out))) (Kd.R_lt (by refine kr_ ?_; exact HO296.out))) (Kd.R_lt (by refine kr_ ?_; exact HO300.out))) (below_size (by repeat (first | (with_reducible first | exact HB.out | apply below_alloc | apply pw_below_drewN | apply below_drew1 | refine below_set ?_ GE281.out | refine below_set ?_ GE290.out | refine below_set ?_ GE291.out) | exact HB.out))))
      have n5_ := Aside0.mk (blk_below (g := gb281) (o := .cells #[.int .i64 a0_0, .int .i64 a0_1, .int .i64 a0_2, .int .i64 a0_3] 23 (0, 0)) (by refine bs_ ?_; exact BK281.out) hb)
      have n6_ := Aside0.mk (blk_below (g := gb290) (o := .cells #[.bool t297, .slice Ao37 t298.length co37] 75 (0, 0)) (by refine bs_ ?_; exact BK290.out) hb)
      have n7_ := Aside0.mk (blk_below (g := gb291) (o := .cells #[.bool x292000_1, u292001] 75 (0, 0)) (by refine bs_ ?_; exact BK291.out) hb)
      have n8_ := Aside0.mk (below_step (by repeat (first | (with_reducible first | exact HB.out | apply below_alloc | apply pw_below_drewN | apply below_drew1 | refine below_set ?_ GE281.out | refine below_set ?_ GE290.out | refine below_set ?_ GE291.out) | exact HB.out)) hb)
      clear HO_291001
      clear HO_292001
      clear HO296
      clear HO300
      clear BK281
      clear BK290
      clear BK291
      clear HB
      have HO_291001 := n0_
      have HO_292001 := n1_
      have HO296 := n2_
      have HO300 := n3_
      have HO304 := n4_
      have BK281 := n5_
      have BK290 := n6_
      have BK291 := n7_
      have HB := n8_
      clear n0_ n1_ n2_ n3_ n4_ n5_ n6_ n7_ n8_
      (try clear hb)
      (try clear hb2)
      (try clear hk)
      (try clear hi)
      (try clear ho0)
      refine hK.out _ _ ⟨(blk_cell BK291.out 0).trans rfl, (blk_cell BK291.out 1).trans rfl, (blk_cell BK281.out 0).trans rfl, (blk_cell BK281.out 1).trans rfl, (blk_cell BK281.out 2).trans rfl, (blk_cell BK281.out 3).trans rfl, blk_at4 BK281.out (of_eq_true pdy41) (of_eq_true qdy41), blk_at4 BK281.out (of_eq_true pdy42) (of_eq_true qdy42)⟩ (fun hHeld => ?_)
      clear hK K
      refine norm_ (a' := ?_) ?_ ?_
      rotate_left
      ·show Act.put _ (some 27) _ = _
       exact pt_
      refine one_ (i := 8) (N := some 31) #[true, true, true, true, true, true, true, true, true, false, false, false] rfl rfl (one_of HT_.out (by kernel_rfl)) (by decide) (fun K hK => ?_)
      refine goes_ Try.func56 (by kernel_rfl) rfl #[.int .i64 (at4 a0_0 a0_1 a0_2 a0_3 x5_1)] (by rfl) rfl rfl mp_ ?_
      with_reducible refine (clocheref01_Of.calls k1 (at4 a0_0 a0_1 a0_2 a0_3 x5_1) t305 t306 _ A23.out).mono ?_
      rintro e w44 ⟨v307, rfl, ho0, hb⟩
      refine ⟨_, rfl, ?_⟩
      have n0_ := Aside0.mk (Kd.R_elder' (by refine kr_ ?_; exact HO_291001.out) (Kd.R_base ho0) hb)
      have n1_ := Aside0.mk (Kd.R_elder' (by refine kr_ ?_; exact HO_292001.out) (Kd.R_base ho0) hb)
      have n2_ := Aside0.mk (Kd.R_elder' (by refine kr_ ?_; exact HO296.out) (Kd.R_base ho0) hb)
      have n3_ := Aside0.mk (Kd.R_elder' (by refine kr_ ?_; exact HO300.out) (Kd.R_base ho0) hb)
      have n4_ := Aside0.mk (Kd.R_elder' (by refine kr_ ?_; exact HO304.out) (Kd.R_base ho0) hb)
      have n5_ := Aside0.mk (Kd.R_lower (Kd.R_new' (Kd.R_new' (Kd.R_new' (Kd.R_new' (Kd.R_new' ho0 (Kd.R_lt (by refine kr_ ?_; exact HO_291001.out))) (Kd.R_lt (by refine kr_ ?_; exact HO_292001.out))) (Kd.R_lt (by refine kr_ ?_; exact HO296.out))) (Kd.R_lt (by refine kr_ ?_; exact HO300.out))) (Kd.R_lt (by refine kr_ ?_; exact HO304.out))) (below_size (by repeat (first | (with_reducible first | exact HB.out | apply below_alloc | apply pw_below_drewN | apply below_drew1 | refine below_set ?_ GE281.out | refine below_set ?_ GE290.out | refine below_set ?_ GE291.out) | exact HB.out))))
      have n6_ := Aside0.mk (blk_below (g := gb281) (o := .cells #[.int .i64 a0_0, .int .i64 a0_1, .int .i64 a0_2, .int .i64 a0_3] 23 (0, 0)) (by refine bs_ ?_; exact BK281.out) hb)
      have n7_ := Aside0.mk (blk_below (g := gb290) (o := .cells #[.bool t297, .slice Ao37 t298.length co37] 75 (0, 0)) (by refine bs_ ?_; exact BK290.out) hb)
      have n8_ := Aside0.mk (blk_below (g := gb291) (o := .cells #[.bool x292000_1, u292001] 75 (0, 0)) (by refine bs_ ?_; exact BK291.out) hb)
      have n9_ := Aside0.mk (below_step (by repeat (first | (with_reducible first | exact HB.out | apply below_alloc | apply pw_below_drewN | apply below_drew1 | refine below_set ?_ GE281.out | refine below_set ?_ GE290.out | refine below_set ?_ GE291.out) | exact HB.out)) hb)
      clear HO_291001
      clear HO_292001
      clear HO296
      clear HO300
      clear HO304
      clear BK281
      clear BK290
      clear BK291
      clear HB
      have HO_291001 := n0_
      have HO_292001 := n1_
      have HO296 := n2_
      have HO300 := n3_
      have HO304 := n4_
      have HO308 := n5_
      have BK281 := n6_
      have BK290 := n7_
      have BK291 := n8_
      have HB := n9_
      clear n0_ n1_ n2_ n3_ n4_ n5_ n6_ n7_ n8_ n9_
      (try clear hb)
      (try clear hb2)
      (try clear hk)
      (try clear hi)
      (try clear ho0)
      obtain ⟨Ao45, co45, eo45⟩ := Kd.R_slice HO304.out
      (first | subst eo45 | (injection eo45 with f1_ f2_ f3_; have f4_ := f1_.symm; have f5_ := f3_.symm; clear f1_ f2_ f3_; subst f4_; subst f5_))
      obtain ⟨Ao46, co46, eo46⟩ := Kd.R_slice HO308.out
      (first | subst eo46 | (injection eo46 with f1_ f2_ f3_; have f4_ := f1_.symm; have f5_ := f3_.symm; clear f1_ f2_ f3_; subst f4_; subst f5_))
      refine hK.out _ _ ⟨(blk_cell BK291.out 0).trans rfl, (blk_cell BK291.out 1).trans rfl, (blk_cell BK281.out 0).trans rfl, (blk_cell BK281.out 1).trans rfl, (blk_cell BK281.out 2).trans rfl, (blk_cell BK281.out 3).trans rfl, blk_at4 BK281.out (of_eq_true pdy41) (of_eq_true qdy41), blk_at4 BK281.out (of_eq_true pdy42) (of_eq_true qdy42)⟩ (fun hHeld => ?_)
      clear hK K
      refine norm_ (a' := ?_) ?_ ?_
      rotate_left
      ·show Act.put _ (some 31) _ = _
       exact pt_
      refine one_ (i := 9) (N := some 32) #[true, true, true, true, true, true, true, true, true, true, false, false] rfl rfl (one_of HT_.out (by kernel_rfl)) (by decide) (fun K hK => ?_)
      refine goes_ Try.func58 (by kernel_rfl) rfl #[.agg #[.bool t301, .slice Ao45 t302.length co45], .agg #[.bool t305, .slice Ao46 t306.length co46]] (by rfl) rfl rfl mp_ ?_
      with_reducible refine (clocheref01_Times.calls k1 t301 _ _ t302 t305 _ _ t306 t309 t310 _ ?side1 ?side2 ?side3 ?side4 A24.out).mono ?_
      (case side1 => repeat (first | exact (Kd.R_reads' HO304.out).2.2 | (with_reducible refine Kd.C_alloc ?_ _) | (with_reducible refine Kd.C_drewN ?_ _) | (with_reducible refine Kd.C_drew ?_)))
      (case side2 => exact (Kd.R_reads' HO304.out).2.1)
      (case side3 => repeat (first | exact (Kd.R_reads' HO308.out).2.2 | (with_reducible refine Kd.C_alloc ?_ _) | (with_reducible refine Kd.C_drewN ?_ _) | (with_reducible refine Kd.C_drew ?_)))
      (case side4 => exact (Kd.R_reads' HO308.out).2.1)
      rintro e w47 ⟨v311, rfl, ho0, hb⟩
      refine ⟨_, rfl, ?_⟩
      have n0_ := Aside0.mk (Kd.R_elder' (by refine kr_ ?_; exact HO_291001.out) (Kd.R_base ho0) hb)
      have n1_ := Aside0.mk (Kd.R_elder' (by refine kr_ ?_; exact HO_292001.out) (Kd.R_base ho0) hb)
      have n2_ := Aside0.mk (Kd.R_elder' (by refine kr_ ?_; exact HO296.out) (Kd.R_base ho0) hb)
      have n3_ := Aside0.mk (Kd.R_elder' (by refine kr_ ?_; exact HO300.out) (Kd.R_base ho0) hb)
      have n4_ := Aside0.mk (Kd.R_elder' (by refine kr_ ?_; exact HO304.out) (Kd.R_base ho0) hb)
      have n5_ := Aside0.mk (Kd.R_elder' (by refine kr_ ?_; exact HO308.out) (Kd.R_base ho0) hb)
      have n6_ := Aside0.mk (Kd.R_lower (Kd.R_new' (Kd.R_new' (Kd.R_new' (Kd.R_new' (Kd.R_new' (Kd.R_new' ho0 (Kd.R_lt (by refine kr_ ?_; exact HO_291001.out))) (Kd.R_lt (by refine kr_ ?_; exact HO_292001.out))) (Kd.R_lt (by refine kr_ ?_; exact HO296.out))) (Kd.R_lt (by refine kr_ ?_; exact HO300.out))) (Kd.R_lt (by refine kr_ ?_; exact HO304.out))) (Kd.R_lt (by refine kr_ ?_; exact HO308.out))) (below_size (by repeat (first | (with_reducible first | exact HB.out | apply below_alloc | apply pw_below_drewN | apply below_drew1 | refine below_set ?_ GE281.out | refine below_set ?_ GE290.out | refine below_set ?_ GE291.out) | exact HB.out))))
      have n7_ := Aside0.mk (blk_below (g := gb281) (o := .cells #[.int .i64 a0_0, .int .i64 a0_1, .int .i64 a0_2, .int .i64 a0_3] 23 (0, 0)) (by refine bs_ ?_; exact BK281.out) hb)
      have n8_ := Aside0.mk (blk_below (g := gb290) (o := .cells #[.bool t297, .slice Ao37 t298.length co37] 75 (0, 0)) (by refine bs_ ?_; exact BK290.out) hb)
      have n9_ := Aside0.mk (blk_below (g := gb291) (o := .cells #[.bool x292000_1, u292001] 75 (0, 0)) (by refine bs_ ?_; exact BK291.out) hb)
      have n10_ := Aside0.mk (below_step (by repeat (first | (with_reducible first | exact HB.out | apply below_alloc | apply pw_below_drewN | apply below_drew1 | refine below_set ?_ GE281.out | refine below_set ?_ GE290.out | refine below_set ?_ GE291.out) | exact HB.out)) hb)
      clear HO_291001
      clear HO_292001
      clear HO296
      clear HO300
      clear HO304
      clear HO308
      clear BK281
      clear BK290
      clear BK291
      clear HB
      have HO_291001 := n0_
      have HO_292001 := n1_
      have HO296 := n2_
      have HO300 := n3_
      have HO304 := n4_
      have HO308 := n5_
      have HO312 := n6_
      have BK281 := n7_
      have BK290 := n8_
      have BK291 := n9_
      have HB := n10_
      clear n0_ n1_ n2_ n3_ n4_ n5_ n6_ n7_ n8_ n9_ n10_
      (try clear hb)
      (try clear hb2)
      (try clear hk)
      (try clear hi)
      (try clear ho0)
      obtain ⟨Ao48, co48, eo48⟩ := Kd.R_slice HO_292001.out
      (first | subst eo48 | (injection eo48 with f1_ f2_ f3_; have f4_ := f1_.symm; have f5_ := f3_.symm; clear f1_ f2_ f3_; subst f4_; subst f5_))
      obtain ⟨Ao49, co49, eo49⟩ := Kd.R_slice HO312.out
      (first | subst eo49 | (injection eo49 with f1_ f2_ f3_; have f4_ := f1_.symm; have f5_ := f3_.symm; clear f1_ f2_ f3_; subst f4_; subst f5_))
      refine hK.out _ _ ⟨(blk_cell BK291.out 0).trans rfl, (blk_cell BK291.out 1).trans rfl, (blk_cell BK281.out 0).trans rfl, (blk_cell BK281.out 1).trans rfl, (blk_cell BK281.out 2).trans rfl, (blk_cell BK281.out 3).trans rfl, blk_at4 BK281.out (of_eq_true pdy41) (of_eq_true qdy41), blk_at4 BK281.out (of_eq_true pdy42) (of_eq_true qdy42)⟩ (fun hHeld => ?_)
      clear hK K
      refine norm_ (a' := ?_) ?_ ?_
      rotate_left
      ·show Act.put _ (some 32) _ = _
       exact pt_
      refine one_ (i := 10) (N := some 33) #[true, true, true, true, true, true, true, true, true, true, true, false] rfl rfl (one_of HT_.out (by kernel_rfl)) (by decide) (fun K hK => ?_)
      refine goes_ Try.func57 (by kernel_rfl) rfl #[.agg #[.bool x292000_1, .slice Ao48 x292001_1.length co48], .agg #[.bool t309, .slice Ao49 t310.length co49]] (by rfl) rfl rfl mp_ ?_
      with_reducible refine (clocheref01_Plus.calls k1 x292000_1 _ _ x292001_1 t309 _ _ t310 t313 t314 _ ?side1 ?side2 ?side3 ?side4 A25.out).mono ?_
      (case side1 => repeat (first | exact (Kd.R_reads' HO_292001.out).2.2 | (with_reducible refine Kd.C_alloc ?_ _) | (with_reducible refine Kd.C_drewN ?_ _) | (with_reducible refine Kd.C_drew ?_)))
      (case side2 => exact (Kd.R_reads' HO_292001.out).2.1)
      (case side3 => repeat (first | exact (Kd.R_reads' HO312.out).2.2 | (with_reducible refine Kd.C_alloc ?_ _) | (with_reducible refine Kd.C_drewN ?_ _) | (with_reducible refine Kd.C_drew ?_)))
      (case side4 => exact (Kd.R_reads' HO312.out).2.1)
      rintro e w50 ⟨v315, rfl, ho0, hb⟩
      refine ⟨_, rfl, ?_⟩
      have n0_ := Aside0.mk (Kd.R_elder' (by refine kr_ ?_; exact HO_291001.out) (Kd.R_base ho0) hb)
      have n1_ := Aside0.mk (Kd.R_elder' (by refine kr_ ?_; exact HO_292001.out) (Kd.R_base ho0) hb)
      have n2_ := Aside0.mk (Kd.R_elder' (by refine kr_ ?_; exact HO296.out) (Kd.R_base ho0) hb)
      have n3_ := Aside0.mk (Kd.R_elder' (by refine kr_ ?_; exact HO300.out) (Kd.R_base ho0) hb)
      have n4_ := Aside0.mk (Kd.R_elder' (by refine kr_ ?_; exact HO304.out) (Kd.R_base ho0) hb)
      have n5_ := Aside0.mk (Kd.R_elder' (by refine kr_ ?_; exact HO308.out) (Kd.R_base ho0) hb)
      have n6_ := Aside0.mk (Kd.R_elder' (by refine kr_ ?_; exact HO312.out) (Kd.R_base ho0) hb)
      have n7_ := Aside0.mk (Kd.R_lower (Kd.R_new' (Kd.R_new' (Kd.R_new' (Kd.R_new' (Kd.R_new' (Kd.R_new' (Kd.R_new' ho0 (Kd.R_lt (by refine kr_ ?_; exact HO_291001.out))) (Kd.R_lt (by refine kr_ ?_; exact HO_292001.out))) (Kd.R_lt (by refine kr_ ?_; exact HO296.out))) (Kd.R_lt (by refine kr_ ?_; exact HO300.out))) (Kd.R_lt (by refine kr_ ?_; exact HO304.out))) (Kd.R_lt (by refine kr_ ?_; exact HO308.out))) (Kd.R_lt (by refine kr_ ?_; exact HO312.out))) (below_size (by repeat (first | (with_reducible first | exact HB.out | apply below_alloc | apply pw_below_drewN | apply below_drew1 | refine below_set ?_ GE281.out | refine below_set ?_ GE290.out | refine below_set ?_ GE291.out) | exact HB.out))))
      have n8_ := Aside0.mk (blk_below (g := gb281) (o := .cells #[.int .i64 a0_0, .int .i64 a0_1, .int .i64 a0_2, .int .i64 a0_3] 23 (0, 0)) (by refine bs_ ?_; exact BK281.out) hb)
      have n9_ := Aside0.mk (blk_below (g := gb290) (o := .cells #[.bool t297, .slice Ao37 t298.length co37] 75 (0, 0)) (by refine bs_ ?_; exact BK290.out) hb)
      have n10_ := Aside0.mk (blk_below (g := gb291) (o := .cells #[.bool x292000_1, .slice Ao48 x292001_1.length co48] 75 (0, 0)) (by refine bs_ ?_; exact BK291.out) hb)
      have n11_ := Aside0.mk (below_step (by repeat (first | (with_reducible first | exact HB.out | apply below_alloc | apply pw_below_drewN | apply below_drew1 | refine below_set ?_ GE281.out | refine below_set ?_ GE290.out | refine below_set ?_ GE291.out) | exact HB.out)) hb)
      clear HO_291001
      clear HO_292001
      clear HO296
      clear HO300
      clear HO304
      clear HO308
      clear HO312
      clear BK281
      clear BK290
      clear BK291
      clear HB
      have HO_291001 := n0_
      have HO_292001 := n1_
      have HO296 := n2_
      have HO300 := n3_
      have HO304 := n4_
      have HO308 := n5_
      have HO312 := n6_
      have HO316 := n7_
      have BK281 := n8_
      have BK290 := n9_
      have BK291 := n10_
      have HB := n11_
      clear n0_ n1_ n2_ n3_ n4_ n5_ n6_ n7_ n8_ n9_ n10_ n11_
      (try clear hb)
      (try clear hb2)
      (try clear hk)
      (try clear hi)
      (try clear ho0)
      obtain ⟨Ao52, co52, eo52⟩ := Kd.R_slice HO316.out
      (first | subst eo52 | (injection eo52 with f1_ f2_ f3_; have f4_ := f1_.symm; have f5_ := f3_.symm; clear f1_ f2_ f3_; subst f4_; subst f5_))
      refine hK.out _ _ ⟨(blk_cell BK291.out 0).trans rfl, (blk_cell BK291.out 1).trans rfl, (blk_cell BK281.out 0).trans rfl, (blk_cell BK281.out 1).trans rfl, (blk_cell BK281.out 2).trans rfl, (blk_cell BK281.out 3).trans rfl, blk_at4 BK281.out (of_eq_true pdy41) (of_eq_true qdy41), blk_at4 BK281.out (of_eq_true pdy42) (of_eq_true qdy42)⟩ (fun hHeld => ?_)
      clear hK K
      refine norm_ (a' := ?_) ?_ ?_
      rotate_left
      ·show Act.put _ (some 33) _ = _
       exact pt_
      refine last_ (i := 11) (N := none) #[true, true, true, true, true, true, true, true, true, true, true, true] rfl rfl (one_of HT_.out (by kernel_rfl)) (by decide) (fun K hK => ?_)
      have hs51 : w50.cell? ⟨gb291, 0, none⟩ = some (.bool x292000_1) := (blk_cell BK291.out 0).trans rfl
      have hfs51 := blk_frozen BK291.out 0
      have hns51_0 := NB281_291.out
      have hns51_1 := NB290_291.out
      have hms51_0 := NB291_281.out
      have hms51_1 := NB291_290.out
      have hs53 : w50.cell? ⟨gb291, 1, none⟩ = some (.slice Ao48 x292001_1.length co48) := (blk_cell BK291.out 1).trans rfl
      have hfs53 := blk_frozen BK291.out 1
      have hns53_0 := NB281_291.out
      have hns53_1 := NB290_291.out
      have hms53_0 := NB291_281.out
      have hms53_1 := NB291_290.out
      refine skip_ (w1 := ?_) (by rfl) rfl ?_ ?_
      rotate_left
      ·go_simp
       rfl
      refine hK.out _ _ ?_
      clear hK K
      refine done_ (done_of HT_.out (by kernel_rfl)) ?_
      try go_wp2
      go_roundg k1
      case measure => have := HK1.out; omega
      case rel => exact ⟨(wrap64 (x5_1 + 1)), (t297), (t298), (t313), (t314), (.slice Ao37 t298.length co37), (.slice Ao52 t314.length co52), eq_, H', ⟨by have := HK1.out; omega⟩, ⟨by refine kr_ ?_; exact Kd.R_mono (Kd.R_far (p := ⟨gb291, 1, none⟩) (Kd.R_far (p := ⟨gb291, 0, none⟩) (Kd.R_types HO300.out BK291.out (by decide)) (fun _ hk => hk.2) (.bool t313)) (fun _ hk => hk.2) (.slice Ao52 t314.length co52)) (fun _ hk => hk.1.2)⟩, ⟨by refine kr_ ?_; exact Kd.R_mono (Kd.R_far (p := ⟨gb291, 1, none⟩) (Kd.R_far (p := ⟨gb291, 0, none⟩) (Kd.R_types HO316.out BK291.out (by decide)) (fun _ hk => hk.2) (.bool t313)) (fun _ hk => hk.2) (.slice Ao52 t314.length co52)) (fun _ hk => hk.1.1.1.1.2)⟩, ⟨by refine bs_ ?_; refine blk_far ?_ NB281_291.out _; refine bs_ ?_; refine blk_far ?_ NB281_291.out _; refine bs_ ?_; exact BK281.out⟩, ⟨by refine bs_ ?_; refine blk_far ?_ NB290_291.out _; refine bs_ ?_; refine blk_far ?_ NB290_291.out _; refine bs_ ?_; exact BK290.out⟩, ⟨by refine bs_ ?_; refine blk_put (cs := #[.bool t313, .slice Ao48 x292001_1.length co48]) ?_ 1 _ rfl; refine bs_ ?_; refine blk_put (cs := #[.bool x292000_1, .slice Ao48 x292001_1.length co48]) ?_ 0 _ rfl; refine bs_ ?_; exact BK291.out⟩, ⟨by repeat (first | (with_reducible first | exact HB.out | apply below_alloc | apply pw_below_drewN | apply below_drew1 | refine below_set ?_ GE281.out | refine below_set ?_ GE290.out | refine below_set ?_ GE291.out) | exact HB.out)⟩⟩
     ·replace c19 := Bool.eq_false_iff.mpr c19
      subst c19
      have H1 : (some false) = some r := by rw [if_neg (show ¬ (false = true) by decide)] at H; exact H
      clear H
      have H := H1
      clear H1
      obtain rfl := Option.some.inj H
      have hnb55 := NB281_290.out
      have hnc55 := NB290_281.out
      have hnb56 := NB281_291.out
      have hnc56 := NB291_281.out
      have hcz57_0 : wr.cell? ⟨gb281, 0, none⟩ = some (.int .i64 a0_0) := (blk_cell BK281.out 0).trans rfl
      have hcz57_1 : wr.cell? ⟨gb281, 1, none⟩ = some (.int .i64 a0_1) := (blk_cell BK281.out 1).trans rfl
      have hcz57_2 : wr.cell? ⟨gb281, 2, none⟩ = some (.int .i64 a0_2) := (blk_cell BK281.out 2).trans rfl
      have hcz57_3 : wr.cell? ⟨gb281, 3, none⟩ = some (.int .i64 a0_3) := (blk_cell BK281.out 3).trans rfl
      have hfz57_0 := blk_frozen BK281.out 0
      have hfz57_1 := blk_frozen BK281.out 1
      have hfz57_2 := blk_frozen BK281.out 2
      have hfz57_3 := blk_frozen BK281.out 3
      have pdy54 : 0 ≤ (x5_1 : Int) := of_decide_eq_true as_
      have qdy54 : (x5_1 : Int) < 4 := of_decide_eq_true as_
      replace pdy54 := eq_true pdy54
      replace qdy54 := eq_true qdy54
      have hxdy54 : wr.cell? ⟨gb281, (x5_1 : Int).toNat, none⟩ = some (.int .i64 (at4 a0_0 a0_1 a0_2 a0_3 x5_1)) := blk_at4 BK281.out (of_eq_true pdy54) (of_eq_true qdy54)
      have hfdy54 := blk_frozen BK281.out (x5_1 : Int).toNat
      go_wp2_with (first | ((with_reducible refine gate_callee (f := 30) rfl ?_); refine goesL_ (some 15) rfl rfl Try.func30 (by kernel_rfl) rfl #[.int .i64 (at4 a0_0 a0_1 a0_2 a0_3 x5_1)] rfl mp_ ?_; (with_reducible refine (clocheref01_InRange.calls (at4 a0_0 a0_1 a0_2 a0_3 x5_1) false _ A18.out).mono ?_); rintro e w' ⟨rfl, ⟨nd, rfl⟩⟩; refine ⟨_, rfl, ?_⟩))
      go_ret
      exact ⟨by first | rfl | (simp [errW_none, errW_some] <;> rfl) | (simp [*, errW_none, errW_some] <;> rfl), by repeat (first | (with_reducible first | exact HB.out | apply below_alloc | apply pw_below_drewN | apply below_drew1 | refine below_set ?_ GE281.out | refine below_set ?_ GE290.out | refine below_set ?_ GE291.out) | exact HB.out)⟩
    ·rw [if_neg c17] at H
     exact absurd H (by simp)
   ·rw [if_neg c16] at H
    have c16b0 : decide (x5_1 < 4) = false := decide_eq_false c16
    clear c16
    replace H := Option.bind_eq_some_iff.mp H
    obtain ⟨⟨t317, t318⟩, A580, H⟩ := H
    replace H : ((clocheref01_Compare.f k1 x291000_1 x291001_1 t317 t318).bind fun t321 => (if t321 > 0 then ((clocheref01_Times.f k1 x291000_1 x291001_1 x291000_1 x291001_1).bind fun bt322 => ((clocheref01_Of.f k1 2).bind fun bt326 => ((clocheref01_Times.f k1 bt326.1 bt326.2 x292000_1 x292001_1).bind fun bt330 => ((clocheref01_Compare.f k1 bt322.1 bt322.2 bt330.1 bt330.2).bind fun t334 => (some (t334 == 0)))))) else (some false))) = some r := H
    have A58 := Aside0.mk A580
    clear A580
    replace H := Option.bind_eq_some_iff.mp H
    obtain ⟨t321, A590, H⟩ := H
    replace H : (if t321 > 0 then ((clocheref01_Times.f k1 x291000_1 x291001_1 x291000_1 x291001_1).bind fun bt322 => ((clocheref01_Of.f k1 2).bind fun bt326 => ((clocheref01_Times.f k1 bt326.1 bt326.2 x292000_1 x292001_1).bind fun bt330 => ((clocheref01_Compare.f k1 bt322.1 bt322.2 bt330.1 bt330.2).bind fun t334 => (some (t334 == 0)))))) else (some false)) = some r := H
    have A59 := Aside0.mk A590
    clear A590
    by_cases c60 : t321 > 0
    ·rw [if_pos c60] at H
     have c60b0 : decide (0 < t321) = true := decide_eq_true c60
     clear c60
     replace H := Option.bind_eq_some_iff.mp H
     obtain ⟨⟨t322, t323⟩, A610, H⟩ := H
     replace H : ((clocheref01_Of.f k1 2).bind fun bt326 => ((clocheref01_Times.f k1 bt326.1 bt326.2 x292000_1 x292001_1).bind fun bt330 => ((clocheref01_Compare.f k1 t322 t323 bt330.1 bt330.2).bind fun t334 => (some (t334 == 0))))) = some r := H
     have A61 := Aside0.mk A610
     clear A610
     replace H := Option.bind_eq_some_iff.mp H
     obtain ⟨⟨t326, t327⟩, A620, H⟩ := H
     replace H : ((clocheref01_Times.f k1 t326 t327 x292000_1 x292001_1).bind fun bt330 => ((clocheref01_Compare.f k1 t322 t323 bt330.1 bt330.2).bind fun t334 => (some (t334 == 0)))) = some r := H
     have A62 := Aside0.mk A620
     clear A620
     replace H := Option.bind_eq_some_iff.mp H
     obtain ⟨⟨t330, t331⟩, A630, H⟩ := H
     replace H : ((clocheref01_Compare.f k1 t322 t323 t330 t331).bind fun t334 => (some (t334 == 0))) = some r := H
     have A63 := Aside0.mk A630
     clear A630
     replace H := Option.bind_eq_some_iff.mp H
     obtain ⟨t334, A640, H⟩ := H
     replace H : (some (t334 == 0)) = some r := H
     have A64 := Aside0.mk A640
     clear A640
     obtain rfl := Option.some.inj H
     try go_wp2
     have n0_ := Aside0.mk (Kd.R_drew HO_291001.out)
     have n1_ := Aside0.mk (Kd.R_drew HO_292001.out)
     have n2_ := Aside0.mk (blk_drew BK281.out)
     have n3_ := Aside0.mk (blk_drew BK290.out)
     have n4_ := Aside0.mk (blk_drew BK291.out)
     have n5_ := Aside0.mk (below_drew1 HB.out)
     clear HO_291001
     clear HO_292001
     clear BK281
     clear BK290
     clear BK291
     clear HB
     have HO_291001 := n0_
     have HO_292001 := n1_
     have BK281 := n2_
     have BK290 := n3_
     have BK291 := n4_
     have HB := n5_
     clear n0_ n1_ n2_ n3_ n4_ n5_
     refine start_ (n := 15) (S := fun w' => w'.cell? ⟨gb290, 0, none⟩ = some (.bool x291000_1) ∧ w'.cell? ⟨gb290, 1, none⟩ = some (u291001) ∧ w'.cell? ⟨gb291, 0, none⟩ = some (.bool x292000_1) ∧ w'.cell? ⟨gb291, 1, none⟩ = some (u292001)) (ds := []) #[false, false, false, false, false, false, false, false, false, false, false, false, false, false, false] (by kernel_rfl) rfl rfl ⟨(blk_cell BK290.out 0).trans rfl, (blk_cell BK290.out 1).trans rfl, (blk_cell BK291.out 0).trans rfl, (blk_cell BK291.out 1).trans rfl⟩ (fun hHeld => ?_); refine with_tabW clocheref01_IsQuad.tab9 clocheref01_IsQuad.bits9 (fun HT_ HW_ => ?_)
     generalize wr.drew = w65 at HO_291001 HO_292001 BK281 BK290 BK291 HB hHeld ⊢
     refine take_ (i := 0) (N := some 34) (v := ?_) (a' := ?_) #[true, false, false, false, false, false, false, false, false, false, false, false, false, false, false] rfl rfl (take_ofW HT_.out HW_.out (by kernel_rfl)) (fun _ _ _ h => h) (Or.inl ⟨by rfl, ?_⟩) hHeld ?_ ?_
     rotate_left
     ·rintro w' ⟨s0, s1, s2, s3⟩
      go_simp
      with_reducible rfl
     rotate_left
     ·exact pt_
     refine one_ (i := 1) (N := some 35) #[true, true, false, false, false, false, false, false, false, false, false, false, false, false, false] rfl rfl (one_of HT_.out (by kernel_rfl)) (by decide) (fun K hK => ?_)
     refine goes_ Try.func56 (by kernel_rfl) rfl #[.int .i64 0] (by rfl) rfl rfl mp_ ?_
     with_reducible refine (clocheref01_Of.calls k1 0 t317 t318 _ A58.out).mono ?_
     rintro e w66 ⟨v319, rfl, ho0, hb⟩
     refine ⟨_, rfl, ?_⟩
     have n0_ := Aside0.mk (Kd.R_elder' (by refine kr_ ?_; exact HO_291001.out) (Kd.R_base ho0) hb)
     have n1_ := Aside0.mk (Kd.R_elder' (by refine kr_ ?_; exact HO_292001.out) (Kd.R_base ho0) hb)
     have n2_ := Aside0.mk (Kd.R_lower (Kd.R_new' (Kd.R_new' ho0 (Kd.R_lt (by refine kr_ ?_; exact HO_291001.out))) (Kd.R_lt (by refine kr_ ?_; exact HO_292001.out))) (below_size (by repeat (first | (with_reducible first | exact HB.out | apply below_alloc | apply pw_below_drewN | apply below_drew1 | refine below_set ?_ GE281.out | refine below_set ?_ GE290.out | refine below_set ?_ GE291.out) | exact HB.out))))
     have n3_ := Aside0.mk (blk_below (g := gb281) (o := .cells #[.int .i64 a0_0, .int .i64 a0_1, .int .i64 a0_2, .int .i64 a0_3] 23 (0, 0)) (by refine bs_ ?_; exact BK281.out) hb)
     have n4_ := Aside0.mk (blk_below (g := gb290) (o := .cells #[.bool x291000_1, u291001] 75 (0, 0)) (by refine bs_ ?_; exact BK290.out) hb)
     have n5_ := Aside0.mk (blk_below (g := gb291) (o := .cells #[.bool x292000_1, u292001] 75 (0, 0)) (by refine bs_ ?_; exact BK291.out) hb)
     have n6_ := Aside0.mk (below_step (by repeat (first | (with_reducible first | exact HB.out | apply below_alloc | apply pw_below_drewN | apply below_drew1 | refine below_set ?_ GE281.out | refine below_set ?_ GE290.out | refine below_set ?_ GE291.out) | exact HB.out)) hb)
     clear HO_291001
     clear HO_292001
     clear BK281
     clear BK290
     clear BK291
     clear HB
     have HO_291001 := n0_
     have HO_292001 := n1_
     have HO320 := n2_
     have BK281 := n3_
     have BK290 := n4_
     have BK291 := n5_
     have HB := n6_
     clear n0_ n1_ n2_ n3_ n4_ n5_ n6_
     (try clear hb)
     (try clear hb2)
     (try clear hk)
     (try clear hi)
     (try clear ho0)
     obtain ⟨Ao67, co67, eo67⟩ := Kd.R_slice HO_291001.out
     (first | subst eo67 | (injection eo67 with f1_ f2_ f3_; have f4_ := f1_.symm; have f5_ := f3_.symm; clear f1_ f2_ f3_; subst f4_; subst f5_))
     obtain ⟨Ao68, co68, eo68⟩ := Kd.R_slice HO320.out
     (first | subst eo68 | (injection eo68 with f1_ f2_ f3_; have f4_ := f1_.symm; have f5_ := f3_.symm; clear f1_ f2_ f3_; subst f4_; subst f5_))
     refine hK.out _ _ ⟨(blk_cell BK290.out 0).trans rfl, (blk_cell BK290.out 1).trans rfl, (blk_cell BK291.out 0).trans rfl, (blk_cell BK291.out 1).trans rfl⟩ (fun hHeld => ?_)
     clear hK K
     refine norm_ (a' := ?_) ?_ ?_
     rotate_left
     ·show Act.put _ (some 35) _ = _
      exact pt_
     refine one_ (i := 2) (N := some 36) #[true, true, true, false, false, false, false, false, false, false, false, false, false, false, false] rfl rfl (one_of HT_.out (by kernel_rfl)) (by decide) (fun K hK => ?_)
     refine goes_ Try.func59 (by kernel_rfl) rfl #[.agg #[.bool x291000_1, .slice Ao67 x291001_1.length co67], .agg #[.bool t317, .slice Ao68 t318.length co68]] (by rfl) rfl rfl mp_ ?_
     with_reducible refine (clocheref01_Compare.calls k1 x291000_1 _ _ x291001_1 t317 _ _ t318 t321 _ ?side1 ?side2 ?side3 ?side4 A59.out).mono ?_
     (case side1 => repeat (first | exact (Kd.R_reads' HO_291001.out).2.2 | (with_reducible refine Kd.C_alloc ?_ _) | (with_reducible refine Kd.C_drewN ?_ _) | (with_reducible refine Kd.C_drew ?_)))
     (case side2 => exact (Kd.R_reads' HO_291001.out).2.1)
     (case side3 => repeat (first | exact (Kd.R_reads' HO320.out).2.2 | (with_reducible refine Kd.C_alloc ?_ _) | (with_reducible refine Kd.C_drewN ?_ _) | (with_reducible refine Kd.C_drew ?_)))
     (case side4 => exact (Kd.R_reads' HO320.out).2.1)
     rintro e w69 ⟨rfl, hb⟩
     refine ⟨_, rfl, ?_⟩
     have n0_ := Aside0.mk (Kd.R_below (by refine kr_ ?_; exact HO_291001.out) hb)
     have n1_ := Aside0.mk (Kd.R_below (by refine kr_ ?_; exact HO_292001.out) hb)
     have n2_ := Aside0.mk (Kd.R_below (by refine kr_ ?_; exact HO320.out) hb)
     have n3_ := Aside0.mk (blk_below (g := gb281) (o := .cells #[.int .i64 a0_0, .int .i64 a0_1, .int .i64 a0_2, .int .i64 a0_3] 23 (0, 0)) (by refine bs_ ?_; exact BK281.out) hb)
     have n4_ := Aside0.mk (blk_below (g := gb290) (o := .cells #[.bool x291000_1, .slice Ao67 x291001_1.length co67] 75 (0, 0)) (by refine bs_ ?_; exact BK290.out) hb)
     have n5_ := Aside0.mk (blk_below (g := gb291) (o := .cells #[.bool x292000_1, u292001] 75 (0, 0)) (by refine bs_ ?_; exact BK291.out) hb)
     have n6_ := Aside0.mk (below_step (by repeat (first | (with_reducible first | exact HB.out | apply below_alloc | apply pw_below_drewN | apply below_drew1 | refine below_set ?_ GE281.out | refine below_set ?_ GE290.out | refine below_set ?_ GE291.out) | exact HB.out)) hb)
     clear HO_291001
     clear HO_292001
     clear HO320
     clear BK281
     clear BK290
     clear BK291
     clear HB
     have HO_291001 := n0_
     have HO_292001 := n1_
     have HO320 := n2_
     have BK281 := n3_
     have BK290 := n4_
     have BK291 := n5_
     have HB := n6_
     clear n0_ n1_ n2_ n3_ n4_ n5_ n6_
     (try clear hb)
     (try clear hb2)
     (try clear hk)
     (try clear hi)
     refine hK.out _ _ ⟨(blk_cell BK290.out 0).trans rfl, (blk_cell BK290.out 1).trans rfl, (blk_cell BK291.out 0).trans rfl, (blk_cell BK291.out 1).trans rfl⟩ (fun hHeld => ?_)
     clear hK K
     refine norm_ (a' := ?_) ?_ ?_
     rotate_left
     ·show Act.put _ (some 36) _ = _
      exact pt_
     refine pure_ (i := 3) (N := some 37) (v := ?_) (a' := ?_) #[true, true, true, true, false, false, false, false, false, false, false, false, false, false, false] rfl rfl (any_of HT_.out (by kernel_rfl)) (fun _ _ _ h => h) (Or.inl ⟨by rfl, ?_⟩) ?_ ?_
     rotate_left
     ·intro w'
      go_simp
      with_reducible rfl
     rotate_left
     ·exact pt_
     refine pure_ (i := 4) (N := some 38) (v := ?_) (a' := ?_) #[true, true, true, true, true, false, false, false, false, false, false, false, false, false, false] rfl rfl (any_of HT_.out (by kernel_rfl)) (fun _ _ _ h => h) (Or.inl ⟨by rfl, ?_⟩) ?_ ?_
     rotate_left
     ·intro w'
      go_simp
      with_reducible rfl
     rotate_left
     ·exact pt_
     refine take_ (i := 5) (N := some 39) (v := ?_) (a' := ?_) #[true, true, true, true, true, true, false, false, false, false, false, false, false, false, false] rfl rfl (take_ofW HT_.out HW_.out (by kernel_rfl)) (fun _ _ _ h => h) (Or.inl ⟨by rfl, ?_⟩) hHeld ?_ ?_
     rotate_left
     ·rintro w' ⟨s0, s1, s2, s3⟩
      go_simp
      with_reducible rfl
     rotate_left
     ·exact pt_
     refine take_ (i := 6) (N := some 40) (v := ?_) (a' := ?_) #[true, true, true, true, true, true, true, false, false, false, false, false, false, false, false] rfl rfl (take_ofW HT_.out HW_.out (by kernel_rfl)) (fun _ _ _ h => h) (Or.inl ⟨by rfl, ?_⟩) hHeld ?_ ?_
     rotate_left
     ·rintro w' ⟨s0, s1, s2, s3⟩
      go_simp
      with_reducible rfl
     rotate_left
     ·exact pt_
     refine take_ (i := 9) (N := some 43) (v := ?_) (a' := ?_) #[true, true, true, true, true, true, true, false, false, true, false, false, false, false, false] rfl rfl (take_ofW HT_.out HW_.out (by kernel_rfl)) (fun _ _ _ h => h) (Or.inl ⟨by rfl, ?_⟩) hHeld ?_ ?_
     rotate_left
     ·rintro w' ⟨s0, s1, s2, s3⟩
      go_simp
      with_reducible rfl
     rotate_left
     ·exact pt_
     refine one_ (i := 7) (N := some 41) #[true, true, true, true, true, true, true, true, false, true, false, false, false, false, false] rfl rfl (one_of HT_.out (by kernel_rfl)) (by decide) (fun K hK => ?_)
     refine goes_ Try.func58 (by kernel_rfl) rfl #[.agg #[.bool x291000_1, .slice Ao67 x291001_1.length co67], .agg #[.bool x291000_1, .slice Ao67 x291001_1.length co67]] (by rfl) rfl rfl mp_ ?_
     with_reducible refine (clocheref01_Times.calls k1 x291000_1 _ _ x291001_1 x291000_1 _ _ x291001_1 t322 t323 _ ?side1 ?side2 ?side3 ?side4 A61.out).mono ?_
     (case side1 => repeat (first | exact (Kd.R_reads' HO_291001.out).2.2 | (with_reducible refine Kd.C_alloc ?_ _) | (with_reducible refine Kd.C_drewN ?_ _) | (with_reducible refine Kd.C_drew ?_)))
     (case side2 => exact (Kd.R_reads' HO_291001.out).2.1)
     (case side3 => repeat (first | exact (Kd.R_reads' HO_291001.out).2.2 | (with_reducible refine Kd.C_alloc ?_ _) | (with_reducible refine Kd.C_drewN ?_ _) | (with_reducible refine Kd.C_drew ?_)))
     (case side4 => exact (Kd.R_reads' HO_291001.out).2.1)
     rintro e w70 ⟨v324, rfl, ho0, hb⟩
     refine ⟨_, rfl, ?_⟩
     have n0_ := Aside0.mk (Kd.R_elder' (by refine kr_ ?_; exact HO_291001.out) (Kd.R_base ho0) hb)
     have n1_ := Aside0.mk (Kd.R_elder' (by refine kr_ ?_; exact HO_292001.out) (Kd.R_base ho0) hb)
     have n2_ := Aside0.mk (Kd.R_elder' (by refine kr_ ?_; exact HO320.out) (Kd.R_base ho0) hb)
     have n3_ := Aside0.mk (Kd.R_lower (Kd.R_new' (Kd.R_new' (Kd.R_new' ho0 (Kd.R_lt (by refine kr_ ?_; exact HO_291001.out))) (Kd.R_lt (by refine kr_ ?_; exact HO_292001.out))) (Kd.R_lt (by refine kr_ ?_; exact HO320.out))) (below_size (by repeat (first | (with_reducible first | exact HB.out | apply below_alloc | apply pw_below_drewN | apply below_drew1 | refine below_set ?_ GE281.out | refine below_set ?_ GE290.out | refine below_set ?_ GE291.out) | exact HB.out))))
     have n4_ := Aside0.mk (blk_below (g := gb281) (o := .cells #[.int .i64 a0_0, .int .i64 a0_1, .int .i64 a0_2, .int .i64 a0_3] 23 (0, 0)) (by refine bs_ ?_; exact BK281.out) hb)
     have n5_ := Aside0.mk (blk_below (g := gb290) (o := .cells #[.bool x291000_1, .slice Ao67 x291001_1.length co67] 75 (0, 0)) (by refine bs_ ?_; exact BK290.out) hb)
     have n6_ := Aside0.mk (blk_below (g := gb291) (o := .cells #[.bool x292000_1, u292001] 75 (0, 0)) (by refine bs_ ?_; exact BK291.out) hb)
     have n7_ := Aside0.mk (below_step (by repeat (first | (with_reducible first | exact HB.out | apply below_alloc | apply pw_below_drewN | apply below_drew1 | refine below_set ?_ GE281.out | refine below_set ?_ GE290.out | refine below_set ?_ GE291.out) | exact HB.out)) hb)
     clear HO_291001
     clear HO_292001
     clear HO320
     clear BK281
     clear BK290
     clear BK291
     clear HB
     have HO_291001 := n0_
     have HO_292001 := n1_
     have HO320 := n2_
     have HO325 := n3_
     have BK281 := n4_
     have BK290 := n5_
     have BK291 := n6_
     have HB := n7_
     clear n0_ n1_ n2_ n3_ n4_ n5_ n6_ n7_
     (try clear hb)
     (try clear hb2)
     (try clear hk)
     (try clear hi)
     (try clear ho0)
     refine hK.out _ _ ⟨(blk_cell BK290.out 0).trans rfl, (blk_cell BK290.out 1).trans rfl, (blk_cell BK291.out 0).trans rfl, (blk_cell BK291.out 1).trans rfl⟩ (fun hHeld => ?_)
     clear hK K
     refine norm_ (a' := ?_) ?_ ?_
     rotate_left
     ·show Act.put _ (some 41) _ = _
      exact pt_
     refine one_ (i := 8) (N := some 42) #[true, true, true, true, true, true, true, true, true, true, false, false, false, false, false] rfl rfl (one_of HT_.out (by kernel_rfl)) (by decide) (fun K hK => ?_)
     refine goes_ Try.func56 (by kernel_rfl) rfl #[.int .i64 2] (by rfl) rfl rfl mp_ ?_
     with_reducible refine (clocheref01_Of.calls k1 2 t326 t327 _ A62.out).mono ?_
     rintro e w71 ⟨v328, rfl, ho0, hb⟩
     refine ⟨_, rfl, ?_⟩
     have n0_ := Aside0.mk (Kd.R_elder' (by refine kr_ ?_; exact HO_291001.out) (Kd.R_base ho0) hb)
     have n1_ := Aside0.mk (Kd.R_elder' (by refine kr_ ?_; exact HO_292001.out) (Kd.R_base ho0) hb)
     have n2_ := Aside0.mk (Kd.R_elder' (by refine kr_ ?_; exact HO320.out) (Kd.R_base ho0) hb)
     have n3_ := Aside0.mk (Kd.R_elder' (by refine kr_ ?_; exact HO325.out) (Kd.R_base ho0) hb)
     have n4_ := Aside0.mk (Kd.R_lower (Kd.R_new' (Kd.R_new' (Kd.R_new' (Kd.R_new' ho0 (Kd.R_lt (by refine kr_ ?_; exact HO_291001.out))) (Kd.R_lt (by refine kr_ ?_; exact HO_292001.out))) (Kd.R_lt (by refine kr_ ?_; exact HO320.out))) (Kd.R_lt (by refine kr_ ?_; exact HO325.out))) (below_size (by repeat (first | (with_reducible first | exact HB.out | apply below_alloc | apply pw_below_drewN | apply below_drew1 | refine below_set ?_ GE281.out | refine below_set ?_ GE290.out | refine below_set ?_ GE291.out) | exact HB.out))))
     have n5_ := Aside0.mk (blk_below (g := gb281) (o := .cells #[.int .i64 a0_0, .int .i64 a0_1, .int .i64 a0_2, .int .i64 a0_3] 23 (0, 0)) (by refine bs_ ?_; exact BK281.out) hb)
     have n6_ := Aside0.mk (blk_below (g := gb290) (o := .cells #[.bool x291000_1, .slice Ao67 x291001_1.length co67] 75 (0, 0)) (by refine bs_ ?_; exact BK290.out) hb)
     have n7_ := Aside0.mk (blk_below (g := gb291) (o := .cells #[.bool x292000_1, u292001] 75 (0, 0)) (by refine bs_ ?_; exact BK291.out) hb)
     have n8_ := Aside0.mk (below_step (by repeat (first | (with_reducible first | exact HB.out | apply below_alloc | apply pw_below_drewN | apply below_drew1 | refine below_set ?_ GE281.out | refine below_set ?_ GE290.out | refine below_set ?_ GE291.out) | exact HB.out)) hb)
     clear HO_291001
     clear HO_292001
     clear HO320
     clear HO325
     clear BK281
     clear BK290
     clear BK291
     clear HB
     have HO_291001 := n0_
     have HO_292001 := n1_
     have HO320 := n2_
     have HO325 := n3_
     have HO329 := n4_
     have BK281 := n5_
     have BK290 := n6_
     have BK291 := n7_
     have HB := n8_
     clear n0_ n1_ n2_ n3_ n4_ n5_ n6_ n7_ n8_
     (try clear hb)
     (try clear hb2)
     (try clear hk)
     (try clear hi)
     (try clear ho0)
     obtain ⟨Ao72, co72, eo72⟩ := Kd.R_slice HO329.out
     (first | subst eo72 | (injection eo72 with f1_ f2_ f3_; have f4_ := f1_.symm; have f5_ := f3_.symm; clear f1_ f2_ f3_; subst f4_; subst f5_))
     obtain ⟨Ao73, co73, eo73⟩ := Kd.R_slice HO_292001.out
     (first | subst eo73 | (injection eo73 with f1_ f2_ f3_; have f4_ := f1_.symm; have f5_ := f3_.symm; clear f1_ f2_ f3_; subst f4_; subst f5_))
     refine hK.out _ _ ⟨(blk_cell BK290.out 0).trans rfl, (blk_cell BK290.out 1).trans rfl, (blk_cell BK291.out 0).trans rfl, (blk_cell BK291.out 1).trans rfl⟩ (fun hHeld => ?_)
     clear hK K
     refine norm_ (a' := ?_) ?_ ?_
     rotate_left
     ·show Act.put _ (some 42) _ = _
      exact pt_
     refine one_ (i := 10) (N := some 44) #[true, true, true, true, true, true, true, true, true, true, true, false, false, false, false] rfl rfl (one_of HT_.out (by kernel_rfl)) (by decide) (fun K hK => ?_)
     refine goes_ Try.func58 (by kernel_rfl) rfl #[.agg #[.bool t326, .slice Ao72 t327.length co72], .agg #[.bool x292000_1, .slice Ao73 x292001_1.length co73]] (by rfl) rfl rfl mp_ ?_
     with_reducible refine (clocheref01_Times.calls k1 t326 _ _ t327 x292000_1 _ _ x292001_1 t330 t331 _ ?side1 ?side2 ?side3 ?side4 A63.out).mono ?_
     (case side1 => repeat (first | exact (Kd.R_reads' HO329.out).2.2 | (with_reducible refine Kd.C_alloc ?_ _) | (with_reducible refine Kd.C_drewN ?_ _) | (with_reducible refine Kd.C_drew ?_)))
     (case side2 => exact (Kd.R_reads' HO329.out).2.1)
     (case side3 => repeat (first | exact (Kd.R_reads' HO_292001.out).2.2 | (with_reducible refine Kd.C_alloc ?_ _) | (with_reducible refine Kd.C_drewN ?_ _) | (with_reducible refine Kd.C_drew ?_)))
     (case side4 => exact (Kd.R_reads' HO_292001.out).2.1)
     rintro e w74 ⟨v332, rfl, ho0, hb⟩
     refine ⟨_, rfl, ?_⟩
     have n0_ := Aside0.mk (Kd.R_elder' (by refine kr_ ?_; exact HO_291001.out) (Kd.R_base ho0) hb)
     have n1_ := Aside0.mk (Kd.R_elder' (by refine kr_ ?_; exact HO_292001.out) (Kd.R_base ho0) hb)
     have n2_ := Aside0.mk (Kd.R_elder' (by refine kr_ ?_; exact HO320.out) (Kd.R_base ho0) hb)
     have n3_ := Aside0.mk (Kd.R_elder' (by refine kr_ ?_; exact HO325.out) (Kd.R_base ho0) hb)
     have n4_ := Aside0.mk (Kd.R_elder' (by refine kr_ ?_; exact HO329.out) (Kd.R_base ho0) hb)
     have n5_ := Aside0.mk (Kd.R_lower (Kd.R_new' (Kd.R_new' (Kd.R_new' (Kd.R_new' (Kd.R_new' ho0 (Kd.R_lt (by refine kr_ ?_; exact HO_291001.out))) (Kd.R_lt (by refine kr_ ?_; exact HO_292001.out))) (Kd.R_lt (by refine kr_ ?_; exact HO320.out))) (Kd.R_lt (by refine kr_ ?_; exact HO325.out))) (Kd.R_lt (by refine kr_ ?_; exact HO329.out))) (below_size (by repeat (first | (with_reducible first | exact HB.out | apply below_alloc | apply pw_below_drewN | apply below_drew1 | refine below_set ?_ GE281.out | refine below_set ?_ GE290.out | refine below_set ?_ GE291.out) | exact HB.out))))
     have n6_ := Aside0.mk (blk_below (g := gb281) (o := .cells #[.int .i64 a0_0, .int .i64 a0_1, .int .i64 a0_2, .int .i64 a0_3] 23 (0, 0)) (by refine bs_ ?_; exact BK281.out) hb)
     have n7_ := Aside0.mk (blk_below (g := gb290) (o := .cells #[.bool x291000_1, .slice Ao67 x291001_1.length co67] 75 (0, 0)) (by refine bs_ ?_; exact BK290.out) hb)
     have n8_ := Aside0.mk (blk_below (g := gb291) (o := .cells #[.bool x292000_1, .slice Ao73 x292001_1.length co73] 75 (0, 0)) (by refine bs_ ?_; exact BK291.out) hb)
     have n9_ := Aside0.mk (below_step (by repeat (first | (with_reducible first | exact HB.out | apply below_alloc | apply pw_below_drewN | apply below_drew1 | refine below_set ?_ GE281.out | refine below_set ?_ GE290.out | refine below_set ?_ GE291.out) | exact HB.out)) hb)
     clear HO_291001
     clear HO_292001
     clear HO320
     clear HO325
     clear HO329
     clear BK281
     clear BK290
     clear BK291
     clear HB
     have HO_291001 := n0_
     have HO_292001 := n1_
     have HO320 := n2_
     have HO325 := n3_
     have HO329 := n4_
     have HO333 := n5_
     have BK281 := n6_
     have BK290 := n7_
     have BK291 := n8_
     have HB := n9_
     clear n0_ n1_ n2_ n3_ n4_ n5_ n6_ n7_ n8_ n9_
     (try clear hb)
     (try clear hb2)
     (try clear hk)
     (try clear hi)
     (try clear ho0)
     obtain ⟨Ao75, co75, eo75⟩ := Kd.R_slice HO325.out
     (first | subst eo75 | (injection eo75 with f1_ f2_ f3_; have f4_ := f1_.symm; have f5_ := f3_.symm; clear f1_ f2_ f3_; subst f4_; subst f5_))
     obtain ⟨Ao76, co76, eo76⟩ := Kd.R_slice HO333.out
     (first | subst eo76 | (injection eo76 with f1_ f2_ f3_; have f4_ := f1_.symm; have f5_ := f3_.symm; clear f1_ f2_ f3_; subst f4_; subst f5_))
     refine hK.out _ _ ⟨(blk_cell BK290.out 0).trans rfl, (blk_cell BK290.out 1).trans rfl, (blk_cell BK291.out 0).trans rfl, (blk_cell BK291.out 1).trans rfl⟩ (fun hHeld => ?_)
     clear hK K
     refine norm_ (a' := ?_) ?_ ?_
     rotate_left
     ·show Act.put _ (some 44) _ = _
      exact pt_
     refine one_ (i := 11) (N := some 45) #[true, true, true, true, true, true, true, true, true, true, true, true, false, false, false] rfl rfl (one_of HT_.out (by kernel_rfl)) (by decide) (fun K hK => ?_)
     refine goes_ Try.func59 (by kernel_rfl) rfl #[.agg #[.bool t322, .slice Ao75 t323.length co75], .agg #[.bool t330, .slice Ao76 t331.length co76]] (by rfl) rfl rfl mp_ ?_
     with_reducible refine (clocheref01_Compare.calls k1 t322 _ _ t323 t330 _ _ t331 t334 _ ?side1 ?side2 ?side3 ?side4 A64.out).mono ?_
     (case side1 => repeat (first | exact (Kd.R_reads' HO325.out).2.2 | (with_reducible refine Kd.C_alloc ?_ _) | (with_reducible refine Kd.C_drewN ?_ _) | (with_reducible refine Kd.C_drew ?_)))
     (case side2 => exact (Kd.R_reads' HO325.out).2.1)
     (case side3 => repeat (first | exact (Kd.R_reads' HO333.out).2.2 | (with_reducible refine Kd.C_alloc ?_ _) | (with_reducible refine Kd.C_drewN ?_ _) | (with_reducible refine Kd.C_drew ?_)))
     (case side4 => exact (Kd.R_reads' HO333.out).2.1)
     rintro e w77 ⟨rfl, hb⟩
     refine ⟨_, rfl, ?_⟩
     have n0_ := Aside0.mk (Kd.R_below (by refine kr_ ?_; exact HO_291001.out) hb)
     have n1_ := Aside0.mk (Kd.R_below (by refine kr_ ?_; exact HO_292001.out) hb)
     have n2_ := Aside0.mk (Kd.R_below (by refine kr_ ?_; exact HO320.out) hb)
     have n3_ := Aside0.mk (Kd.R_below (by refine kr_ ?_; exact HO325.out) hb)
     have n4_ := Aside0.mk (Kd.R_below (by refine kr_ ?_; exact HO329.out) hb)
     have n5_ := Aside0.mk (Kd.R_below (by refine kr_ ?_; exact HO333.out) hb)
     have n6_ := Aside0.mk (blk_below (g := gb281) (o := .cells #[.int .i64 a0_0, .int .i64 a0_1, .int .i64 a0_2, .int .i64 a0_3] 23 (0, 0)) (by refine bs_ ?_; exact BK281.out) hb)
     have n7_ := Aside0.mk (blk_below (g := gb290) (o := .cells #[.bool x291000_1, .slice Ao67 x291001_1.length co67] 75 (0, 0)) (by refine bs_ ?_; exact BK290.out) hb)
     have n8_ := Aside0.mk (blk_below (g := gb291) (o := .cells #[.bool x292000_1, .slice Ao73 x292001_1.length co73] 75 (0, 0)) (by refine bs_ ?_; exact BK291.out) hb)
     have n9_ := Aside0.mk (below_step (by repeat (first | (with_reducible first | exact HB.out | apply below_alloc | apply pw_below_drewN | apply below_drew1 | refine below_set ?_ GE281.out | refine below_set ?_ GE290.out | refine below_set ?_ GE291.out) | exact HB.out)) hb)
     clear HO_291001
     clear HO_292001
     clear HO320
     clear HO325
     clear HO329
     clear HO333
     clear BK281
     clear BK290
     clear BK291
     clear HB
     have HO_291001 := n0_
     have HO_292001 := n1_
     have HO320 := n2_
     have HO325 := n3_
     have HO329 := n4_
     have HO333 := n5_
     have BK281 := n6_
     have BK290 := n7_
     have BK291 := n8_
     have HB := n9_
     clear n0_ n1_ n2_ n3_ n4_ n5_ n6_ n7_ n8_ n9_
     (try clear hb)
     (try clear hb2)
     (try clear hk)
     (try clear hi)
     refine hK.out _ _ ⟨(blk_cell BK290.out 0).trans rfl, (blk_cell BK290.out 1).trans rfl, (blk_cell BK291.out 0).trans rfl, (blk_cell BK291.out 1).trans rfl⟩ (fun hHeld => ?_)
     clear hK K
     refine norm_ (a' := ?_) ?_ ?_
     rotate_left
     ·show Act.put _ (some 45) _ = _
      exact pt_
     refine pure_ (i := 12) (N := some 46) (v := ?_) (a' := ?_) #[true, true, true, true, true, true, true, true, true, true, true, true, true, false, false] rfl rfl (any_of HT_.out (by kernel_rfl)) (fun _ _ _ h => h) (Or.inl ⟨by rfl, ?_⟩) ?_ ?_
     rotate_left
     ·intro w'
      go_simp
      with_reducible rfl
     rotate_left
     ·exact pt_
     refine pure_ (i := 13) (N := some 47) (v := ?_) (a' := ?_) #[true, true, true, true, true, true, true, true, true, true, true, true, true, true, false] rfl rfl (any_of HT_.out (by kernel_rfl)) (fun _ _ _ h => h) (Or.inl ⟨by rfl, ?_⟩) ?_ ?_
     rotate_left
     ·intro w'
      go_simp
      with_reducible rfl
     rotate_left
     ·exact pt_
     refine pure_ (i := 14) (N := some 2) (v := ?_) (a' := ?_) #[true, true, true, true, true, true, true, true, true, true, true, true, true, true, true] rfl rfl (any_of HT_.out (by kernel_rfl)) (fun _ _ _ h => h) (Or.inl ⟨by rfl, ?_⟩) ?_ ?_
     rotate_left
     ·intro w'
      go_simp
      with_reducible rfl
     rotate_left
     ·exact pt_
     refine done_ (done_of HT_.out (by kernel_rfl)) ?_
     try go_wp2
     go_ret
     exact ⟨by first | rfl | (simp [errW_none, errW_some] <;> rfl) | (simp [*, errW_none, errW_some] <;> rfl), by repeat (first | (with_reducible first | exact HB.out | apply below_alloc | apply pw_below_drewN | apply below_drew1 | refine below_set ?_ GE281.out | refine below_set ?_ GE290.out | refine below_set ?_ GE291.out) | exact HB.out)⟩
    ·rw [if_neg c60] at H
     have c60b0 : decide (0 < t321) = false := decide_eq_false c60
     clear c60
     obtain rfl := Option.some.inj H
     try go_wp2
     have n0_ := Aside0.mk (Kd.R_drew HO_291001.out)
     have n1_ := Aside0.mk (Kd.R_drew HO_292001.out)
     have n2_ := Aside0.mk (blk_drew BK281.out)
     have n3_ := Aside0.mk (blk_drew BK290.out)
     have n4_ := Aside0.mk (blk_drew BK291.out)
     have n5_ := Aside0.mk (below_drew1 HB.out)
     clear HO_291001
     clear HO_292001
     clear BK281
     clear BK290
     clear BK291
     clear HB
     have HO_291001 := n0_
     have HO_292001 := n1_
     have BK281 := n2_
     have BK290 := n3_
     have BK291 := n4_
     have HB := n5_
     clear n0_ n1_ n2_ n3_ n4_ n5_
     refine start_ (n := 15) (S := fun w' => w'.cell? ⟨gb290, 0, none⟩ = some (.bool x291000_1) ∧ w'.cell? ⟨gb290, 1, none⟩ = some (u291001)) (ds := []) #[false, false, false, false, false, false, false, false, false, false, false, false, false, false, false] (by kernel_rfl) rfl rfl ⟨(blk_cell BK290.out 0).trans rfl, (blk_cell BK290.out 1).trans rfl⟩ (fun hHeld => ?_); refine with_tabW clocheref01_IsQuad.tab9 clocheref01_IsQuad.bits9 (fun HT_ HW_ => ?_)
     generalize wr.drew = w78 at HO_291001 HO_292001 BK281 BK290 BK291 HB hHeld ⊢
     refine take_ (i := 0) (N := some 34) (v := ?_) (a' := ?_) #[true, false, false, false, false, false, false, false, false, false, false, false, false, false, false] rfl rfl (take_ofW HT_.out HW_.out (by kernel_rfl)) (fun _ _ _ h => h) (Or.inl ⟨by rfl, ?_⟩) hHeld ?_ ?_
     rotate_left
     ·rintro w' ⟨s0, s1⟩
      go_simp
      with_reducible rfl
     rotate_left
     ·exact pt_
     refine one_ (i := 1) (N := some 35) #[true, true, false, false, false, false, false, false, false, false, false, false, false, false, false] rfl rfl (one_of HT_.out (by kernel_rfl)) (by decide) (fun K hK => ?_)
     refine goes_ Try.func56 (by kernel_rfl) rfl #[.int .i64 0] (by rfl) rfl rfl mp_ ?_
     with_reducible refine (clocheref01_Of.calls k1 0 t317 t318 _ A58.out).mono ?_
     rintro e w79 ⟨v319, rfl, ho0, hb⟩
     refine ⟨_, rfl, ?_⟩
     have n0_ := Aside0.mk (Kd.R_elder' (by refine kr_ ?_; exact HO_291001.out) (Kd.R_base ho0) hb)
     have n1_ := Aside0.mk (Kd.R_elder' (by refine kr_ ?_; exact HO_292001.out) (Kd.R_base ho0) hb)
     have n2_ := Aside0.mk (Kd.R_lower (Kd.R_new' (Kd.R_new' ho0 (Kd.R_lt (by refine kr_ ?_; exact HO_291001.out))) (Kd.R_lt (by refine kr_ ?_; exact HO_292001.out))) (below_size (by repeat (first | (with_reducible first | exact HB.out | apply below_alloc | apply pw_below_drewN | apply below_drew1 | refine below_set ?_ GE281.out | refine below_set ?_ GE290.out | refine below_set ?_ GE291.out) | exact HB.out))))
     have n3_ := Aside0.mk (blk_below (g := gb281) (o := .cells #[.int .i64 a0_0, .int .i64 a0_1, .int .i64 a0_2, .int .i64 a0_3] 23 (0, 0)) (by refine bs_ ?_; exact BK281.out) hb)
     have n4_ := Aside0.mk (blk_below (g := gb290) (o := .cells #[.bool x291000_1, u291001] 75 (0, 0)) (by refine bs_ ?_; exact BK290.out) hb)
     have n5_ := Aside0.mk (blk_below (g := gb291) (o := .cells #[.bool x292000_1, u292001] 75 (0, 0)) (by refine bs_ ?_; exact BK291.out) hb)
     have n6_ := Aside0.mk (below_step (by repeat (first | (with_reducible first | exact HB.out | apply below_alloc | apply pw_below_drewN | apply below_drew1 | refine below_set ?_ GE281.out | refine below_set ?_ GE290.out | refine below_set ?_ GE291.out) | exact HB.out)) hb)
     clear HO_291001
     clear HO_292001
     clear BK281
     clear BK290
     clear BK291
     clear HB
     have HO_291001 := n0_
     have HO_292001 := n1_
     have HO320 := n2_
     have BK281 := n3_
     have BK290 := n4_
     have BK291 := n5_
     have HB := n6_
     clear n0_ n1_ n2_ n3_ n4_ n5_ n6_
     (try clear hb)
     (try clear hb2)
     (try clear hk)
     (try clear hi)
     (try clear ho0)
     obtain ⟨Ao80, co80, eo80⟩ := Kd.R_slice HO_291001.out
     (first | subst eo80 | (injection eo80 with f1_ f2_ f3_; have f4_ := f1_.symm; have f5_ := f3_.symm; clear f1_ f2_ f3_; subst f4_; subst f5_))
     obtain ⟨Ao81, co81, eo81⟩ := Kd.R_slice HO320.out
     (first | subst eo81 | (injection eo81 with f1_ f2_ f3_; have f4_ := f1_.symm; have f5_ := f3_.symm; clear f1_ f2_ f3_; subst f4_; subst f5_))
     refine hK.out _ _ ⟨(blk_cell BK290.out 0).trans rfl, (blk_cell BK290.out 1).trans rfl⟩ (fun hHeld => ?_)
     clear hK K
     refine norm_ (a' := ?_) ?_ ?_
     rotate_left
     ·show Act.put _ (some 35) _ = _
      exact pt_
     refine one_ (i := 2) (N := some 36) #[true, true, true, false, false, false, false, false, false, false, false, false, false, false, false] rfl rfl (one_of HT_.out (by kernel_rfl)) (by decide) (fun K hK => ?_)
     refine goes_ Try.func59 (by kernel_rfl) rfl #[.agg #[.bool x291000_1, .slice Ao80 x291001_1.length co80], .agg #[.bool t317, .slice Ao81 t318.length co81]] (by rfl) rfl rfl mp_ ?_
     with_reducible refine (clocheref01_Compare.calls k1 x291000_1 _ _ x291001_1 t317 _ _ t318 t321 _ ?side1 ?side2 ?side3 ?side4 A59.out).mono ?_
     (case side1 => repeat (first | exact (Kd.R_reads' HO_291001.out).2.2 | (with_reducible refine Kd.C_alloc ?_ _) | (with_reducible refine Kd.C_drewN ?_ _) | (with_reducible refine Kd.C_drew ?_)))
     (case side2 => exact (Kd.R_reads' HO_291001.out).2.1)
     (case side3 => repeat (first | exact (Kd.R_reads' HO320.out).2.2 | (with_reducible refine Kd.C_alloc ?_ _) | (with_reducible refine Kd.C_drewN ?_ _) | (with_reducible refine Kd.C_drew ?_)))
     (case side4 => exact (Kd.R_reads' HO320.out).2.1)
     rintro e w82 ⟨rfl, hb⟩
     refine ⟨_, rfl, ?_⟩
     have n0_ := Aside0.mk (Kd.R_below (by refine kr_ ?_; exact HO_291001.out) hb)
     have n1_ := Aside0.mk (Kd.R_below (by refine kr_ ?_; exact HO_292001.out) hb)
     have n2_ := Aside0.mk (Kd.R_below (by refine kr_ ?_; exact HO320.out) hb)
     have n3_ := Aside0.mk (blk_below (g := gb281) (o := .cells #[.int .i64 a0_0, .int .i64 a0_1, .int .i64 a0_2, .int .i64 a0_3] 23 (0, 0)) (by refine bs_ ?_; exact BK281.out) hb)
     have n4_ := Aside0.mk (blk_below (g := gb290) (o := .cells #[.bool x291000_1, .slice Ao80 x291001_1.length co80] 75 (0, 0)) (by refine bs_ ?_; exact BK290.out) hb)
     have n5_ := Aside0.mk (blk_below (g := gb291) (o := .cells #[.bool x292000_1, u292001] 75 (0, 0)) (by refine bs_ ?_; exact BK291.out) hb)
     have n6_ := Aside0.mk (below_step (by repeat (first | (with_reducible first | exact HB.out | apply below_alloc | apply pw_below_drewN | apply below_drew1 | refine below_set ?_ GE281.out | refine below_set ?_ GE290.out | refine below_set ?_ GE291.out) | exact HB.out)) hb)
     clear HO_291001
     clear HO_292001
     clear HO320
     clear BK281
     clear BK290
     clear BK291
     clear HB
     have HO_291001 := n0_
     have HO_292001 := n1_
     have HO320 := n2_
     have BK281 := n3_
     have BK290 := n4_
     have BK291 := n5_
     have HB := n6_
     clear n0_ n1_ n2_ n3_ n4_ n5_ n6_
     (try clear hb)
     (try clear hb2)
     (try clear hk)
     (try clear hi)
     refine hK.out _ _ ⟨(blk_cell BK290.out 0).trans rfl, (blk_cell BK290.out 1).trans rfl⟩ (fun hHeld => ?_)
     clear hK K
     refine norm_ (a' := ?_) ?_ ?_
     rotate_left
     ·show Act.put _ (some 36) _ = _
      exact pt_
     refine pure_ (i := 3) (N := some 37) (v := ?_) (a' := ?_) #[true, true, true, true, false, false, false, false, false, false, false, false, false, false, false] rfl rfl (any_of HT_.out (by kernel_rfl)) (fun _ _ _ h => h) (Or.inl ⟨by rfl, ?_⟩) ?_ ?_
     rotate_left
     ·intro w'
      go_simp
      with_reducible rfl
     rotate_left
     ·exact pt_
     refine pure_ (i := 4) (N := some 38) (v := ?_) (a' := ?_) #[true, true, true, true, true, false, false, false, false, false, false, false, false, false, false] rfl rfl (any_of HT_.out (by kernel_rfl)) (fun _ _ _ h => h) (Or.inl ⟨by rfl, ?_⟩) ?_ ?_
     rotate_left
     ·intro w'
      go_simp
      with_reducible rfl
     rotate_left
     ·exact pt_
     refine pure_ (i := 5) (N := some 39) (v := undef) (a' := ?_) #[true, true, true, true, true, true, false, false, false, false, false, false, false, false, false] rfl rfl (any_of HT_.out (by kernel_rfl)) (fun _ _ _ h => h) (Or.inr ⟨by rfl, rfl⟩) ?_ ?_
     rotate_left
     ·exact pt_
     refine pure_ (i := 6) (N := some 40) (v := undef) (a' := ?_) #[true, true, true, true, true, true, true, false, false, false, false, false, false, false, false] rfl rfl (any_of HT_.out (by kernel_rfl)) (fun _ _ _ h => h) (Or.inr ⟨by rfl, rfl⟩) ?_ ?_
     rotate_left
     ·exact pt_
     refine pure_ (i := 7) (N := some 41) (v := undef) (a' := ?_) #[true, true, true, true, true, true, true, true, false, false, false, false, false, false, false] rfl rfl (any_of HT_.out (by kernel_rfl)) (fun _ _ _ h => h) (Or.inr ⟨by rfl, rfl⟩) ?_ ?_
     rotate_left
     ·exact pt_
     refine pure_ (i := 8) (N := some 42) (v := undef) (a' := ?_) #[true, true, true, true, true, true, true, true, true, false, false, false, false, false, false] rfl rfl (any_of HT_.out (by kernel_rfl)) (fun _ _ _ h => h) (Or.inr ⟨by rfl, rfl⟩) ?_ ?_
     rotate_left
     ·exact pt_
     refine pure_ (i := 9) (N := some 43) (v := undef) (a' := ?_) #[true, true, true, true, true, true, true, true, true, true, false, false, false, false, false] rfl rfl (any_of HT_.out (by kernel_rfl)) (fun _ _ _ h => h) (Or.inr ⟨by rfl, rfl⟩) ?_ ?_
     rotate_left
     ·exact pt_
     refine pure_ (i := 10) (N := some 44) (v := undef) (a' := ?_) #[true, true, true, true, true, true, true, true, true, true, true, false, false, false, false] rfl rfl (any_of HT_.out (by kernel_rfl)) (fun _ _ _ h => h) (Or.inr ⟨by rfl, rfl⟩) ?_ ?_
     rotate_left
     ·exact pt_
     refine pure_ (i := 11) (N := some 45) (v := undef) (a' := ?_) #[true, true, true, true, true, true, true, true, true, true, true, true, false, false, false] rfl rfl (any_of HT_.out (by kernel_rfl)) (fun _ _ _ h => h) (Or.inr ⟨by rfl, rfl⟩) ?_ ?_
     rotate_left
     ·exact pt_
     refine pure_ (i := 12) (N := some 46) (v := undef) (a' := ?_) #[true, true, true, true, true, true, true, true, true, true, true, true, true, false, false] rfl rfl (any_of HT_.out (by kernel_rfl)) (fun _ _ _ h => h) (Or.inr ⟨by rfl, rfl⟩) ?_ ?_
     rotate_left
     ·exact pt_
     refine pure_ (i := 13) (N := some 47) (v := ?_) (a' := ?_) #[true, true, true, true, true, true, true, true, true, true, true, true, true, true, false] rfl rfl (any_of HT_.out (by kernel_rfl)) (fun _ _ _ h => h) (Or.inl ⟨by rfl, ?_⟩) ?_ ?_
     rotate_left
     ·intro w'
      go_simp
      with_reducible rfl
     rotate_left
     ·exact pt_
     refine pure_ (i := 14) (N := some 2) (v := ?_) (a' := ?_) #[true, true, true, true, true, true, true, true, true, true, true, true, true, true, true] rfl rfl (any_of HT_.out (by kernel_rfl)) (fun _ _ _ h => h) (Or.inl ⟨by rfl, ?_⟩) ?_ ?_
     rotate_left
     ·intro w'
      go_simp
      with_reducible rfl
     rotate_left
     ·exact pt_
     refine done_ (done_of HT_.out (by kernel_rfl)) ?_
     try go_wp2
     go_ret
     exact ⟨by first | rfl | (simp [errW_none, errW_some] <;> rfl) | (simp [*, errW_none, errW_some] <;> rfl), by repeat (first | (with_reducible first | exact HB.out | apply below_alloc | apply pw_below_drewN | apply below_drew1 | refine below_set ?_ GE281.out | refine below_set ?_ GE290.out | refine below_set ?_ GE291.out) | exact HB.out)⟩

end Go.Proofs.Ytlfmafebmnggeaa.Print
