/- What the functions of the discs compute, printed by this repo's hand printer. -/
import Derived.Test.YtlfmafebmnggeaaShort
import Derived.Test.YtlfmafebmnggeaaPrintx0
import Derived.Test.YtlfmafebmnggeaaPrintx1
import Derived.Test.YtlfmafebmnggeaaPrintx4
import Derived.Test.YtlfmafebmnggeaaPrintx6
import Derived.Test.YtlfmafebmnggeaaPrintx16
import Derived.Test.YtlfmafebmnggeaaPrintx17
import Derived.Test.YtlfmafebmnggeaaPrintx18
namespace Go.Proofs.Ytlfmafebmnggeaa.Print
open Go.RowKit Go.Proofs.YtlfmafebmnggeaaW.PrintWords Go.Proofs.YtlfmafebmnggeaaW.PrintLast Go.Proofs.YtlfmafebmnggeaaW.PrintMore
attribute [local go_sem] max2_int min2_int max_two min_two max_three min_three max_four min_four
set_option maxHeartbeats 8000000 -- slim
set_option maxRecDepth 100000
set_option linter.unusedVariables false
set_option linter.unusedSimpArgs false

attribute [local go_sem high] eqA23
/-! ### clochelaw01_DiscsTurns: function 11 -/
def clochelaw01_DiscsTurns.j0 : Nat → List Int → List Int → Bool → Int → Int → Int → Int → Option (Bool)
 | 0, _, _, _, _, _, _, _ => none
 | k + 1, x2, x7, x38, x408000, x408001, x408002, x408003 => if x38 = true then (none) else ((discs_Turns.f k x408000 x408001 x408002 x408003 x7).bind fun bt427 => ((clocheref01_Turns.f k x408000 x408001 x408002 x408003 x2).bind fun bt432 => (if (bt427.1 == bt432.1 && (bt427.2.1 == bt432.2.1 && (bt427.2.2.1 == bt432.2.2.1 && (bt427.2.2.2.1 == bt432.2.2.2.1)))) = true then (if bt427.2.2.2.2 = bt432.2.2.2.2 then ((clochelaw01_same.f k x7 x2).bind fun t437 => (if t437 = true then ((clochelaw01_alive.f k).bind fun t438 => (some t438)) else (none))) else (none)) else (none))))
def clochelaw01_DiscsTurns.f (k : Nat) (a0_0 : Int) (a0_1 : Int) (a0_2 : Int) (a0_3 : Int) (a1 : Int) (l2 : List Int) : Option (Bool) := if (l2.length : Int) > 200 then ((clochelaw01_alive.f k).bind fun t408 => (some t408)) else ((some (([] : List Int) : List Int)).bind fun y409 => (if y409.length + l2.length < 17592186044416 then ((discs_Turn.f k a0_0 a0_1 a0_2 a0_3 a1).bind fun bt415 => ((clocheref01_Turn.f k a0_0 a0_1 a0_2 a0_3 a1).bind fun bt421 => (if (!(bt415.1 == bt421.1) || (!(bt415.2.1 == bt421.2.1) || (!(bt415.2.2.1 == bt421.2.2.1) || (!(bt415.2.2.2.1 == bt421.2.2.2.1))))) = true then (none) else (clochelaw01_DiscsTurns.j0 k l2 (y409 ++ l2) (bt415.2.2.2.2 != bt421.2.2.2.2) a0_0 a0_1 a0_2 a0_3)))) else (none)))
theorem clochelaw01_DiscsTurns.mono_l : ∀ k, (∀ y0 y1 y2 y3 y4 y5 y6, LeO (clochelaw01_DiscsTurns.j0 k y0 y1 y2 y3 y4 y5 y6) (clochelaw01_DiscsTurns.j0 (k + 1) y0 y1 y2 y3 y4 y5 y6))
 | 0 => fun _ _ _ _ _ _ _ r h => by simp [clochelaw01_DiscsTurns.j0] at h
 | k + 1 => by
  have ih0 := clochelaw01_DiscsTurns.mono_l k
  ·intro y0 y1 y2 y3 y4 y5 y6
   unfold clochelaw01_DiscsTurns.j0
   repeat' first
   | (with_reducible exact ih0 _ _ _ _ _ _ _)
   | (with_reducible exact clochelaw01_alive.mono _)
   | (with_reducible exact clochelaw01_same.mono _ _ _)
   | (with_reducible exact clocheref01_Turn.mono _ _ _ _ _ _)
   | (with_reducible exact clocheref01_Turns.mono _ _ _ _ _ _)
   | (with_reducible exact discs_Turn.mono _ _ _ _ _ _)
   | (with_reducible exact discs_Turns.mono _ _ _ _ _ _)
   | (with_reducible exact LeO.refl _)
   | (with_reducible exact LeO.none _)
   | (with_reducible refine LeO.ite ?_ ?_)
   | (with_reducible refine LeO.bind ?_ (fun _ => ?_))
   | exact ih0 _ _ _ _ _ _ _
   | exact clochelaw01_alive.mono _
   | exact clochelaw01_same.mono _ _ _
   | exact clocheref01_Turn.mono _ _ _ _ _ _
   | exact clocheref01_Turns.mono _ _ _ _ _ _
   | exact discs_Turn.mono _ _ _ _ _ _
   | exact discs_Turns.mono _ _ _ _ _ _
   | exact LeO.none _
   | refine LeO.ite ?_ ?_
   | refine LeO.bind ?_ (fun _ => ?_)
theorem clochelaw01_DiscsTurns.mono : ∀ a0 a1 a2 a3 a4 a5 k, LeO (clochelaw01_DiscsTurns.f k a0 a1 a2 a3 a4 a5) (clochelaw01_DiscsTurns.f (k + 1) a0 a1 a2 a3 a4 a5) := by
 intro a0 a1 a2 a3 a4 a5 k
 have ih0 := clochelaw01_DiscsTurns.mono_l k
 unfold clochelaw01_DiscsTurns.f
 repeat' first
   | (with_reducible exact ih0 _ _ _ _ _ _ _)
   | (with_reducible exact clochelaw01_alive.mono _)
   | (with_reducible exact clochelaw01_same.mono _ _ _)
   | (with_reducible exact clocheref01_Turn.mono _ _ _ _ _ _)
   | (with_reducible exact clocheref01_Turns.mono _ _ _ _ _ _)
   | (with_reducible exact discs_Turn.mono _ _ _ _ _ _)
   | (with_reducible exact discs_Turns.mono _ _ _ _ _ _)
   | (with_reducible exact LeO.refl _)
   | (with_reducible exact LeO.none _)
   | (with_reducible refine LeO.ite ?_ ?_)
   | (with_reducible refine LeO.bind ?_ (fun _ => ?_))
   | exact ih0 _ _ _ _ _ _ _
   | exact clochelaw01_alive.mono _
   | exact clochelaw01_same.mono _ _ _
   | exact clocheref01_Turn.mono _ _ _ _ _ _
   | exact clocheref01_Turns.mono _ _ _ _ _ _
   | exact discs_Turn.mono _ _ _ _ _ _
   | exact discs_Turns.mono _ _ _ _ _ _
   | exact LeO.none _
   | refine LeO.ite ?_ ?_
   | refine LeO.bind ?_ (fun _ => ?_)
theorem clochelaw01_DiscsTurns.calls (k : Nat) (a0_0 : Int) (a0_1 : Int) (a0_2 : Int) (a0_3 : Int) (a1 : Int) (A2 : Option Addr) (c2 : Nat) (l2 : List Int) (r : Bool) (w : World) (hr2 : Kd.C (Kd.int .i64) w A2 l2.length l2) (hc2 : l2.length ≤ c2) (h : clochelaw01_DiscsTurns.f k a0_0 a0_1 a0_2 a0_3 a1 l2 = some r) :
  Calls Try.prog 11 #[.agg #[.int .i64 a0_0, .int .i64 a0_1, .int .i64 a0_2, .int .i64 a0_3], .int .i64 a1, .slice A2 l2.length c2] w fun e w' => e = .returned (.bool r) ∧ Below w.heap.size w w' := by
 have hu23 := Try.underlying23
 have HR2 := Aside0.mk hr2
 have HC2 := Aside0.mk hc2
 clear hr2 hc2
 have HB := Aside0.mk (Below.refl w.heap.size w)
 have H : (if (l2.length : Int) > 200 then ((clochelaw01_alive.f k).bind fun t408 => (some t408)) else ((some (([] : List Int) : List Int)).bind fun y409 => (if y409.length + l2.length < 17592186044416 then ((discs_Turn.f k a0_0 a0_1 a0_2 a0_3 a1).bind fun bt415 => ((clocheref01_Turn.f k a0_0 a0_1 a0_2 a0_3 a1).bind fun bt421 => (if (!(bt415.1 == bt421.1) || (!(bt415.2.1 == bt421.2.1) || (!(bt415.2.2.1 == bt421.2.2.1) || (!(bt415.2.2.2.1 == bt421.2.2.2.1))))) = true then (none) else (clochelaw01_DiscsTurns.j0 k l2 (y409 ++ l2) (bt415.2.2.2.2 != bt421.2.2.2.2) a0_0 a0_1 a0_2 a0_3)))) else (none)))) = some r := h
 clear h
 by_cases c4 : (l2.length : Int) > 200
 ·rw [if_pos c4] at H
  have c4b0 : decide (200 < (l2.length : Int)) = true := decide_eq_true c4
  have c4b1 : decide (200 < l2.length) = true := decide_eq_true (by omega)
  clear c4
  replace H := Option.bind_eq_some_iff.mp H
  obtain ⟨t408, A50, H⟩ := H
  replace H : (some t408) = some r := H
  have A5 := Aside0.mk A50
  clear A50
  obtain rfl := Option.some.inj H
  go_enter Try.func11, Try.ntmps11
  go_wp2_with (first | ((with_reducible refine gate_dst (N := 3) rfl ?_); refine box_event ?hg (N := 3) ?hd (cs := #[.int .i64 a0_0, .int .i64 a0_1, .int .i64 a0_2, .int .i64 a0_3]) (t := 23) ?hr ?_; (case hd => rfl); (case hg => rfl); (case hr => exact gs_); intro gb407 hg w6 hbox hb; have n0_ := Aside0.mk (below_step (lw_ HB.out) hb); have n1_ := Aside0.mk (hbox); have n2_ := Aside0.mk ((by rw [hg]; exact (below_size (lw_ HB.out)) : w.heap.size ≤ gb407)); have n3_ := Aside0.mk ((by rw [hg]; exact (below_size (lw_ HB.out)) : w.heap.size ≤ gb407)); clear HB; have HB := n0_; have BK407 := n1_; have GW407 := n2_; have GE407 := n3_; clear n0_ n1_ n2_ n3_; clear hb hbox hg) | ((with_reducible refine gate_callee (f := 19) rfl ?_); refine goesL_ (some 15) rfl rfl Try.func19 (by kernel_rfl) rfl #[] rfl mp_ ?_; (with_reducible refine (clochelaw01_alive.calls k  t408 _ A5.out).mono ?_); rintro e w7 ⟨rfl, hb⟩; refine ⟨_, rfl, ?_⟩; have n0_ := Aside0.mk (blk_below (g := gb407) (o := .cells #[.int .i64 a0_0, .int .i64 a0_1, .int .i64 a0_2, .int .i64 a0_3] 23 (0, 0)) (by refine bs_ ?_; exact BK407.out) hb); have n1_ := Aside0.mk (below_step (by repeat (first | (with_reducible first | exact HB.out | apply below_alloc | apply pw_below_drewN | apply below_drew1 | refine below_set ?_ GE407.out) | exact HB.out)) hb); clear BK407; clear HB; have BK407 := n0_; have HB := n1_; clear n0_ n1_; (try clear hb); (try clear hb2); (try clear hk); (try clear hi)))
  go_ret
  exact ⟨by first | rfl | (simp [errW_none, errW_some] <;> rfl) | (simp [*, errW_none, errW_some] <;> rfl), by repeat (first | (with_reducible first | exact HB.out | apply below_alloc | apply pw_below_drewN | apply below_drew1 | refine below_set ?_ GE407.out) | exact HB.out)⟩
 ·rw [if_neg c4] at H
  have c4b0 : decide (200 < (l2.length : Int)) = false := decide_eq_false c4
  have c4b1 : decide (200 < l2.length) = false := decide_eq_false (by omega)
  clear c4
  obtain ⟨y409, hy409⟩ : ∃ y_ : List Int, y_ = (([] : List Int)) := ⟨_, rfl⟩
  replace H : (if y409.length + l2.length < 17592186044416 then ((discs_Turn.f k a0_0 a0_1 a0_2 a0_3 a1).bind fun bt415 => ((clocheref01_Turn.f k a0_0 a0_1 a0_2 a0_3 a1).bind fun bt421 => (if (!(bt415.1 == bt421.1) || (!(bt415.2.1 == bt421.2.1) || (!(bt415.2.2.1 == bt421.2.2.1) || (!(bt415.2.2.2.1 == bt421.2.2.2.1))))) = true then (none) else (clochelaw01_DiscsTurns.j0 k l2 (y409 ++ l2) (bt415.2.2.2.2 != bt421.2.2.2.2) a0_0 a0_1 a0_2 a0_3)))) else (none)) = some r := by first | (rw [hy409]; with_reducible exact H) | (have H2_ := (Option.bind_some _ _).symm.trans H; rw [hy409]; with_reducible exact H2_) | (have H2_ := (Option.bind_some _ _).symm.trans H; with_reducible exact H2_) | with_reducible exact H | (rw [hy409]; exact H) | exact H
  have Ny409 := Aside0.mk hy409
  clear hy409
  by_cases c8 : y409.length + l2.length < 17592186044416
  ·rw [if_pos c8] at H
   have LMc8 := Aside0.mk c8
   clear c8
   obtain ⟨y412, hy412⟩ : ∃ y_ : List Int, y_ = (y409 ++ l2) := ⟨_, rfl⟩
   replace H : ((discs_Turn.f k a0_0 a0_1 a0_2 a0_3 a1).bind fun bt415 => ((clocheref01_Turn.f k a0_0 a0_1 a0_2 a0_3 a1).bind fun bt421 => (if (!(bt415.1 == bt421.1) || (!(bt415.2.1 == bt421.2.1) || (!(bt415.2.2.1 == bt421.2.2.1) || (!(bt415.2.2.2.1 == bt421.2.2.2.1))))) = true then (none) else (clochelaw01_DiscsTurns.j0 k l2 y412 (bt415.2.2.2.2 != bt421.2.2.2.2) a0_0 a0_1 a0_2 a0_3)))) = some r := by first | (rw [hy412]; with_reducible exact H) | (have H2_ := (Option.bind_some _ _).symm.trans H; rw [hy412]; with_reducible exact H2_) | (have H2_ := (Option.bind_some _ _).symm.trans H; with_reducible exact H2_) | with_reducible exact H | (rw [hy412]; exact H) | exact H
   have Ny412 := Aside0.mk hy412
   clear hy412
   replace H := Option.bind_eq_some_iff.mp H
   obtain ⟨⟨t415, t416, t417, t418, t419⟩, A90, H⟩ := H
   replace H : ((clocheref01_Turn.f k a0_0 a0_1 a0_2 a0_3 a1).bind fun bt421 => (if (!(t415 == bt421.1) || (!(t416 == bt421.2.1) || (!(t417 == bt421.2.2.1) || (!(t418 == bt421.2.2.2.1))))) = true then (none) else (clochelaw01_DiscsTurns.j0 k l2 y412 (t419 != bt421.2.2.2.2) a0_0 a0_1 a0_2 a0_3))) = some r := H
   have A9 := Aside0.mk A90
   clear A90
   replace H := Option.bind_eq_some_iff.mp H
   obtain ⟨⟨t421, t422, t423, t424, t425⟩, A100, H⟩ := H
   replace H : (if (!(t415 == t421) || (!(t416 == t422) || (!(t417 == t423) || (!(t418 == t424))))) = true then (none) else (clochelaw01_DiscsTurns.j0 k l2 y412 (t419 != t425) a0_0 a0_1 a0_2 a0_3)) = some r := H
   have A10 := Aside0.mk A100
   clear A100
   have HC11 := Aside0.mk H
   clear H
   go_enter Try.func11, Try.ntmps11
   go_upto_region 6 with (first | ((with_reducible refine gate_dst (N := 3) rfl ?_); refine box_event ?hg (N := 3) ?hd (cs := #[.int .i64 a0_0, .int .i64 a0_1, .int .i64 a0_2, .int .i64 a0_3]) (t := 23) ?hr ?_; (case hd => rfl); (case hg => rfl); (case hr => exact gs_); intro gb407 hg w12 hbox hb; have n0_ := Aside0.mk (below_step (lw_ HB.out) hb); have n1_ := Aside0.mk (hbox); have n2_ := Aside0.mk ((by rw [hg]; exact (below_size (lw_ HB.out)) : w.heap.size ≤ gb407)); have n3_ := Aside0.mk ((by rw [hg]; exact (below_size (lw_ HB.out)) : w.heap.size ≤ gb407)); clear HB; have HB := n0_; have BK407 := n1_; have GW407 := n2_; have GE407 := n3_; clear n0_ n1_ n2_ n3_; clear hb hbox hg) | ((with_reducible refine gate_dst (N := 16) rfl ?_); refine Kd.R_lit (Kd.int .i64) _ 3 ?hg (N := 16) ?hd (xs := ([] : List Int)) (inner := []) (ok := fun _ => True) (okp := fun _ => True) ?hr ?hp (fun _ hk => hk) trivial (Below.refl _ _) (Nat.le_refl _) (by simp) ?_; (case hd => rfl); (case hg => rfl); (case hr => exact gs_); (case hp => exact (Reps.none _ _)); intro v410 w13 ho14 hb hg_ hnew_; clear hg_ hnew_; (first | rw [← Ny409.out] at ho14 | (simp only [Int.reduceToNat] at ho14; rw [← Ny409.out] at ho14)); have n0_ := Aside0.mk (Kd.R_lower ho14 (below_size (by repeat (first | (with_reducible first | exact HB.out | apply below_alloc | apply pw_below_drewN | apply below_drew1 | refine below_set ?_ GE407.out) | exact HB.out)))); have n1_ := Aside0.mk (blk_below (g := gb407) (o := .cells #[.int .i64 a0_0, .int .i64 a0_1, .int .i64 a0_2, .int .i64 a0_3] 23 (0, 0)) (by refine bs_ ?_; exact BK407.out) hb); have n2_ := Aside0.mk (below_step (by repeat (first | (with_reducible first | exact HB.out | apply below_alloc | apply pw_below_drewN | apply below_drew1 | refine below_set ?_ GE407.out) | exact HB.out)) hb); clear BK407; clear HB; have HO411 := n0_; have BK407 := n1_; have HB := n2_; clear n0_ n1_ n2_; clear hb ho14) | ((with_reducible refine gate_builtin (b := .append) (xs := #[.tmp 16, .tmp 17]) rfl ?_); at_builtin; refine Kd.R_append_rows (Kd.int .i64) (w0 := w) w.heap.size rfl (.tmp 16) (.tmp 17) 35 3 (.int .i64 0) 8 rfl Try.underlying35 info3 rfl (by decide) (by omega) v410 y409 l2 _ _ _ (fun _ => True) (fun _ => False) rfl rfl ?aO ?aR (fun _ _ h => h) (fun _ h => h.elim) ?aF ?aB ?aS ?aL ?_; (case aR => repeat (first | exact (Kd.C_below HR2.out HB.out) | (with_reducible refine Kd.C_alloc ?_ _) | (with_reducible refine Kd.C_drewN ?_ _) | (with_reducible refine Kd.C_drew ?_))); (case aB => exact (by repeat (first | (with_reducible first | exact HB.out | apply below_alloc | apply pw_below_drewN | apply below_drew1 | refine below_set ?_ GE407.out) | exact HB.out))); (case aF => exact (fun _ _ => trivial)); (case aO => exact (by refine kr_ ?_; exact HO411.out)); (case aS => exact (below_size (by repeat (first | (with_reducible first | exact HB.out | apply below_alloc | apply pw_below_drewN | apply below_drew1 | refine below_set ?_ GE407.out) | exact HB.out)))); (case aL => have := LMc8.out; omega); intro v413 w15 ho hb hg hat; rw [← Ny412.out] at ho; have n0_ := Aside0.mk (blk_grown (g := gb407) (o := .cells #[.int .i64 a0_0, .int .i64 a0_1, .int .i64 a0_2, .int .i64 a0_3] 23 (0, 0)) (by refine bs_ ?_; exact BK407.out) hg (Kd.R_ne HO411.out BK407.out (by decide))); have n1_ := Aside0.mk (hb); have n2_ := Aside0.mk (ho); clear BK407; clear HB; clear HO411; have BK407 := n0_; have HB := n1_; have HO414 := n2_; clear n0_ n1_ n2_; clear ho hb hg hat; have hcz16_0 : w15.cell? ⟨gb407, 0, none⟩ = some (.int .i64 a0_0) := (blk_cell BK407.out 0).trans rfl; have hcz16_1 : w15.cell? ⟨gb407, 1, none⟩ = some (.int .i64 a0_1) := (blk_cell BK407.out 1).trans rfl; have hcz16_2 : w15.cell? ⟨gb407, 2, none⟩ = some (.int .i64 a0_2) := (blk_cell BK407.out 2).trans rfl; have hcz16_3 : w15.cell? ⟨gb407, 3, none⟩ = some (.int .i64 a0_3) := (blk_cell BK407.out 3).trans rfl; have hfz16_0 := blk_frozen BK407.out 0; have hfz16_1 := blk_frozen BK407.out 1; have hfz16_2 := blk_frozen BK407.out 2; have hfz16_3 := blk_frozen BK407.out 3) | ((with_reducible refine gate_callee (f := 28) rfl ?_); refine goesL_ (some 22) rfl rfl Try.func28 (by kernel_rfl) rfl #[.agg #[.int .i64 a0_0, .int .i64 a0_1, .int .i64 a0_2, .int .i64 a0_3], .int .i64 a1] rfl mp_ ?_; (with_reducible refine (discs_Turn.calls k a0_0 a0_1 a0_2 a0_3 a1 t415 t416 t417 t418 t419 _ A9.out).mono ?_); rintro e w17 ⟨rfl, hb⟩; refine ⟨_, rfl, ?_⟩; have n0_ := Aside0.mk (Kd.R_below (by refine kr_ ?_; exact HO414.out) hb); have n1_ := Aside0.mk (blk_below (g := gb407) (o := .cells #[.int .i64 a0_0, .int .i64 a0_1, .int .i64 a0_2, .int .i64 a0_3] 23 (0, 0)) (by refine bs_ ?_; exact BK407.out) hb); have n2_ := Aside0.mk (below_step (by repeat (first | (with_reducible first | exact HB.out | apply below_alloc | apply pw_below_drewN | apply below_drew1 | refine below_set ?_ GE407.out) | exact HB.out)) hb); clear HO414; clear BK407; clear HB; have HO414 := n0_; have BK407 := n1_; have HB := n2_; clear n0_ n1_ n2_; (try clear hb); (try clear hb2); (try clear hk); (try clear hi)) | ((with_reducible refine gate_dst (N := 8) rfl ?_); refine box_event ?hg (N := 8) ?hd (cs := #[.int .i64 0, .int .i64 0, .int .i64 0, .int .i64 0]) (t := 23) ?hr ?_; (case hd => rfl); (case hg => rfl); (case hr => exact gs_); intro gb420 hg w18 hbox hb; have n0_ := Aside0.mk (Kd.R_below (by refine kr_ ?_; exact HO414.out) hb); have n1_ := Aside0.mk (blk_below (g := gb407) (o := .cells #[.int .i64 a0_0, .int .i64 a0_1, .int .i64 a0_2, .int .i64 a0_3] 23 (0, 0)) (by refine bs_ ?_; exact BK407.out) hb); have n2_ := Aside0.mk (below_step (by repeat (first | (with_reducible first | exact HB.out | apply below_alloc | apply pw_below_drewN | apply below_drew1 | refine below_set ?_ GE407.out) | exact HB.out)) hb); have n3_ := Aside0.mk (hbox); have n4_ := Aside0.mk ((by rw [hg]; exact (below_size (by repeat (first | (with_reducible first | exact HB.out | apply below_alloc | apply pw_below_drewN | apply below_drew1 | refine below_set ?_ GE407.out) | exact HB.out))) : w.heap.size ≤ gb420)); have n5_ := Aside0.mk ((by rw [hg]; exact (below_size (by repeat (first | (with_reducible first | exact HB.out | apply below_alloc | apply pw_below_drewN | apply below_drew1 | refine below_set ?_ GE407.out) | exact HB.out))) : w.heap.size ≤ gb420)); have n6_ := Aside0.mk ((by rw [hg]; exact Nat.ne_of_lt (blk_lt (g := gb407) (o := .cells #[.int .i64 a0_0, .int .i64 a0_1, .int .i64 a0_2, .int .i64 a0_3] 23 (0, 0)) (by refine bs_ ?_; exact BK407.out)) : gb407 ≠ gb420)); have n7_ := Aside0.mk ((by rw [hg]; exact Nat.ne_of_gt (blk_lt (g := gb407) (o := .cells #[.int .i64 a0_0, .int .i64 a0_1, .int .i64 a0_2, .int .i64 a0_3] 23 (0, 0)) (by refine bs_ ?_; exact BK407.out)) : gb420 ≠ gb407)); clear HO414; clear BK407; clear HB; have HO414 := n0_; have BK407 := n1_; have HB := n2_; have BK420 := n3_; have GW420 := n4_; have GE420 := n5_; have NB407_420 := n6_; have NB420_407 := n7_; clear n0_ n1_ n2_ n3_ n4_ n5_ n6_ n7_; clear hb hbox hg; have hnb19 := NB420_407.out; have hnc19 := NB407_420.out; have hcz20_0 : w18.cell? ⟨gb420, 0, none⟩ = some (.int .i64 0) := (blk_cell BK420.out 0).trans rfl; have hcz20_1 : w18.cell? ⟨gb420, 1, none⟩ = some (.int .i64 0) := (blk_cell BK420.out 1).trans rfl; have hcz20_2 : w18.cell? ⟨gb420, 2, none⟩ = some (.int .i64 0) := (blk_cell BK420.out 2).trans rfl; have hcz20_3 : w18.cell? ⟨gb420, 3, none⟩ = some (.int .i64 0) := (blk_cell BK420.out 3).trans rfl; have hfz20_0 := blk_frozen BK420.out 0; have hfz20_1 := blk_frozen BK420.out 1; have hfz20_2 := blk_frozen BK420.out 2; have hfz20_3 := blk_frozen BK420.out 3; have hcz21_0 : w18.cell? ⟨gb407, 0, none⟩ = some (.int .i64 a0_0) := (blk_cell BK407.out 0).trans rfl; have hcz21_1 : w18.cell? ⟨gb407, 1, none⟩ = some (.int .i64 a0_1) := (blk_cell BK407.out 1).trans rfl; have hcz21_2 : w18.cell? ⟨gb407, 2, none⟩ = some (.int .i64 a0_2) := (blk_cell BK407.out 2).trans rfl; have hcz21_3 : w18.cell? ⟨gb407, 3, none⟩ = some (.int .i64 a0_3) := (blk_cell BK407.out 3).trans rfl; have hfz21_0 := blk_frozen BK407.out 0; have hfz21_1 := blk_frozen BK407.out 1; have hfz21_2 := blk_frozen BK407.out 2; have hfz21_3 := blk_frozen BK407.out 3) | ((with_reducible refine gate_callee (f := 35) rfl ?_); refine goesL_ (some 28) rfl rfl Try.func35 (by kernel_rfl) rfl #[.agg #[.int .i64 a0_0, .int .i64 a0_1, .int .i64 a0_2, .int .i64 a0_3], .int .i64 a1] rfl mp_ ?_; (with_reducible refine (clocheref01_Turn.calls k a0_0 a0_1 a0_2 a0_3 a1 t421 t422 t423 t424 t425 _ A10.out).mono ?_); rintro e w22 ⟨rfl, hb⟩; refine ⟨_, rfl, ?_⟩; have n0_ := Aside0.mk (Kd.R_below (by refine kr_ ?_; exact (Kd.R_mono (Kd.R_far (p := ⟨gb420, 3, none⟩) (Kd.R_far (p := ⟨gb420, 2, none⟩) (Kd.R_far (p := ⟨gb420, 1, none⟩) (Kd.R_far (p := ⟨gb420, 0, none⟩) (Kd.R_types HO414.out BK420.out (by decide)) (fun _ hk => hk.2) (.int .i64 t415)) (fun _ hk => hk.2) (.int .i64 t416)) (fun _ hk => hk.2) (.int .i64 t417)) (fun _ hk => hk.2) (.int .i64 t418)) (fun _ h_ => h_.1))) hb); have n1_ := Aside0.mk (blk_below (g := gb407) (o := .cells #[.int .i64 a0_0, .int .i64 a0_1, .int .i64 a0_2, .int .i64 a0_3] 23 (0, 0)) (by refine bs_ ?_; refine blk_far ?_ NB407_420.out _; refine bs_ ?_; refine blk_far ?_ NB407_420.out _; refine bs_ ?_; refine blk_far ?_ NB407_420.out _; refine bs_ ?_; refine blk_far ?_ NB407_420.out _; refine bs_ ?_; exact BK407.out) hb); have n2_ := Aside0.mk (blk_below (g := gb420) (o := .cells #[.int .i64 t415, .int .i64 t416, .int .i64 t417, .int .i64 t418] 23 (0, 0)) (by refine bs_ ?_; refine blk_put (cs := #[.int .i64 t415, .int .i64 t416, .int .i64 t417, .int .i64 0]) ?_ 3 _ rfl; refine bs_ ?_; refine blk_put (cs := #[.int .i64 t415, .int .i64 t416, .int .i64 0, .int .i64 0]) ?_ 2 _ rfl; refine bs_ ?_; refine blk_put (cs := #[.int .i64 t415, .int .i64 0, .int .i64 0, .int .i64 0]) ?_ 1 _ rfl; refine bs_ ?_; refine blk_put (cs := #[.int .i64 0, .int .i64 0, .int .i64 0, .int .i64 0]) ?_ 0 _ rfl; refine bs_ ?_; exact BK420.out) hb); have n3_ := Aside0.mk (below_step (by repeat (first | (with_reducible first | exact HB.out | apply below_alloc | apply pw_below_drewN | apply below_drew1 | refine below_set ?_ GE407.out | refine below_set ?_ GE420.out) | exact HB.out)) hb); clear HO414; clear BK407; clear BK420; clear HB; have HO414 := n0_; have BK407 := n1_; have BK420 := n2_; have HB := n3_; clear n0_ n1_ n2_ n3_; (try clear hb); (try clear hb2); (try clear hk); (try clear hi)) | ((with_reducible refine gate_dst (N := 10) rfl ?_); refine box_event ?hg (N := 10) ?hd (cs := #[.int .i64 0, .int .i64 0, .int .i64 0, .int .i64 0]) (t := 23) ?hr ?_; (case hd => rfl); (case hg => rfl); (case hr => exact gs_); intro gb426 hg w23 hbox hb; have n0_ := Aside0.mk (Kd.R_below (by refine kr_ ?_; exact HO414.out) hb); have n1_ := Aside0.mk (blk_below (g := gb407) (o := .cells #[.int .i64 a0_0, .int .i64 a0_1, .int .i64 a0_2, .int .i64 a0_3] 23 (0, 0)) (by refine bs_ ?_; exact BK407.out) hb); have n2_ := Aside0.mk (blk_below (g := gb420) (o := .cells #[.int .i64 t415, .int .i64 t416, .int .i64 t417, .int .i64 t418] 23 (0, 0)) (by refine bs_ ?_; exact BK420.out) hb); have n3_ := Aside0.mk (below_step (by repeat (first | (with_reducible first | exact HB.out | apply below_alloc | apply pw_below_drewN | apply below_drew1 | refine below_set ?_ GE407.out | refine below_set ?_ GE420.out) | exact HB.out)) hb); have n4_ := Aside0.mk (hbox); have n5_ := Aside0.mk ((by rw [hg]; exact (below_size (by repeat (first | (with_reducible first | exact HB.out | apply below_alloc | apply pw_below_drewN | apply below_drew1 | refine below_set ?_ GE407.out | refine below_set ?_ GE420.out) | exact HB.out))) : w.heap.size ≤ gb426)); have n6_ := Aside0.mk ((by rw [hg]; exact (below_size (by repeat (first | (with_reducible first | exact HB.out | apply below_alloc | apply pw_below_drewN | apply below_drew1 | refine below_set ?_ GE407.out | refine below_set ?_ GE420.out) | exact HB.out))) : w.heap.size ≤ gb426)); have n7_ := Aside0.mk ((by rw [hg]; exact Nat.ne_of_lt (blk_lt (g := gb407) (o := .cells #[.int .i64 a0_0, .int .i64 a0_1, .int .i64 a0_2, .int .i64 a0_3] 23 (0, 0)) (by refine bs_ ?_; exact BK407.out)) : gb407 ≠ gb426)); have n8_ := Aside0.mk ((by rw [hg]; exact Nat.ne_of_gt (blk_lt (g := gb407) (o := .cells #[.int .i64 a0_0, .int .i64 a0_1, .int .i64 a0_2, .int .i64 a0_3] 23 (0, 0)) (by refine bs_ ?_; exact BK407.out)) : gb426 ≠ gb407)); have n9_ := Aside0.mk ((by rw [hg]; exact Nat.ne_of_lt (blk_lt (g := gb420) (o := .cells #[.int .i64 t415, .int .i64 t416, .int .i64 t417, .int .i64 t418] 23 (0, 0)) (by refine bs_ ?_; exact BK420.out)) : gb420 ≠ gb426)); have n10_ := Aside0.mk ((by rw [hg]; exact Nat.ne_of_gt (blk_lt (g := gb420) (o := .cells #[.int .i64 t415, .int .i64 t416, .int .i64 t417, .int .i64 t418] 23 (0, 0)) (by refine bs_ ?_; exact BK420.out)) : gb426 ≠ gb420)); clear HO414; clear BK407; clear BK420; clear HB; have HO414 := n0_; have BK407 := n1_; have BK420 := n2_; have HB := n3_; have BK426 := n4_; have GW426 := n5_; have GE426 := n6_; have NB407_426 := n7_; have NB426_407 := n8_; have NB420_426 := n9_; have NB426_420 := n10_; clear n0_ n1_ n2_ n3_ n4_ n5_ n6_ n7_ n8_ n9_ n10_; clear hb hbox hg; have hnb24 := NB426_407.out; have hnc24 := NB407_426.out; have hnb25 := NB426_420.out; have hnc25 := NB420_426.out; have hcz26_0 : w23.cell? ⟨gb426, 0, none⟩ = some (.int .i64 0) := (blk_cell BK426.out 0).trans rfl; have hcz26_1 : w23.cell? ⟨gb426, 1, none⟩ = some (.int .i64 0) := (blk_cell BK426.out 1).trans rfl; have hcz26_2 : w23.cell? ⟨gb426, 2, none⟩ = some (.int .i64 0) := (blk_cell BK426.out 2).trans rfl; have hcz26_3 : w23.cell? ⟨gb426, 3, none⟩ = some (.int .i64 0) := (blk_cell BK426.out 3).trans rfl; have hfz26_0 := blk_frozen BK426.out 0; have hfz26_1 := blk_frozen BK426.out 1; have hfz26_2 := blk_frozen BK426.out 2; have hfz26_3 := blk_frozen BK426.out 3))
   (try simp only [Act.put, List.setIfInBounds_toArray, List.set_cons_zero, List.set_cons_succ])
   go_cut [38] (fun v38 wc => ∃ (kq : Nat) (x38_10 : Bool), v38 = .bool x38_10 ∧ Aside0 (clochelaw01_DiscsTurns.j0 kq l2 y412 x38_10 a0_0 a0_1 a0_2 a0_3 = some r) ∧ Aside0 (kq ≤ k) ∧ Aside0 (Kd.R (Kd.int .i64) 3 wc w.heap.size (fun _ => True) v413 y412) ∧ Aside0 (wc.heap[gb407]? = some (.cells #[.int .i64 a0_0, .int .i64 a0_1, .int .i64 a0_2, .int .i64 a0_3] 23 (0, 0))) ∧ Aside0 (wc.heap[gb420]? = some (.cells #[.int .i64 t415, .int .i64 t416, .int .i64 t417, .int .i64 t418] 23 (0, 0))) ∧ Aside0 (wc.heap[gb426]? = some (.cells #[.int .i64 t421, .int .i64 t422, .int .i64 t423, .int .i64 t424] 23 (0, 0))) ∧ Aside0 (Below w.heap.size w wc))
   case first =>
    have H := HC11.out
    clear HC11
    by_cases c27 : (!(t415 == t421) || (!(t416 == t422) || (!(t417 == t423) || (!(t418 == t424))))) = true
    ·rw [if_pos c27] at H
     exact absurd H (by simp)
    ·rw [if_neg c27] at H
     have c27b0 : (!(t415 == t421) || (!(t416 == t422) || (!(t417 == t423) || (!(t418 == t424))))) = false := by simpa using c27
     clear c27
     (first | rw [c27b0] | (simp only [i64_w, i32_w]; rw [c27b0]) | skip)
     have H' := Aside0.mk H
     clear H
     have hnb28 := NB420_407.out
     have hnc28 := NB407_420.out
     have hnb29 := NB420_426.out
     have hnc29 := NB426_420.out
     have hcz30_0 : w23.cell? ⟨gb420, 0, none⟩ = some (.int .i64 t415) := (blk_cell BK420.out 0).trans rfl
     have hcz30_1 : w23.cell? ⟨gb420, 1, none⟩ = some (.int .i64 t416) := (blk_cell BK420.out 1).trans rfl
     have hcz30_2 : w23.cell? ⟨gb420, 2, none⟩ = some (.int .i64 t417) := (blk_cell BK420.out 2).trans rfl
     have hcz30_3 : w23.cell? ⟨gb420, 3, none⟩ = some (.int .i64 t418) := (blk_cell BK420.out 3).trans rfl
     have hfz30_0 := blk_frozen BK420.out 0
     have hfz30_1 := blk_frozen BK420.out 1
     have hfz30_2 := blk_frozen BK420.out 2
     have hfz30_3 := blk_frozen BK420.out 3
     have hnb31 := NB426_407.out
     have hnc31 := NB407_426.out
     have hcz32_0 : w23.cell? ⟨gb426, 0, none⟩ = some (.int .i64 0) := (blk_cell BK426.out 0).trans rfl
     have hcz32_1 : w23.cell? ⟨gb426, 1, none⟩ = some (.int .i64 0) := (blk_cell BK426.out 1).trans rfl
     have hcz32_2 : w23.cell? ⟨gb426, 2, none⟩ = some (.int .i64 0) := (blk_cell BK426.out 2).trans rfl
     have hcz32_3 : w23.cell? ⟨gb426, 3, none⟩ = some (.int .i64 0) := (blk_cell BK426.out 3).trans rfl
     have hfz32_0 := blk_frozen BK426.out 0
     have hfz32_1 := blk_frozen BK426.out 1
     have hfz32_2 := blk_frozen BK426.out 2
     have hfz32_3 := blk_frozen BK426.out 3
     go_wp2
     go_meet
     case rel => exact ⟨_, ((t419 != t425)), eq_, H', ⟨by first | omega | exact Nat.le_refl _⟩, ⟨by refine kr_ ?_; exact Kd.R_mono (Kd.R_far (p := ⟨gb426, 3, none⟩) (Kd.R_far (p := ⟨gb426, 2, none⟩) (Kd.R_far (p := ⟨gb426, 1, none⟩) (Kd.R_far (p := ⟨gb426, 0, none⟩) (Kd.R_types HO414.out BK426.out (by decide)) (fun _ hk => hk.2) (.int .i64 t421)) (fun _ hk => hk.2) (.int .i64 t422)) (fun _ hk => hk.2) (.int .i64 t423)) (fun _ hk => hk.2) (.int .i64 t424)) (fun _ hk => trivial)⟩, ⟨by refine bs_ ?_; refine blk_far ?_ NB407_426.out _; refine bs_ ?_; refine blk_far ?_ NB407_426.out _; refine bs_ ?_; refine blk_far ?_ NB407_426.out _; refine bs_ ?_; refine blk_far ?_ NB407_426.out _; refine bs_ ?_; exact BK407.out⟩, ⟨by refine bs_ ?_; refine blk_far ?_ NB420_426.out _; refine bs_ ?_; refine blk_far ?_ NB420_426.out _; refine bs_ ?_; refine blk_far ?_ NB420_426.out _; refine bs_ ?_; refine blk_far ?_ NB420_426.out _; refine bs_ ?_; exact BK420.out⟩, ⟨by refine bs_ ?_; refine blk_put (cs := #[.int .i64 t421, .int .i64 t422, .int .i64 t423, .int .i64 0]) ?_ 3 _ rfl; refine bs_ ?_; refine blk_put (cs := #[.int .i64 t421, .int .i64 t422, .int .i64 0, .int .i64 0]) ?_ 2 _ rfl; refine bs_ ?_; refine blk_put (cs := #[.int .i64 t421, .int .i64 0, .int .i64 0, .int .i64 0]) ?_ 1 _ rfl; refine bs_ ?_; refine blk_put (cs := #[.int .i64 0, .int .i64 0, .int .i64 0, .int .i64 0]) ?_ 0 _ rfl; refine bs_ ?_; exact BK426.out⟩, ⟨by repeat (first | (with_reducible first | exact HB.out | apply below_alloc | apply pw_below_drewN | apply below_drew1 | refine below_set ?_ GE407.out | refine below_set ?_ GE420.out | refine below_set ?_ GE426.out) | exact HB.out)⟩⟩
   case rest =>
    clear HC11
    try clear c1
    try clear c2
    try clear p2
    try clear c3
    try clear c4
    try clear c4b0
    try clear c4b1
    try clear c8
    try clear c11
    try clear c19
    try clear c24
    try clear c25
    try clear c27
    try clear c27b0
    try clear c28
    try clear c29
    try clear c31
    try clear hcz16_0
    try clear hcz16_1
    try clear hcz16_2
    try clear hcz16_3
    try clear hcz20_0
    try clear hcz20_1
    try clear hcz20_2
    try clear hcz20_3
    try clear hcz21_0
    try clear hcz21_1
    try clear hcz21_2
    try clear hcz21_3
    try clear hcz26_0
    try clear hcz26_1
    try clear hcz26_2
    try clear hcz26_3
    try clear hcz30_0
    try clear hcz30_1
    try clear hcz30_2
    try clear hcz30_3
    try clear hcz32_0
    try clear hcz32_1
    try clear hcz32_2
    try clear hcz32_3
    try clear hfz16_0
    try clear hfz16_1
    try clear hfz16_2
    try clear hfz16_3
    try clear hfz20_0
    try clear hfz20_1
    try clear hfz20_2
    try clear hfz20_3
    try clear hfz21_0
    try clear hfz21_1
    try clear hfz21_2
    try clear hfz21_3
    try clear hfz26_0
    try clear hfz26_1
    try clear hfz26_2
    try clear hfz26_3
    try clear hfz30_0
    try clear hfz30_1
    try clear hfz30_2
    try clear hfz30_3
    try clear hfz32_0
    try clear hfz32_1
    try clear hfz32_2
    try clear hfz32_3
    obtain ⟨kq, x38_10, rfl, HA, HJ10, HO_7, BK407, BK420, BK426, HB⟩ := hcut
    cases kq with
    | zero => exact absurd HA.out (by simp [clochelaw01_DiscsTurns.j0])
    | succ kj10 =>
     have H := HA.out
     clear HA
     simp only [clochelaw01_DiscsTurns.j0] at H
     by_cases c33 : x38_10 = true
     ·subst c33
      have H1 : (none) = some r := by rw [if_pos rfl] at H; exact H
      clear H
      have H := H1
      clear H1
      exact absurd H (by simp)
     ·replace c33 := Bool.eq_false_iff.mpr c33
      subst c33
      have H1 : ((discs_Turns.f kj10 a0_0 a0_1 a0_2 a0_3 y412).bind fun bt427 => ((clocheref01_Turns.f kj10 a0_0 a0_1 a0_2 a0_3 l2).bind fun bt432 => (if (bt427.1 == bt432.1 && (bt427.2.1 == bt432.2.1 && (bt427.2.2.1 == bt432.2.2.1 && (bt427.2.2.2.1 == bt432.2.2.2.1)))) = true then (if bt427.2.2.2.2 = bt432.2.2.2.2 then ((clochelaw01_same.f kj10 y412 l2).bind fun t437 => (if t437 = true then ((clochelaw01_alive.f kj10).bind fun t438 => (some t438)) else (none))) else (none)) else (none)))) = some r := by rw [if_neg (show ¬ (false = true) by decide)] at H; exact H
      clear H
      have H := H1
      clear H1
      replace H := Option.bind_eq_some_iff.mp H
      obtain ⟨⟨t427, t428, t429, t430, t431⟩, A340, H⟩ := H
      replace H : ((clocheref01_Turns.f kj10 a0_0 a0_1 a0_2 a0_3 l2).bind fun bt432 => (if (t427 == bt432.1 && (t428 == bt432.2.1 && (t429 == bt432.2.2.1 && (t430 == bt432.2.2.2.1)))) = true then (if t431 = bt432.2.2.2.2 then ((clochelaw01_same.f kj10 y412 l2).bind fun t437 => (if t437 = true then ((clochelaw01_alive.f kj10).bind fun t438 => (some t438)) else (none))) else (none)) else (none))) = some r := H
      have A34 := Aside0.mk A340
      clear A340
      replace H := Option.bind_eq_some_iff.mp H
      obtain ⟨⟨t432, t433, t434, t435, t436⟩, A350, H⟩ := H
      replace H : (if (t427 == t432 && (t428 == t433 && (t429 == t434 && (t430 == t435)))) = true then (if t431 = t436 then ((clochelaw01_same.f kj10 y412 l2).bind fun t437 => (if t437 = true then ((clochelaw01_alive.f kj10).bind fun t438 => (some t438)) else (none))) else (none)) else (none)) = some r := H
      have A35 := Aside0.mk A350
      clear A350
      by_cases c36 : (t427 == t432 && (t428 == t433 && (t429 == t434 && (t430 == t435)))) = true
      ·rw [if_pos c36] at H
       have c36b0 : (t427 == t432 && (t428 == t433 && (t429 == t434 && (t430 == t435)))) = true := c36
       (try (have c36b1 : decide (t427 = t432 && (t428 == t433 && (t429 == t434 && (t430 == t435)))) = true := by simpa using c36))
       (try (have c36b2 : (t427 == t432 && (t428 == t433 && (t429 == t434 && (t430 == t435)))) = true := by simpa using c36))
       clear c36
       by_cases c37 : t431 = t436
       ·rw [if_pos c37] at H
        have c37b0 : (t431 == t436) = true := beq_iff_eq.mpr c37
        have c37b1 : (t431 != t436) = false := bne_eq_false_iff_eq.mpr c37
        clear c37
        replace H := Option.bind_eq_some_iff.mp H
        obtain ⟨t437, A380, H⟩ := H
        replace H : (if t437 = true then ((clochelaw01_alive.f kj10).bind fun t438 => (some t438)) else (none)) = some r := H
        have A38 := Aside0.mk A380
        clear A380
        by_cases c39 : t437 = true
        ·subst c39
         have H1 : ((clochelaw01_alive.f kj10).bind fun t438 => (some t438)) = some r := by rw [if_pos rfl] at H; exact H
         clear H
         have H := H1
         clear H1
         replace H := Option.bind_eq_some_iff.mp H
         obtain ⟨t438, A400, H⟩ := H
         replace H : (some t438) = some r := H
         have A40 := Aside0.mk A400
         clear A400
         obtain rfl := Option.some.inj H
         have hnb41 := NB407_420.out
         have hnc41 := NB420_407.out
         have hnb42 := NB407_426.out
         have hnc42 := NB426_407.out
         have hcz43_0 : wc.cell? ⟨gb407, 0, none⟩ = some (.int .i64 a0_0) := (blk_cell BK407.out 0).trans rfl
         have hcz43_1 : wc.cell? ⟨gb407, 1, none⟩ = some (.int .i64 a0_1) := (blk_cell BK407.out 1).trans rfl
         have hcz43_2 : wc.cell? ⟨gb407, 2, none⟩ = some (.int .i64 a0_2) := (blk_cell BK407.out 2).trans rfl
         have hcz43_3 : wc.cell? ⟨gb407, 3, none⟩ = some (.int .i64 a0_3) := (blk_cell BK407.out 3).trans rfl
         have hfz43_0 := blk_frozen BK407.out 0
         have hfz43_1 := blk_frozen BK407.out 1
         have hfz43_2 := blk_frozen BK407.out 2
         have hfz43_3 := blk_frozen BK407.out 3
         obtain ⟨Ao44, co44, eo44⟩ := Kd.R_slice HO_7.out
         subst eo44
         go_wp2_with (first | ((with_reducible refine gate_callee (f := 36) rfl ?_); refine goesL_ (some 42) rfl rfl Try.func36 (by kernel_rfl) rfl #[.agg #[.int .i64 a0_0, .int .i64 a0_1, .int .i64 a0_2, .int .i64 a0_3], .slice Ao44 y412.length co44] rfl mp_ ?_; (with_reducible refine (discs_Turns.calls kj10 a0_0 a0_1 a0_2 a0_3 _ _ y412 t427 t428 t429 t430 t431 _ ?side1 ?side2 A34.out).mono ?_); (case side1 => repeat (first | exact (Kd.R_reads' HO_7.out).2.2 | (with_reducible refine Kd.C_alloc ?_ _) | (with_reducible refine Kd.C_drewN ?_ _) | (with_reducible refine Kd.C_drew ?_))); (case side2 => exact (Kd.R_reads' HO_7.out).2.1); rintro e w45 ⟨rfl, hb⟩; refine ⟨_, rfl, ?_⟩; have n0_ := Aside0.mk (Kd.R_below (by refine kr_ ?_; exact HO_7.out) hb); have n1_ := Aside0.mk (blk_below (g := gb407) (o := .cells #[.int .i64 a0_0, .int .i64 a0_1, .int .i64 a0_2, .int .i64 a0_3] 23 (0, 0)) (by refine bs_ ?_; exact BK407.out) hb); have n2_ := Aside0.mk (blk_below (g := gb420) (o := .cells #[.int .i64 t415, .int .i64 t416, .int .i64 t417, .int .i64 t418] 23 (0, 0)) (by refine bs_ ?_; exact BK420.out) hb); have n3_ := Aside0.mk (blk_below (g := gb426) (o := .cells #[.int .i64 t421, .int .i64 t422, .int .i64 t423, .int .i64 t424] 23 (0, 0)) (by refine bs_ ?_; exact BK426.out) hb); have n4_ := Aside0.mk (below_step (by repeat (first | (with_reducible first | exact HB.out | apply below_alloc | apply pw_below_drewN | apply below_drew1 | refine below_set ?_ GE407.out | refine below_set ?_ GE420.out | refine below_set ?_ GE426.out) | exact HB.out)) hb); clear HO_7; clear BK407; clear BK420; clear BK426; clear HB; have HO_7 := n0_; have BK407 := n1_; have BK420 := n2_; have BK426 := n3_; have HB := n4_; clear n0_ n1_ n2_ n3_ n4_; (try clear hb); (try clear hb2); (try clear hk); (try clear hi); have hnb46 := NB420_426.out; have hnc46 := NB426_420.out; have hcz47_0 : w45.cell? ⟨gb420, 0, none⟩ = some (.int .i64 t415) := (blk_cell BK420.out 0).trans rfl; have hcz47_1 : w45.cell? ⟨gb420, 1, none⟩ = some (.int .i64 t416) := (blk_cell BK420.out 1).trans rfl; have hcz47_2 : w45.cell? ⟨gb420, 2, none⟩ = some (.int .i64 t417) := (blk_cell BK420.out 2).trans rfl; have hcz47_3 : w45.cell? ⟨gb420, 3, none⟩ = some (.int .i64 t418) := (blk_cell BK420.out 3).trans rfl; have hfz47_0 := blk_frozen BK420.out 0; have hfz47_1 := blk_frozen BK420.out 1; have hfz47_2 := blk_frozen BK420.out 2; have hfz47_3 := blk_frozen BK420.out 3; have hcz48_0 : w45.cell? ⟨gb407, 0, none⟩ = some (.int .i64 a0_0) := (blk_cell BK407.out 0).trans rfl; have hcz48_1 : w45.cell? ⟨gb407, 1, none⟩ = some (.int .i64 a0_1) := (blk_cell BK407.out 1).trans rfl; have hcz48_2 : w45.cell? ⟨gb407, 2, none⟩ = some (.int .i64 a0_2) := (blk_cell BK407.out 2).trans rfl; have hcz48_3 : w45.cell? ⟨gb407, 3, none⟩ = some (.int .i64 a0_3) := (blk_cell BK407.out 3).trans rfl; have hfz48_0 := blk_frozen BK407.out 0; have hfz48_1 := blk_frozen BK407.out 1; have hfz48_2 := blk_frozen BK407.out 2; have hfz48_3 := blk_frozen BK407.out 3) | ((with_reducible refine gate_callee (f := 37) rfl ?_); refine goesL_ (some 48) rfl rfl Try.func37 (by kernel_rfl) rfl #[.agg #[.int .i64 a0_0, .int .i64 a0_1, .int .i64 a0_2, .int .i64 a0_3], .slice A2 l2.length c2] rfl mp_ ?_; (with_reducible refine (clocheref01_Turns.calls kj10 a0_0 a0_1 a0_2 a0_3 _ _ l2 t432 t433 t434 t435 t436 _ ?side1 ?side2 A35.out).mono ?_); (case side1 => exact Kd.C_below HR2.out (by repeat (first | (with_reducible first | exact HB.out | apply below_alloc | apply pw_below_drewN | apply below_drew1 | refine below_set ?_ GE407.out | refine below_set ?_ GE420.out | refine below_set ?_ GE426.out) | exact HB.out))); (case side2 => exact HC2.out); rintro e w49 ⟨rfl, hb⟩; refine ⟨_, rfl, ?_⟩; have n0_ := Aside0.mk (Kd.R_below (by refine kr_ ?_; exact (Kd.R_mono (Kd.R_far (p := ⟨gb420, 3, none⟩) (Kd.R_far (p := ⟨gb420, 2, none⟩) (Kd.R_far (p := ⟨gb420, 1, none⟩) (Kd.R_far (p := ⟨gb420, 0, none⟩) (Kd.R_types HO_7.out BK420.out (by decide)) (fun _ hk => hk.2) (.int .i64 t427)) (fun _ hk => hk.2) (.int .i64 t428)) (fun _ hk => hk.2) (.int .i64 t429)) (fun _ hk => hk.2) (.int .i64 t430)) (fun _ h_ => h_.1))) hb); have n1_ := Aside0.mk (blk_below (g := gb407) (o := .cells #[.int .i64 a0_0, .int .i64 a0_1, .int .i64 a0_2, .int .i64 a0_3] 23 (0, 0)) (by refine bs_ ?_; refine blk_far ?_ NB407_420.out _; refine bs_ ?_; refine blk_far ?_ NB407_420.out _; refine bs_ ?_; refine blk_far ?_ NB407_420.out _; refine bs_ ?_; refine blk_far ?_ NB407_420.out _; refine bs_ ?_; exact BK407.out) hb); have n2_ := Aside0.mk (blk_below (g := gb420) (o := .cells #[.int .i64 t427, .int .i64 t428, .int .i64 t429, .int .i64 t430] 23 (0, 0)) (by refine bs_ ?_; refine blk_put (cs := #[.int .i64 t427, .int .i64 t428, .int .i64 t429, .int .i64 t418]) ?_ 3 _ rfl; refine bs_ ?_; refine blk_put (cs := #[.int .i64 t427, .int .i64 t428, .int .i64 t417, .int .i64 t418]) ?_ 2 _ rfl; refine bs_ ?_; refine blk_put (cs := #[.int .i64 t427, .int .i64 t416, .int .i64 t417, .int .i64 t418]) ?_ 1 _ rfl; refine bs_ ?_; refine blk_put (cs := #[.int .i64 t415, .int .i64 t416, .int .i64 t417, .int .i64 t418]) ?_ 0 _ rfl; refine bs_ ?_; exact BK420.out) hb); have n3_ := Aside0.mk (blk_below (g := gb426) (o := .cells #[.int .i64 t421, .int .i64 t422, .int .i64 t423, .int .i64 t424] 23 (0, 0)) (by refine bs_ ?_; refine blk_far ?_ NB426_420.out _; refine bs_ ?_; refine blk_far ?_ NB426_420.out _; refine bs_ ?_; refine blk_far ?_ NB426_420.out _; refine bs_ ?_; refine blk_far ?_ NB426_420.out _; refine bs_ ?_; exact BK426.out) hb); have n4_ := Aside0.mk (below_step (by repeat (first | (with_reducible first | exact HB.out | apply below_alloc | apply pw_below_drewN | apply below_drew1 | refine below_set ?_ GE407.out | refine below_set ?_ GE420.out | refine below_set ?_ GE426.out) | exact HB.out)) hb); clear HO_7; clear BK407; clear BK420; clear BK426; clear HB; have HO_7 := n0_; have BK407 := n1_; have BK420 := n2_; have BK426 := n3_; have HB := n4_; clear n0_ n1_ n2_ n3_ n4_; (try clear hb); (try clear hb2); (try clear hk); (try clear hi); have hcz50_0 : w49.cell? ⟨gb426, 0, none⟩ = some (.int .i64 t421) := (blk_cell BK426.out 0).trans rfl; have hcz50_1 : w49.cell? ⟨gb426, 1, none⟩ = some (.int .i64 t422) := (blk_cell BK426.out 1).trans rfl; have hcz50_2 : w49.cell? ⟨gb426, 2, none⟩ = some (.int .i64 t423) := (blk_cell BK426.out 2).trans rfl; have hcz50_3 : w49.cell? ⟨gb426, 3, none⟩ = some (.int .i64 t424) := (blk_cell BK426.out 3).trans rfl; have hfz50_0 := blk_frozen BK426.out 0; have hfz50_1 := blk_frozen BK426.out 1; have hfz50_2 := blk_frozen BK426.out 2; have hfz50_3 := blk_frozen BK426.out 3; have hcz51_0 : w49.cell? ⟨gb420, 0, none⟩ = some (.int .i64 t427) := (blk_cell BK420.out 0).trans rfl; have hcz51_1 : w49.cell? ⟨gb420, 1, none⟩ = some (.int .i64 t428) := (blk_cell BK420.out 1).trans rfl; have hcz51_2 : w49.cell? ⟨gb420, 2, none⟩ = some (.int .i64 t429) := (blk_cell BK420.out 2).trans rfl; have hcz51_3 : w49.cell? ⟨gb420, 3, none⟩ = some (.int .i64 t430) := (blk_cell BK420.out 3).trans rfl; have hfz51_0 := blk_frozen BK420.out 0; have hfz51_1 := blk_frozen BK420.out 1; have hfz51_2 := blk_frozen BK420.out 2; have hfz51_3 := blk_frozen BK420.out 3) | (go_at_call 24; (with_reducible refine (clochelaw01_same.calls kj10 _ _ y412 _ _ l2 true _ ?side1 ?side2 ?side3 ?side4 A38.out).mono ?_); (case side1 => refine (Kd.R_reads' (e := 3) (base := w.heap.size) (ok := fun k_ => True) (n := y412.length) (c := co44) ?_).2.2; exact (by refine kr_ ?_; exact (Kd.R_mono (Kd.R_far (p := ⟨gb426, 3, none⟩) (Kd.R_far (p := ⟨gb426, 2, none⟩) (Kd.R_far (p := ⟨gb426, 1, none⟩) (Kd.R_far (p := ⟨gb426, 0, none⟩) (Kd.R_types HO_7.out BK426.out (by decide)) (fun _ hk => hk.2) (.int .i64 t432)) (fun _ hk => hk.2) (.int .i64 t433)) (fun _ hk => hk.2) (.int .i64 t434)) (fun _ hk => hk.2) (.int .i64 t435)) (fun _ h_ => h_.1)))); (case side2 => exact (Kd.R_reads' HO_7.out).2.1); (case side3 => exact Kd.C_below HR2.out (by repeat (first | (with_reducible first | exact HB.out | apply below_alloc | apply pw_below_drewN | apply below_drew1 | refine below_set ?_ GE407.out | refine below_set ?_ GE420.out | refine below_set ?_ GE426.out) | exact HB.out))); (case side4 => exact HC2.out); rintro e w' ⟨rfl, ⟨nd, rfl⟩⟩) | (go_at_call 19; (with_reducible refine (clochelaw01_alive.calls kj10  t438 _ A40.out).mono ?_); rintro e w52 ⟨rfl, hb⟩; have n0_ := Aside0.mk (Kd.R_below (by refine kr_ ?_; exact (Kd.R_mono (Kd.R_far (p := ⟨gb426, 3, none⟩) (Kd.R_far (p := ⟨gb426, 2, none⟩) (Kd.R_far (p := ⟨gb426, 1, none⟩) (Kd.R_far (p := ⟨gb426, 0, none⟩) (Kd.R_types HO_7.out BK426.out (by decide)) (fun _ hk => hk.2) (.int .i64 t432)) (fun _ hk => hk.2) (.int .i64 t433)) (fun _ hk => hk.2) (.int .i64 t434)) (fun _ hk => hk.2) (.int .i64 t435)) (fun _ h_ => h_.1))) hb); have n1_ := Aside0.mk (blk_below (g := gb407) (o := .cells #[.int .i64 a0_0, .int .i64 a0_1, .int .i64 a0_2, .int .i64 a0_3] 23 (0, 0)) (by refine bs_ ?_; refine blk_far ?_ NB407_426.out _; refine bs_ ?_; refine blk_far ?_ NB407_426.out _; refine bs_ ?_; refine blk_far ?_ NB407_426.out _; refine bs_ ?_; refine blk_far ?_ NB407_426.out _; refine bs_ ?_; exact BK407.out) hb); have n2_ := Aside0.mk (blk_below (g := gb420) (o := .cells #[.int .i64 t427, .int .i64 t428, .int .i64 t429, .int .i64 t430] 23 (0, 0)) (by refine bs_ ?_; refine blk_far ?_ NB420_426.out _; refine bs_ ?_; refine blk_far ?_ NB420_426.out _; refine bs_ ?_; refine blk_far ?_ NB420_426.out _; refine bs_ ?_; refine blk_far ?_ NB420_426.out _; refine bs_ ?_; exact BK420.out) hb); have n3_ := Aside0.mk (blk_below (g := gb426) (o := .cells #[.int .i64 t432, .int .i64 t433, .int .i64 t434, .int .i64 t435] 23 (0, 0)) (by refine bs_ ?_; refine blk_put (cs := #[.int .i64 t432, .int .i64 t433, .int .i64 t434, .int .i64 t424]) ?_ 3 _ rfl; refine bs_ ?_; refine blk_put (cs := #[.int .i64 t432, .int .i64 t433, .int .i64 t423, .int .i64 t424]) ?_ 2 _ rfl; refine bs_ ?_; refine blk_put (cs := #[.int .i64 t432, .int .i64 t422, .int .i64 t423, .int .i64 t424]) ?_ 1 _ rfl; refine bs_ ?_; refine blk_put (cs := #[.int .i64 t421, .int .i64 t422, .int .i64 t423, .int .i64 t424]) ?_ 0 _ rfl; refine bs_ ?_; exact BK426.out) hb); have n4_ := Aside0.mk (below_step (by repeat (first | (with_reducible first | exact HB.out | apply below_alloc | apply pw_below_drewN | apply below_drew1 | refine below_set ?_ GE407.out | refine below_set ?_ GE420.out | refine below_set ?_ GE426.out) | exact HB.out)) hb); clear HO_7; clear BK407; clear BK420; clear BK426; clear HB; have HO_7 := n0_; have BK407 := n1_; have BK420 := n2_; have BK426 := n3_; have HB := n4_; clear n0_ n1_ n2_ n3_ n4_; (try clear hb); (try clear hb2); (try clear hk); (try clear hi)))
         go_ret
         exact ⟨by first | rfl | (simp [errW_none, errW_some] <;> rfl) | (simp [*, errW_none, errW_some] <;> rfl), by repeat (first | (with_reducible first | exact HB.out | apply below_alloc | apply pw_below_drewN | apply below_drew1 | refine below_set ?_ GE407.out | refine below_set ?_ GE420.out | refine below_set ?_ GE426.out) | exact HB.out)⟩
        ·replace c39 := Bool.eq_false_iff.mpr c39
         subst c39
         have H1 : (none) = some r := by rw [if_neg (show ¬ (false = true) by decide)] at H; exact H
         clear H
         have H := H1
         clear H1
         exact absurd H (by simp)
       ·rw [if_neg c37] at H
        exact absurd H (by simp)
      ·rw [if_neg c36] at H
       exact absurd H (by simp)
  ·rw [if_neg c8] at H
   exact absurd H (by simp)

end Go.Proofs.Ytlfmafebmnggeaa.Print
