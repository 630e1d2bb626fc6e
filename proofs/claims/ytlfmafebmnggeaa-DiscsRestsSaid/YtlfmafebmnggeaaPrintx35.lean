/- What the functions of the discs compute, printed by this repo's hand printer. -/
import Derived.Test.YtlfmafebmnggeaaShort
import Derived.Test.YtlfmafebmnggeaaPrintx0
import Derived.Test.YtlfmafebmnggeaaPrintxr
import Derived.Test.YtlfmafebmnggeaaHandRests
import Derived.Test.YtlfmafebmnggeaaPrintx4
import Derived.Test.YtlfmafebmnggeaaPrintx6
namespace Go.Proofs.Ytlfmafebmnggeaa.Print
open Go.RowKit Go.Proofs.YtlfmafebmnggeaaW.PrintWords Go.Proofs.YtlfmafebmnggeaaW.PrintLast Go.Proofs.YtlfmafebmnggeaaW.PrintMore
attribute [local go_sem] max2_int min2_int max_two min_two max_three min_three max_four min_four
set_option maxHeartbeats 8000000 -- slim
set_option maxRecDepth 100000
set_option linter.unusedVariables false
set_option linter.unusedSimpArgs false

/-! ### clochelaw01_DiscsRests: function 6 -/
def clochelaw01_DiscsRests.f (k : Nat) (a0_0 : Int) (a0_1 : Int) (a0_2 : Int) (a0_3 : Int) : Option (Bool) := (discs_Rests.f k a0_0 a0_1 a0_2 a0_3).bind fun bt673 => ((clocheref01_Rests.f k a0_0 a0_1 a0_2 a0_3).bind fun bt677 => ((clochelaw01_same.f k bt673.1 bt677.1).bind fun t681 => (if t681 = true then (if bt673.2 = bt677.2 then ((clochelaw01_alive.f k).bind fun t682 => (some t682)) else (none)) else (none))))
theorem clochelaw01_DiscsRests.mono : ∀ a0 a1 a2 a3 k, LeO (clochelaw01_DiscsRests.f k a0 a1 a2 a3) (clochelaw01_DiscsRests.f (k + 1) a0 a1 a2 a3) := by
 intro a0 a1 a2 a3 k
 unfold clochelaw01_DiscsRests.f
 repeat' first
   | (with_reducible exact clochelaw01_alive.mono _)
   | (with_reducible exact clochelaw01_same.mono _ _ _)
   | (with_reducible exact clocheref01_Rests.mono _ _ _ _ _)
   | (with_reducible exact discs_Rests.mono _ _ _ _ _)
   | (with_reducible exact LeO.refl _)
   | (with_reducible exact LeO.none _)
   | (with_reducible refine LeO.ite ?_ ?_)
   | (with_reducible refine LeO.bind ?_ (fun _ => ?_))
   | exact clochelaw01_alive.mono _
   | exact clochelaw01_same.mono _ _ _
   | exact clocheref01_Rests.mono _ _ _ _ _
   | exact discs_Rests.mono _ _ _ _ _
   | exact LeO.none _
   | refine LeO.ite ?_ ?_
   | refine LeO.bind ?_ (fun _ => ?_)
theorem clochelaw01_DiscsRests.calls (k : Nat) (a0_0 : Int) (a0_1 : Int) (a0_2 : Int) (a0_3 : Int) (r : Bool) (w : World) (h : clochelaw01_DiscsRests.f k a0_0 a0_1 a0_2 a0_3 = some r) :
  Calls Try.prog 6 #[.agg #[.int .i64 a0_0, .int .i64 a0_1, .int .i64 a0_2, .int .i64 a0_3]] w fun e w' => e = .returned (.bool r) ∧ Below w.heap.size w w' := by
 have hu23 := Try.underlying23
 have HB := Aside0.mk (Below.refl w.heap.size w)
 have H : ((discs_Rests.f k a0_0 a0_1 a0_2 a0_3).bind fun bt673 => ((clocheref01_Rests.f k a0_0 a0_1 a0_2 a0_3).bind fun bt677 => ((clochelaw01_same.f k bt673.1 bt677.1).bind fun t681 => (if t681 = true then (if bt673.2 = bt677.2 then ((clochelaw01_alive.f k).bind fun t682 => (some t682)) else (none)) else (none))))) = some r := h
 clear h
 replace H := Option.bind_eq_some_iff.mp H
 obtain ⟨⟨t673, t676⟩, A20, H⟩ := H
 replace H : ((clocheref01_Rests.f k a0_0 a0_1 a0_2 a0_3).bind fun bt677 => ((clochelaw01_same.f k t673 bt677.1).bind fun t681 => (if t681 = true then (if t676 = bt677.2 then ((clochelaw01_alive.f k).bind fun t682 => (some t682)) else (none)) else (none)))) = some r := H
 have A2 := Aside0.mk A20
 clear A20
 replace H := Option.bind_eq_some_iff.mp H
 obtain ⟨⟨t677, t680⟩, A30, H⟩ := H
 replace H : ((clochelaw01_same.f k t673 t677).bind fun t681 => (if t681 = true then (if t676 = t680 then ((clochelaw01_alive.f k).bind fun t682 => (some t682)) else (none)) else (none))) = some r := H
 have A3 := Aside0.mk A30
 clear A30
 replace H := Option.bind_eq_some_iff.mp H
 obtain ⟨t681, A40, H⟩ := H
 replace H : (if t681 = true then (if t676 = t680 then ((clochelaw01_alive.f k).bind fun t682 => (some t682)) else (none)) else (none)) = some r := H
 have A4 := Aside0.mk A40
 clear A40
 by_cases c5 : t681 = true
 ·subst c5
  have H1 : (if t676 = t680 then ((clochelaw01_alive.f k).bind fun t682 => (some t682)) else (none)) = some r := by rw [if_pos rfl] at H; exact H
  clear H
  have H := H1
  clear H1
  by_cases c6 : t676 = t680
  ·rw [if_pos c6] at H
   have c6b0 : (t676 == t680) = true := beq_iff_eq.mpr c6
   have c6b1 : (t676 != t680) = false := bne_eq_false_iff_eq.mpr c6
   clear c6
   replace H := Option.bind_eq_some_iff.mp H
   obtain ⟨t682, A70, H⟩ := H
   replace H : (some t682) = some r := H
   have A7 := Aside0.mk A70
   clear A70
   obtain rfl := Option.some.inj H
   go_enter Try.func6, Try.ntmps6
   go_wp2_with (first | ((with_reducible refine gate_dst (N := 1) rfl ?_); refine box_event ?hg (N := 1) ?hd (cs := #[.int .i64 a0_0, .int .i64 a0_1, .int .i64 a0_2, .int .i64 a0_3]) (t := 23) ?hr ?_; (case hd => rfl); (case hg => rfl); (case hr => exact gs_); intro gb672 hg w8 hbox hb; have n0_ := Aside0.mk (below_step (lw_ HB.out) hb); have n1_ := Aside0.mk (hbox); have n2_ := Aside0.mk ((by rw [hg]; exact (below_size (lw_ HB.out)) : w.heap.size ≤ gb672)); have n3_ := Aside0.mk ((by rw [hg]; exact (below_size (lw_ HB.out)) : w.heap.size ≤ gb672)); clear HB; have HB := n0_; have BK672 := n1_; have GW672 := n2_; have GE672 := n3_; clear n0_ n1_ n2_ n3_; clear hb hbox hg; have hcz9_0 : w8.cell? ⟨gb672, 0, none⟩ = some (.int .i64 a0_0) := (blk_cell BK672.out 0).trans rfl; have hcz9_1 : w8.cell? ⟨gb672, 1, none⟩ = some (.int .i64 a0_1) := (blk_cell BK672.out 1).trans rfl; have hcz9_2 : w8.cell? ⟨gb672, 2, none⟩ = some (.int .i64 a0_2) := (blk_cell BK672.out 2).trans rfl; have hcz9_3 : w8.cell? ⟨gb672, 3, none⟩ = some (.int .i64 a0_3) := (blk_cell BK672.out 3).trans rfl; have hfz9_0 := blk_frozen BK672.out 0; have hfz9_1 := blk_frozen BK672.out 1; have hfz9_2 := blk_frozen BK672.out 2; have hfz9_3 := blk_frozen BK672.out 3) | ((with_reducible refine gate_callee (f := 25) rfl ?_); refine goesL_ (some 9) rfl rfl Try.func25 (by kernel_rfl) rfl #[.agg #[.int .i64 a0_0, .int .i64 a0_1, .int .i64 a0_2, .int .i64 a0_3]] rfl mp_ ?_; (with_reducible refine (discs_Rests.calls k a0_0 a0_1 a0_2 a0_3 t673 t676 _ A2.out).mono ?_); rintro e w10 ⟨v674, rfl, ho0, hb⟩; refine ⟨_, rfl, ?_⟩; have n0_ := Aside0.mk (Kd.R_lower ho0 (below_size (by repeat (first | (with_reducible first | exact HB.out | apply below_alloc | apply pw_below_drewN | apply below_drew1 | refine below_set ?_ GE672.out) | exact HB.out)))); have n1_ := Aside0.mk (blk_below (g := gb672) (o := .cells #[.int .i64 a0_0, .int .i64 a0_1, .int .i64 a0_2, .int .i64 a0_3] 23 (0, 0)) (by refine bs_ ?_; exact BK672.out) hb); have n2_ := Aside0.mk (below_step (by repeat (first | (with_reducible first | exact HB.out | apply below_alloc | apply pw_below_drewN | apply below_drew1 | refine below_set ?_ GE672.out) | exact HB.out)) hb); clear BK672; clear HB; have HO675 := n0_; have BK672 := n1_; have HB := n2_; clear n0_ n1_ n2_; (try clear hb); (try clear hb2); (try clear hk); (try clear hi); (try clear ho0); have hcz11_0 : w10.cell? ⟨gb672, 0, none⟩ = some (.int .i64 a0_0) := (blk_cell BK672.out 0).trans rfl; have hcz11_1 : w10.cell? ⟨gb672, 1, none⟩ = some (.int .i64 a0_1) := (blk_cell BK672.out 1).trans rfl; have hcz11_2 : w10.cell? ⟨gb672, 2, none⟩ = some (.int .i64 a0_2) := (blk_cell BK672.out 2).trans rfl; have hcz11_3 : w10.cell? ⟨gb672, 3, none⟩ = some (.int .i64 a0_3) := (blk_cell BK672.out 3).trans rfl; have hfz11_0 := blk_frozen BK672.out 0; have hfz11_1 := blk_frozen BK672.out 1; have hfz11_2 := blk_frozen BK672.out 2; have hfz11_3 := blk_frozen BK672.out 3) | ((with_reducible refine gate_callee (f := 26) rfl ?_); refine goesL_ (some 14) rfl rfl Try.func26 (by kernel_rfl) rfl #[.agg #[.int .i64 a0_0, .int .i64 a0_1, .int .i64 a0_2, .int .i64 a0_3]] rfl mp_ ?_; (with_reducible refine (clocheref01_Rests.calls k a0_0 a0_1 a0_2 a0_3 t677 t680 _ A3.out).mono ?_); rintro e w12 ⟨v678, rfl, ho0, hb⟩; refine ⟨_, rfl, ?_⟩; have n0_ := Aside0.mk (Kd.R_elder' (by refine kr_ ?_; exact HO675.out) (Kd.R_base ho0) hb); have n1_ := Aside0.mk (Kd.R_lower (Kd.R_new' ho0 (Kd.R_lt (by refine kr_ ?_; exact HO675.out))) (below_size (by repeat (first | (with_reducible first | exact HB.out | apply below_alloc | apply pw_below_drewN | apply below_drew1 | refine below_set ?_ GE672.out) | exact HB.out)))); have n2_ := Aside0.mk (blk_below (g := gb672) (o := .cells #[.int .i64 a0_0, .int .i64 a0_1, .int .i64 a0_2, .int .i64 a0_3] 23 (0, 0)) (by refine bs_ ?_; exact BK672.out) hb); have n3_ := Aside0.mk (below_step (by repeat (first | (with_reducible first | exact HB.out | apply below_alloc | apply pw_below_drewN | apply below_drew1 | refine below_set ?_ GE672.out) | exact HB.out)) hb); clear HO675; clear BK672; clear HB; have HO675 := n0_; have HO679 := n1_; have BK672 := n2_; have HB := n3_; clear n0_ n1_ n2_ n3_; (try clear hb); (try clear hb2); (try clear hk); (try clear hi); (try clear ho0); obtain ⟨Ao13, co13, eo13⟩ := Kd.R_slice HO675.out; subst eo13; obtain ⟨Ao14, co14, eo14⟩ := Kd.R_slice HO679.out; subst eo14) | ((with_reducible refine gate_callee (f := 24) rfl ?_); refine goesL_ (some 19) rfl rfl Try.func24 (by kernel_rfl) rfl #[.slice Ao13 t673.length co13, .slice Ao14 t677.length co14] rfl mp_ ?_; (with_reducible refine (clochelaw01_same.calls k _ _ t673 _ _ t677 true _ ?side1 ?side2 ?side3 ?side4 A4.out).mono ?_); (case side1 => repeat (first | exact (Kd.R_reads' HO675.out).2.2 | (with_reducible refine Kd.C_alloc ?_ _) | (with_reducible refine Kd.C_drewN ?_ _) | (with_reducible refine Kd.C_drew ?_))); (case side2 => exact (Kd.R_reads' HO675.out).2.1); (case side3 => repeat (first | exact (Kd.R_reads' HO679.out).2.2 | (with_reducible refine Kd.C_alloc ?_ _) | (with_reducible refine Kd.C_drewN ?_ _) | (with_reducible refine Kd.C_drew ?_))); (case side4 => exact (Kd.R_reads' HO679.out).2.1); rintro e w' ⟨rfl, ⟨nd, rfl⟩⟩; refine ⟨_, rfl, ?_⟩) | (go_at_call 19; (with_reducible refine (clochelaw01_alive.calls k  t682 _ A7.out).mono ?_); rintro e w15 ⟨rfl, hb⟩; have n0_ := Aside0.mk (Kd.R_below (by refine kr_ ?_; exact HO675.out) hb); have n1_ := Aside0.mk (Kd.R_below (by refine kr_ ?_; exact HO679.out) hb); have n2_ := Aside0.mk (blk_below (g := gb672) (o := .cells #[.int .i64 a0_0, .int .i64 a0_1, .int .i64 a0_2, .int .i64 a0_3] 23 (0, 0)) (by refine bs_ ?_; exact BK672.out) hb); have n3_ := Aside0.mk (below_step (by repeat (first | (with_reducible first | exact HB.out | apply below_alloc | apply pw_below_drewN | apply below_drew1 | refine below_set ?_ GE672.out) | exact HB.out)) hb); clear HO675; clear HO679; clear BK672; clear HB; have HO675 := n0_; have HO679 := n1_; have BK672 := n2_; have HB := n3_; clear n0_ n1_ n2_ n3_; (try clear hb); (try clear hb2); (try clear hk); (try clear hi)))
   go_ret
   exact ⟨by first | rfl | (simp [errW_none, errW_some] <;> rfl) | (simp [*, errW_none, errW_some] <;> rfl), by repeat (first | (with_reducible first | exact HB.out | apply below_alloc | apply pw_below_drewN | apply below_drew1 | refine below_set ?_ GE672.out) | exact HB.out)⟩
  ·rw [if_neg c6] at H
   exact absurd H (by simp)
 ·replace c5 := Bool.eq_false_iff.mpr c5
  subst c5
  have H1 : (none) = some r := by rw [if_neg (show ¬ (false = true) by decide)] at H; exact H
  clear H
  have H := H1
  clear H1
  exact absurd H (by simp)

end Go.Proofs.Ytlfmafebmnggeaa.Print
