/- What the functions of the discs compute, printed by this repo's hand printer. -/
import Derived.Test.YtlfmafebmnggeaaShort
import Derived.Test.YtlfmafebmnggeaaPrintx0
import Derived.Test.YtlfmafebmnggeaaHandDiscs
import Derived.Test.YtlfmafebmnggeaaPrintx4
import Derived.Test.YtlfmafebmnggeaaPrintx6
import Derived.Test.YtlfmafebmnggeaaPrintx32
namespace Go.Proofs.Ytlfmafebmnggeaa.Print
open Go.RowKit Go.Proofs.YtlfmafebmnggeaaW.PrintWords Go.Proofs.YtlfmafebmnggeaaW.PrintLast Go.Proofs.YtlfmafebmnggeaaW.PrintMore
attribute [local go_sem] max2_int min2_int max_two min_two max_three min_three max_four min_four
set_option maxHeartbeats 8000000 -- slim
set_option maxRecDepth 100000
set_option linter.unusedVariables false
set_option linter.unusedSimpArgs false

/-! ### clochelaw01_DiscsLaid: function 5 -/
def clochelaw01_DiscsLaid.f (k : Nat) (a0_0 : Int) (a0_1 : Int) (a0_2 : Int) (a0_3 : Int) (a1 : Int) : Option (Bool) := (discs_Discs.f k a0_0 a0_1 a0_2 a0_3 a1).bind fun bt638 => ((clocheref01_Discs.f k a0_0 a0_1 a0_2 a0_3 a1).bind fun bt642 => ((clochelaw01_same.f k bt638.1 bt642.1).bind fun t646 => (if t646 = true then (if bt638.2 = bt642.2 then ((clochelaw01_alive.f k).bind fun t647 => (some t647)) else (none)) else (none))))
theorem clochelaw01_DiscsLaid.mono : ∀ a0 a1 a2 a3 a4 k, LeO (clochelaw01_DiscsLaid.f k a0 a1 a2 a3 a4) (clochelaw01_DiscsLaid.f (k + 1) a0 a1 a2 a3 a4) := by
 intro a0 a1 a2 a3 a4 k
 unfold clochelaw01_DiscsLaid.f
 repeat' first
   | (with_reducible exact clochelaw01_alive.mono _)
   | (with_reducible exact clochelaw01_same.mono _ _ _)
   | (with_reducible exact clocheref01_Discs.mono _ _ _ _ _ _)
   | (with_reducible exact discs_Discs.mono _ _ _ _ _ _)
   | (with_reducible exact LeO.refl _)
   | (with_reducible exact LeO.none _)
   | (with_reducible refine LeO.ite ?_ ?_)
   | (with_reducible refine LeO.bind ?_ (fun _ => ?_))
   | exact clochelaw01_alive.mono _
   | exact clochelaw01_same.mono _ _ _
   | exact clocheref01_Discs.mono _ _ _ _ _ _
   | exact discs_Discs.mono _ _ _ _ _ _
   | exact LeO.none _
   | refine LeO.ite ?_ ?_
   | refine LeO.bind ?_ (fun _ => ?_)
theorem clochelaw01_DiscsLaid.calls (k : Nat) (a0_0 : Int) (a0_1 : Int) (a0_2 : Int) (a0_3 : Int) (a1 : Int) (r : Bool) (w : World) (h : clochelaw01_DiscsLaid.f k a0_0 a0_1 a0_2 a0_3 a1 = some r) :
  Calls Try.prog 5 #[.agg #[.int .i64 a0_0, .int .i64 a0_1, .int .i64 a0_2, .int .i64 a0_3], .int .i64 a1] w fun e w' => e = .returned (.bool r) ∧ Below w.heap.size w w' := by
 have hu23 := Try.underlying23
 have HB := Aside0.mk (Below.refl w.heap.size w)
 have H : ((discs_Discs.f k a0_0 a0_1 a0_2 a0_3 a1).bind fun bt638 => ((clocheref01_Discs.f k a0_0 a0_1 a0_2 a0_3 a1).bind fun bt642 => ((clochelaw01_same.f k bt638.1 bt642.1).bind fun t646 => (if t646 = true then (if bt638.2 = bt642.2 then ((clochelaw01_alive.f k).bind fun t647 => (some t647)) else (none)) else (none))))) = some r := h
 clear h
 replace H := Option.bind_eq_some_iff.mp H
 obtain ⟨⟨t638, t641⟩, A30, H⟩ := H
 replace H : ((clocheref01_Discs.f k a0_0 a0_1 a0_2 a0_3 a1).bind fun bt642 => ((clochelaw01_same.f k t638 bt642.1).bind fun t646 => (if t646 = true then (if t641 = bt642.2 then ((clochelaw01_alive.f k).bind fun t647 => (some t647)) else (none)) else (none)))) = some r := H
 have A3 := Aside0.mk A30
 clear A30
 replace H := Option.bind_eq_some_iff.mp H
 obtain ⟨⟨t642, t645⟩, A40, H⟩ := H
 replace H : ((clochelaw01_same.f k t638 t642).bind fun t646 => (if t646 = true then (if t641 = t645 then ((clochelaw01_alive.f k).bind fun t647 => (some t647)) else (none)) else (none))) = some r := H
 have A4 := Aside0.mk A40
 clear A40
 replace H := Option.bind_eq_some_iff.mp H
 obtain ⟨t646, A50, H⟩ := H
 replace H : (if t646 = true then (if t641 = t645 then ((clochelaw01_alive.f k).bind fun t647 => (some t647)) else (none)) else (none)) = some r := H
 have A5 := Aside0.mk A50
 clear A50
 by_cases c6 : t646 = true
 ·subst c6
  have H1 : (if t641 = t645 then ((clochelaw01_alive.f k).bind fun t647 => (some t647)) else (none)) = some r := by rw [if_pos rfl] at H; exact H
  clear H
  have H := H1
  clear H1
  by_cases c7 : t641 = t645
  ·rw [if_pos c7] at H
   have c7b0 : (t641 == t645) = true := beq_iff_eq.mpr c7
   have c7b1 : (t641 != t645) = false := bne_eq_false_iff_eq.mpr c7
   clear c7
   replace H := Option.bind_eq_some_iff.mp H
   obtain ⟨t647, A80, H⟩ := H
   replace H : (some t647) = some r := H
   have A8 := Aside0.mk A80
   clear A80
   obtain rfl := Option.some.inj H
   go_enter Try.func5, Try.ntmps5
   go_wp2_with (first | ((with_reducible refine gate_dst (N := 2) rfl ?_); refine box_event ?hg (N := 2) ?hd (cs := #[.int .i64 a0_0, .int .i64 a0_1, .int .i64 a0_2, .int .i64 a0_3]) (t := 23) ?hr ?_; (case hd => rfl); (case hg => rfl); (case hr => exact gs_); intro gb637 hg w9 hbox hb; have n0_ := Aside0.mk (below_step (lw_ HB.out) hb); have n1_ := Aside0.mk (hbox); have n2_ := Aside0.mk ((by rw [hg]; exact (below_size (lw_ HB.out)) : w.heap.size ≤ gb637)); have n3_ := Aside0.mk ((by rw [hg]; exact (below_size (lw_ HB.out)) : w.heap.size ≤ gb637)); clear HB; have HB := n0_; have BK637 := n1_; have GW637 := n2_; have GE637 := n3_; clear n0_ n1_ n2_ n3_; clear hb hbox hg; have hcz10_0 : w9.cell? ⟨gb637, 0, none⟩ = some (.int .i64 a0_0) := (blk_cell BK637.out 0).trans rfl; have hcz10_1 : w9.cell? ⟨gb637, 1, none⟩ = some (.int .i64 a0_1) := (blk_cell BK637.out 1).trans rfl; have hcz10_2 : w9.cell? ⟨gb637, 2, none⟩ = some (.int .i64 a0_2) := (blk_cell BK637.out 2).trans rfl; have hcz10_3 : w9.cell? ⟨gb637, 3, none⟩ = some (.int .i64 a0_3) := (blk_cell BK637.out 3).trans rfl; have hfz10_0 := blk_frozen BK637.out 0; have hfz10_1 := blk_frozen BK637.out 1; have hfz10_2 := blk_frozen BK637.out 2; have hfz10_3 := blk_frozen BK637.out 3) | ((with_reducible refine gate_callee (f := 22) rfl ?_); refine goesL_ (some 12) rfl rfl Try.func22 (by kernel_rfl) rfl #[.agg #[.int .i64 a0_0, .int .i64 a0_1, .int .i64 a0_2, .int .i64 a0_3], .int .i64 a1] rfl mp_ ?_; (with_reducible refine (discs_Discs.calls k a0_0 a0_1 a0_2 a0_3 a1 t638 t641 _ A3.out).mono ?_); rintro e w11 ⟨v639, rfl, ho0, hb⟩; refine ⟨_, rfl, ?_⟩; have n0_ := Aside0.mk (Kd.R_lower ho0 (below_size (by repeat (first | (with_reducible first | exact HB.out | apply below_alloc | apply pw_below_drewN | apply below_drew1 | refine below_set ?_ GE637.out) | exact HB.out)))); have n1_ := Aside0.mk (blk_below (g := gb637) (o := .cells #[.int .i64 a0_0, .int .i64 a0_1, .int .i64 a0_2, .int .i64 a0_3] 23 (0, 0)) (by refine bs_ ?_; exact BK637.out) hb); have n2_ := Aside0.mk (below_step (by repeat (first | (with_reducible first | exact HB.out | apply below_alloc | apply pw_below_drewN | apply below_drew1 | refine below_set ?_ GE637.out) | exact HB.out)) hb); clear BK637; clear HB; have HO640 := n0_; have BK637 := n1_; have HB := n2_; clear n0_ n1_ n2_; (try clear hb); (try clear hb2); (try clear hk); (try clear hi); (try clear ho0); have hcz12_0 : w11.cell? ⟨gb637, 0, none⟩ = some (.int .i64 a0_0) := (blk_cell BK637.out 0).trans rfl; have hcz12_1 : w11.cell? ⟨gb637, 1, none⟩ = some (.int .i64 a0_1) := (blk_cell BK637.out 1).trans rfl; have hcz12_2 : w11.cell? ⟨gb637, 2, none⟩ = some (.int .i64 a0_2) := (blk_cell BK637.out 2).trans rfl; have hcz12_3 : w11.cell? ⟨gb637, 3, none⟩ = some (.int .i64 a0_3) := (blk_cell BK637.out 3).trans rfl; have hfz12_0 := blk_frozen BK637.out 0; have hfz12_1 := blk_frozen BK637.out 1; have hfz12_2 := blk_frozen BK637.out 2; have hfz12_3 := blk_frozen BK637.out 3) | ((with_reducible refine gate_callee (f := 23) rfl ?_); refine goesL_ (some 18) rfl rfl Try.func23 (by kernel_rfl) rfl #[.agg #[.int .i64 a0_0, .int .i64 a0_1, .int .i64 a0_2, .int .i64 a0_3], .int .i64 a1] rfl mp_ ?_; (with_reducible refine (clocheref01_Discs.calls k a0_0 a0_1 a0_2 a0_3 a1 t642 t645 _ A4.out).mono ?_); rintro e w13 ⟨v643, rfl, ho0, hb⟩; refine ⟨_, rfl, ?_⟩; have n0_ := Aside0.mk (Kd.R_elder' (by refine kr_ ?_; exact HO640.out) (Kd.R_base ho0) hb); have n1_ := Aside0.mk (Kd.R_lower (Kd.R_new' ho0 (Kd.R_lt (by refine kr_ ?_; exact HO640.out))) (below_size (by repeat (first | (with_reducible first | exact HB.out | apply below_alloc | apply pw_below_drewN | apply below_drew1 | refine below_set ?_ GE637.out) | exact HB.out)))); have n2_ := Aside0.mk (blk_below (g := gb637) (o := .cells #[.int .i64 a0_0, .int .i64 a0_1, .int .i64 a0_2, .int .i64 a0_3] 23 (0, 0)) (by refine bs_ ?_; exact BK637.out) hb); have n3_ := Aside0.mk (below_step (by repeat (first | (with_reducible first | exact HB.out | apply below_alloc | apply pw_below_drewN | apply below_drew1 | refine below_set ?_ GE637.out) | exact HB.out)) hb); clear HO640; clear BK637; clear HB; have HO640 := n0_; have HO644 := n1_; have BK637 := n2_; have HB := n3_; clear n0_ n1_ n2_ n3_; (try clear hb); (try clear hb2); (try clear hk); (try clear hi); (try clear ho0); obtain ⟨Ao14, co14, eo14⟩ := Kd.R_slice HO640.out; subst eo14; obtain ⟨Ao15, co15, eo15⟩ := Kd.R_slice HO644.out; subst eo15) | ((with_reducible refine gate_callee (f := 24) rfl ?_); refine goesL_ (some 23) rfl rfl Try.func24 (by kernel_rfl) rfl #[.slice Ao14 t638.length co14, .slice Ao15 t642.length co15] rfl mp_ ?_; (with_reducible refine (clochelaw01_same.calls k _ _ t638 _ _ t642 true _ ?side1 ?side2 ?side3 ?side4 A5.out).mono ?_); (case side1 => repeat (first | exact (Kd.R_reads' HO640.out).2.2 | (with_reducible refine Kd.C_alloc ?_ _) | (with_reducible refine Kd.C_drewN ?_ _) | (with_reducible refine Kd.C_drew ?_))); (case side2 => exact (Kd.R_reads' HO640.out).2.1); (case side3 => repeat (first | exact (Kd.R_reads' HO644.out).2.2 | (with_reducible refine Kd.C_alloc ?_ _) | (with_reducible refine Kd.C_drewN ?_ _) | (with_reducible refine Kd.C_drew ?_))); (case side4 => exact (Kd.R_reads' HO644.out).2.1); rintro e w' ⟨rfl, ⟨nd, rfl⟩⟩; refine ⟨_, rfl, ?_⟩) | (go_at_call 19; (with_reducible refine (clochelaw01_alive.calls k  t647 _ A8.out).mono ?_); rintro e w16 ⟨rfl, hb⟩; have n0_ := Aside0.mk (Kd.R_below (by refine kr_ ?_; exact HO640.out) hb); have n1_ := Aside0.mk (Kd.R_below (by refine kr_ ?_; exact HO644.out) hb); have n2_ := Aside0.mk (blk_below (g := gb637) (o := .cells #[.int .i64 a0_0, .int .i64 a0_1, .int .i64 a0_2, .int .i64 a0_3] 23 (0, 0)) (by refine bs_ ?_; exact BK637.out) hb); have n3_ := Aside0.mk (below_step (by repeat (first | (with_reducible first | exact HB.out | apply below_alloc | apply pw_below_drewN | apply below_drew1 | refine below_set ?_ GE637.out) | exact HB.out)) hb); clear HO640; clear HO644; clear BK637; clear HB; have HO640 := n0_; have HO644 := n1_; have BK637 := n2_; have HB := n3_; clear n0_ n1_ n2_ n3_; (try clear hb); (try clear hb2); (try clear hk); (try clear hi)))
   go_ret
   exact ⟨by first | rfl | (simp [errW_none, errW_some] <;> rfl) | (simp [*, errW_none, errW_some] <;> rfl), by repeat (first | (with_reducible first | exact HB.out | apply below_alloc | apply pw_below_drewN | apply below_drew1 | refine below_set ?_ GE637.out) | exact HB.out)⟩
  ·rw [if_neg c7] at H
   exact absurd H (by simp)
 ·replace c6 := Bool.eq_false_iff.mpr c6
  subst c6
  have H1 : (none) = some r := by rw [if_neg (show ¬ (false = true) by decide)] at H; exact H
  clear H
  have H := H1
  clear H1
  exact absurd H (by simp)

/-! ### clochelaw01_gcd: function 38 -/
def clochelaw01_gcd.l0 : Nat → Int → Int → Option (Int)
 | 0, _, _ => none
 | k + 1, x0, x1 => if x1 = 0 then (some (mx x0 (wrap64 (-x0)))) else (clochelaw01_gcd.l0 k x1 (Int.tmod x0 x1))
def clochelaw01_gcd.f (k : Nat) (a0 : Int) (a1 : Int) : Option (Int) := clochelaw01_gcd.l0 k a0 a1
theorem clochelaw01_gcd.mono_l : ∀ k, (∀ y0 y1, LeO (clochelaw01_gcd.l0 k y0 y1) (clochelaw01_gcd.l0 (k + 1) y0 y1))
 | 0 => fun _ _ r h => by simp [clochelaw01_gcd.l0] at h
 | k + 1 => by
  have ih0 := clochelaw01_gcd.mono_l k
  ·intro y0 y1
   unfold clochelaw01_gcd.l0
   repeat' first
   | (with_reducible exact ih0 _ _)
   | (with_reducible exact LeO.refl _)
   | (with_reducible exact LeO.none _)
   | (with_reducible refine LeO.ite ?_ ?_)
   | (with_reducible refine LeO.bind ?_ (fun _ => ?_))
   | exact ih0 _ _
   | exact LeO.none _
   | refine LeO.ite ?_ ?_
   | refine LeO.bind ?_ (fun _ => ?_)
theorem clochelaw01_gcd.mono : ∀ a0 a1 k, LeO (clochelaw01_gcd.f k a0 a1) (clochelaw01_gcd.f (k + 1) a0 a1) := by
 intro a0 a1 k
 have ih0 := clochelaw01_gcd.mono_l k
 unfold clochelaw01_gcd.f
 repeat' first
   | (with_reducible exact ih0 _ _)
   | (with_reducible exact LeO.refl _)
   | (with_reducible exact LeO.none _)
   | (with_reducible refine LeO.ite ?_ ?_)
   | (with_reducible refine LeO.bind ?_ (fun _ => ?_))
   | exact ih0 _ _
   | exact LeO.none _
   | refine LeO.ite ?_ ?_
   | refine LeO.bind ?_ (fun _ => ?_)
theorem clochelaw01_gcd.calls (k : Nat) (a0 : Int) (a1 : Int) (r : Int) (w : World) (h : clochelaw01_gcd.f k a0 a1 = some r) :
  Calls Try.prog 38 #[.int .i64 a0, .int .i64 a1] w fun e w' => e = .returned (.int .i64 r) ∧ Below w.heap.size w w' := by
 have HB := Aside0.mk (Below.refl w.heap.size w)
 have H : (clochelaw01_gcd.l0 k a0 a1) = some r := h
 clear h
 have H' := Aside0.mk H
 clear H
 go_enter Try.func38, Try.ntmps38
 go_wp2
 go_loopg [0, 1] k (fun kq v0 v1 w' => ∃ (x0_1 : Int) (x1_1 : Int), v0 = .int .i64 x0_1 ∧ v1 = .int .i64 x1_1 ∧ Aside0 (clochelaw01_gcd.l0 kq x0_1 x1_1 = some r) ∧ Aside0 (kq ≤ k) ∧ Aside0 (Below w.heap.size w w'))
 case atStart => exact ⟨(a0), (a1), eq_, eq_, H', ⟨Nat.le_refl _⟩, ⟨by repeat (first | (with_reducible first | exact HB.out | apply below_alloc | apply pw_below_drewN | apply below_drew1) | exact HB.out)⟩⟩
 case round =>
  clear H'
  try clear p2
  obtain ⟨x0_1, x1_1, rfl, rfl, HA, HK1, HB⟩ := hrel
  cases gk with
  | zero => exact absurd HA.out (by simp [clochelaw01_gcd.l0])
  | succ k1 =>
   have H := HA.out
   clear HA
   simp only [clochelaw01_gcd.l0] at H
   by_cases c3 : x1_1 = 0
   ·rw [if_pos c3] at H
    have c3b0 : (x1_1 == 0) = true := beq_iff_eq.mpr c3
    have c3b1 : (x1_1 != 0) = false := bne_eq_false_iff_eq.mpr c3
    clear c3
    obtain ⟨ji4, hji4⟩ : ∃ j_ : Int, (mx x0_1 (wrap64 (-x0_1))) = j_ := ⟨_, rfl⟩
    replace H : (some ji4) = some r := by first | (rw [hji4] at H; exact H) | (simp only [hji4] at H ⊢; exact H)
    have hji4_ : (if x0_1 < (wrap64 (-x0_1)) then (wrap64 (-x0_1)) else x0_1) = ji4 := hji4
    obtain rfl := Option.some.inj H
    go_wp2
    go_ret
    exact ⟨by first | rfl | (simp [errW_none, errW_some] <;> rfl) | (simp only [← hji4]; first | rfl | (simp [errW_none, errW_some] <;> rfl)) | (simp [*, errW_none, errW_some] <;> rfl), by repeat (first | (with_reducible first | exact HB.out | apply below_alloc | apply pw_below_drewN | apply below_drew1) | exact HB.out)⟩
   ·rw [if_neg c3] at H
    have c3b0 : (x1_1 == 0) = false := beq_eq_false_iff_ne.mpr c3
    have c3b1 : (x1_1 != 0) = true := bne_iff_ne.mpr c3
    have H' := Aside0.mk H
    clear H
    go_wp2
    go_roundg k1
    case measure => have := HK1.out; omega
    case rel => exact ⟨(x1_1), (Int.tmod x0_1 x1_1), eq_, eq_, H', ⟨by have := HK1.out; omega⟩, ⟨by repeat (first | (with_reducible first | exact HB.out | apply below_alloc | apply pw_below_drewN | apply below_drew1) | exact HB.out)⟩⟩

end Go.Proofs.Ytlfmafebmnggeaa.Print
