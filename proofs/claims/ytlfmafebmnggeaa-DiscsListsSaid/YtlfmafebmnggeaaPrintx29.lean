/- What the functions of the discs compute, printed by this repo's hand printer. -/
import Derived.Test.YtlfmafebmnggeaaShort
import Derived.Test.YtlfmafebmnggeaaPrintx0
import Derived.Test.YtlfmafebmnggeaaHandRoots
import Derived.Test.YtlfmafebmnggeaaPrintx1
import Derived.Test.YtlfmafebmnggeaaPrintx6
import Derived.Test.YtlfmafebmnggeaaPrintx28
namespace Go.Proofs.Ytlfmafebmnggeaa.Print
open Go.RowKit Go.Proofs.YtlfmafebmnggeaaW.PrintWords Go.Proofs.YtlfmafebmnggeaaW.PrintLast Go.Proofs.YtlfmafebmnggeaaW.PrintMore
attribute [local go_sem] max2_int min2_int max_two min_two max_three min_three max_four min_four
set_option maxHeartbeats 8000000 -- slim
set_option maxRecDepth 100000
set_option linter.unusedVariables false
set_option linter.unusedSimpArgs false

attribute [local go_sem high] eqA23
/-! ### clochelaw01_DiscsLists: function 4 -/
mutual
def clochelaw01_DiscsLists.j0 : Nat → List (S23) → List (S23) → Bool → Option (Bool)
 | 0, _, _, _ => none
 | k + 1, x3, x5, x27 => if x27 = true then (none) else (clochelaw01_DiscsLists.l0 k x3 x5 0)
def clochelaw01_DiscsLists.l0 : Nat → List (S23) → List (S23) → Int → Option (Bool)
 | 0, _, _, _ => none
 | k + 1, x3, x5, x7 => if x7 < (x3.length : Int) then (if 0 ≤ x7 then (if x7 < (x5.length : Int) then (if (!(((rd_T23 x3 x7).f0) == ((rd_T23 x5 x7).f0)) || (!(((rd_T23 x3 x7).f1) == ((rd_T23 x5 x7).f1)) || (!(((rd_T23 x3 x7).f2) == ((rd_T23 x5 x7).f2)) || (!(((rd_T23 x3 x7).f3) == ((rd_T23 x5 x7).f3)))))) = true then (none) else (clochelaw01_DiscsLists.l0 k x3 x5 (wrap64 (x7 + 1)))) else (none)) else (none)) else ((clochelaw01_alive.f k).bind fun t586 => (some t586))
end
def clochelaw01_DiscsLists.f (k : Nat) (a0 : Int) : Option (Bool) := (discs_Roots.f k a0).bind fun bt576 => ((clocheref01_Roots.f k a0).bind fun bt580 => (if (bt576.1.length : Int) = (bt580.1.length : Int) then (clochelaw01_DiscsLists.j0 k bt576.1 bt580.1 (bt576.2 != bt580.2)) else (none)))
theorem clochelaw01_DiscsLists.mono_l : ∀ k, (∀ y0 y1 y2, LeO (clochelaw01_DiscsLists.j0 k y0 y1 y2) (clochelaw01_DiscsLists.j0 (k + 1) y0 y1 y2)) ∧ (∀ y0 y1 y2, LeO (clochelaw01_DiscsLists.l0 k y0 y1 y2) (clochelaw01_DiscsLists.l0 (k + 1) y0 y1 y2))
 | 0 => ⟨fun _ _ _ r h => by simp [clochelaw01_DiscsLists.j0] at h, fun _ _ _ r h => by simp [clochelaw01_DiscsLists.l0] at h⟩
 | k + 1 => by
  obtain ⟨ih0, ih1⟩ := clochelaw01_DiscsLists.mono_l k
  refine ⟨?_, ?_⟩
  ·intro y0 y1 y2
   unfold clochelaw01_DiscsLists.j0
   repeat' first
   | (with_reducible exact ih0 _ _ _)
   | (with_reducible exact ih1 _ _ _)
   | (with_reducible exact clochelaw01_alive.mono _)
   | (with_reducible exact clocheref01_Roots.mono _ _)
   | (with_reducible exact discs_Roots.mono _ _)
   | (with_reducible exact LeO.refl _)
   | (with_reducible exact LeO.none _)
   | (with_reducible refine LeO.ite ?_ ?_)
   | (with_reducible refine LeO.bind ?_ (fun _ => ?_))
   | exact ih0 _ _ _
   | exact ih1 _ _ _
   | exact clochelaw01_alive.mono _
   | exact clocheref01_Roots.mono _ _
   | exact discs_Roots.mono _ _
   | exact LeO.none _
   | refine LeO.ite ?_ ?_
   | refine LeO.bind ?_ (fun _ => ?_)
  ·intro y0 y1 y2
   unfold clochelaw01_DiscsLists.l0
   repeat' first
   | (with_reducible exact ih0 _ _ _)
   | (with_reducible exact ih1 _ _ _)
   | (with_reducible exact clochelaw01_alive.mono _)
   | (with_reducible exact clocheref01_Roots.mono _ _)
   | (with_reducible exact discs_Roots.mono _ _)
   | (with_reducible exact LeO.refl _)
   | (with_reducible exact LeO.none _)
   | (with_reducible refine LeO.ite ?_ ?_)
   | (with_reducible refine LeO.bind ?_ (fun _ => ?_))
   | exact ih0 _ _ _
   | exact ih1 _ _ _
   | exact clochelaw01_alive.mono _
   | exact clocheref01_Roots.mono _ _
   | exact discs_Roots.mono _ _
   | exact LeO.none _
   | refine LeO.ite ?_ ?_
   | refine LeO.bind ?_ (fun _ => ?_)
theorem clochelaw01_DiscsLists.mono : ∀ a0 k, LeO (clochelaw01_DiscsLists.f k a0) (clochelaw01_DiscsLists.f (k + 1) a0) := by
 intro a0 k
 obtain ⟨ih0, ih1⟩ := clochelaw01_DiscsLists.mono_l k
 unfold clochelaw01_DiscsLists.f
 repeat' first
   | (with_reducible exact ih0 _ _ _)
   | (with_reducible exact ih1 _ _ _)
   | (with_reducible exact clochelaw01_alive.mono _)
   | (with_reducible exact clocheref01_Roots.mono _ _)
   | (with_reducible exact discs_Roots.mono _ _)
   | (with_reducible exact LeO.refl _)
   | (with_reducible exact LeO.none _)
   | (with_reducible refine LeO.ite ?_ ?_)
   | (with_reducible refine LeO.bind ?_ (fun _ => ?_))
   | exact ih0 _ _ _
   | exact ih1 _ _ _
   | exact clochelaw01_alive.mono _
   | exact clocheref01_Roots.mono _ _
   | exact discs_Roots.mono _ _
   | exact LeO.none _
   | refine LeO.ite ?_ ?_
   | refine LeO.bind ?_ (fun _ => ?_)
theorem clochelaw01_DiscsLists.calls (k : Nat) (a0 : Int) (r : Bool) (w : World) (h : clochelaw01_DiscsLists.f k a0 = some r) :
  Calls Try.prog 4 #[.int .i64 a0] w fun e w' => e = .returned (.bool r) ∧ Below w.heap.size w w' := by
 have hu23 := Try.underlying23
 have HB := Aside0.mk (Below.refl w.heap.size w)
 have H : ((discs_Roots.f k a0).bind fun bt576 => ((clocheref01_Roots.f k a0).bind fun bt580 => (if (bt576.1.length : Int) = (bt580.1.length : Int) then (clochelaw01_DiscsLists.j0 k bt576.1 bt580.1 (bt576.2 != bt580.2)) else (none)))) = some r := h
 clear h
 replace H := Option.bind_eq_some_iff.mp H
 obtain ⟨⟨t576, t577⟩, A20, H⟩ := H
 replace H : ((clocheref01_Roots.f k a0).bind fun bt580 => (if (t576.length : Int) = (bt580.1.length : Int) then (clochelaw01_DiscsLists.j0 k t576 bt580.1 (t577 != bt580.2)) else (none))) = some r := H
 have A2 := Aside0.mk A20
 clear A20
 replace H := Option.bind_eq_some_iff.mp H
 obtain ⟨⟨t580, t581⟩, A30, H⟩ := H
 replace H : (if (t576.length : Int) = (t580.length : Int) then (clochelaw01_DiscsLists.j0 k t576 t580 (t577 != t581)) else (none)) = some r := H
 have A3 := Aside0.mk A30
 clear A30
 have HC4 := Aside0.mk H
 clear H
 go_enter Try.func4, Try.ntmps4
 go_upto_region 3 with (first | (go_at_call 20; (with_reducible refine (discs_Roots.calls k a0 t576 t577 _ A2.out).mono ?_); rintro e w5 ⟨v578, rfl, ho0, hb⟩; have n0_ := Aside0.mk (Kd.R_lower ho0 (below_size (lw_ HB.out))); have n1_ := Aside0.mk (below_step (lw_ HB.out) hb); clear HB; have HO579 := n0_; have HB := n1_; clear n0_ n1_; (try clear hb); (try clear hb2); (try clear hk); (try clear hi); (try clear ho0)) | (go_at_call 21; (with_reducible refine (clocheref01_Roots.calls k a0 t580 t581 _ A3.out).mono ?_); rintro e w6 ⟨v582, rfl, ho0, hb⟩; have n0_ := Aside0.mk (Kd.R_elder' (by refine kr_ ?_; exact HO579.out) (Kd.R_base ho0) hb); have n1_ := Aside0.mk (Kd.R_lower (Kd.R_new' ho0 (Kd.R_lt (by refine kr_ ?_; exact HO579.out))) (below_size (lw_ HB.out))); have n2_ := Aside0.mk (below_step (lw_ HB.out) hb); clear HO579; clear HB; have HO579 := n0_; have HO583 := n1_; have HB := n2_; clear n0_ n1_ n2_; (try clear hb); (try clear hb2); (try clear hk); (try clear hi); (try clear ho0)))
 repeat (go_quiet (first | (go_at_call 20; (with_reducible refine (discs_Roots.calls k a0 t576 t577 _ A2.out).mono ?_); rintro e w5 ⟨v578, rfl, ho0, hb⟩; have n0_ := Aside0.mk (Kd.R_lower ho0 (below_size (lw_ HB.out))); have n1_ := Aside0.mk (below_step (lw_ HB.out) hb); clear HB; have HO579 := n0_; have HB := n1_; clear n0_ n1_; (try clear hb); (try clear hb2); (try clear hk); (try clear hi); (try clear ho0)) | (go_at_call 21; (with_reducible refine (clocheref01_Roots.calls k a0 t580 t581 _ A3.out).mono ?_); rintro e w6 ⟨v582, rfl, ho0, hb⟩; have n0_ := Aside0.mk (Kd.R_elder' (by refine kr_ ?_; exact HO579.out) (Kd.R_base ho0) hb); have n1_ := Aside0.mk (Kd.R_lower (Kd.R_new' ho0 (Kd.R_lt (by refine kr_ ?_; exact HO579.out))) (below_size (lw_ HB.out))); have n2_ := Aside0.mk (below_step (lw_ HB.out) hb); clear HO579; clear HB; have HO579 := n0_; have HO583 := n1_; have HB := n2_; clear n0_ n1_ n2_; (try clear hb); (try clear hb2); (try clear hk); (try clear hi); (try clear ho0))); go_upto_region 3 with (first | (go_at_call 20; (with_reducible refine (discs_Roots.calls k a0 t576 t577 _ A2.out).mono ?_); rintro e w5 ⟨v578, rfl, ho0, hb⟩; have n0_ := Aside0.mk (Kd.R_lower ho0 (below_size (lw_ HB.out))); have n1_ := Aside0.mk (below_step (lw_ HB.out) hb); clear HB; have HO579 := n0_; have HB := n1_; clear n0_ n1_; (try clear hb); (try clear hb2); (try clear hk); (try clear hi); (try clear ho0)) | (go_at_call 21; (with_reducible refine (clocheref01_Roots.calls k a0 t580 t581 _ A3.out).mono ?_); rintro e w6 ⟨v582, rfl, ho0, hb⟩; have n0_ := Aside0.mk (Kd.R_elder' (by refine kr_ ?_; exact HO579.out) (Kd.R_base ho0) hb); have n1_ := Aside0.mk (Kd.R_lower (Kd.R_new' ho0 (Kd.R_lt (by refine kr_ ?_; exact HO579.out))) (below_size (lw_ HB.out))); have n2_ := Aside0.mk (below_step (lw_ HB.out) hb); clear HO579; clear HB; have HO579 := n0_; have HO583 := n1_; have HB := n2_; clear n0_ n1_ n2_; (try clear hb); (try clear hb2); (try clear hk); (try clear hi); (try clear ho0))))
 (try simp only [Act.put, List.setIfInBounds_toArray, List.set_cons_zero, List.set_cons_succ])
 go_cut [27] (fun v27 wc => ∃ (kq : Nat) (x27_3 : Bool), v27 = .bool x27_3 ∧ Aside0 (clochelaw01_DiscsLists.j0 kq t576 t580 x27_3 = some r) ∧ Aside0 (kq ≤ k) ∧ Aside0 (Kd.R k23 23 wc w.heap.size (fun k_ => some k_ ≠ (v582 : Value).ownBlock) v578 t576) ∧ Aside0 (Kd.R k23 23 wc w.heap.size (fun k_ => some k_ ≠ (v578 : Value).ownBlock) v582 t580) ∧ Aside0 (Below w.heap.size w wc))
 case first =>
  have H := HC4.out
  clear HC4
  by_cases c7 : (t576.length : Int) = (t580.length : Int)
  ·rw [if_pos c7] at H
   have c7b0 : ((t576.length : Int) == (t580.length : Int)) = true := beq_iff_eq.mpr c7
   have c7b1 : ((t576.length : Int) != (t580.length : Int)) = false := bne_eq_false_iff_eq.mpr c7
   have c7b2 : (t576.length == t580.length) = true := by first | simpa using c7 | (simp at c7 ⊢; omega)
   clear c7
   (first | rw [c7b0] | (simp only [i64_w, i32_w]; rw [c7b0]) | skip)
   have H' := Aside0.mk H
   clear H
   obtain ⟨Ao8, co8, eo8⟩ := Kd.R_slice HO579.out
   subst eo8
   obtain ⟨Ao9, co9, eo9⟩ := Kd.R_slice HO583.out
   subst eo9
   go_wp2
   repeat (go_quiet (fail); try go_wp2)
   go_meet
   case rel => exact ⟨_, ((t577 != t581)), eq_, H', ⟨by first | omega | exact Nat.le_refl _⟩, ⟨by refine kr_ ?_; exact Kd.R_mono HO579.out (fun _ hk => hk.2)⟩, ⟨by refine kr_ ?_; exact Kd.R_mono HO583.out (fun _ hk => hk.2)⟩, ⟨by repeat (first | (with_reducible first | exact HB.out | apply below_alloc | apply pw_below_drewN | apply below_drew1) | exact HB.out)⟩⟩
  ·rw [if_neg c7] at H
   exact absurd H (by simp)
 case rest =>
  clear HC4
  try clear p2
  try clear c4
  try clear c7
  try clear c7b0
  try clear c7b1
  try clear c7b2
  obtain ⟨kq, x27_3, rfl, HA, HJ3, HO_3, HO_5, HB⟩ := hcut
  cases kq with
  | zero => exact absurd HA.out (by simp [clochelaw01_DiscsLists.j0])
  | succ kj3 =>
   have H := HA.out
   clear HA
   simp only [clochelaw01_DiscsLists.j0] at H
   by_cases c10 : x27_3 = true
   ·subst c10
    have H1 : (none) = some r := by rw [if_pos rfl] at H; exact H
    clear H
    have H := H1
    clear H1
    exact absurd H (by simp)
   ·replace c10 := Bool.eq_false_iff.mpr c10
    subst c10
    have H1 : (clochelaw01_DiscsLists.l0 kj3 t576 t580 0) = some r := by rw [if_neg (show ¬ (false = true) by decide)] at H; exact H
    clear H
    have H := H1
    clear H1
    have H' := Aside0.mk H
    clear H
    go_wp2
    repeat (go_quiet (fail); try go_wp2)
    go_loopg [7] kj3 (fun kq v7 w' => ∃ (x7_2 : Int), v7 = .int .i64 x7_2 ∧ Aside0 (clochelaw01_DiscsLists.l0 kq t576 t580 x7_2 = some r) ∧ Aside0 (kq ≤ kj3) ∧ Aside0 (Kd.R k23 23 w' w.heap.size (fun k_ => some k_ ≠ (v582 : Value).ownBlock) v578 t576) ∧ Aside0 (Kd.R k23 23 w' w.heap.size (fun k_ => some k_ ≠ (v578 : Value).ownBlock) v582 t580) ∧ Aside0 (Below w.heap.size w w'))
    case atStart => exact ⟨(0), eq_, H', ⟨Nat.le_refl _⟩, ⟨by refine kr_ ?_; exact HO_3.out⟩, ⟨by refine kr_ ?_; exact HO_5.out⟩, ⟨by repeat (first | (with_reducible first | exact HB.out | apply below_alloc | apply pw_below_drewN | apply below_drew1) | exact HB.out)⟩⟩
    case round =>
     clear H'
     try clear c1
     try clear p2
     try clear c4
     try clear c7
     try clear c7b0
     try clear c7b1
     try clear c7b2
     try clear c10
     try clear p2
     obtain ⟨x7_2, rfl, HA, HK2, HO_3, HO_5, HB⟩ := hrel
     cases gk with
     | zero => exact absurd HA.out (by simp [clochelaw01_DiscsLists.l0])
     | succ k2 =>
      have H := HA.out
      clear HA
      simp only [clochelaw01_DiscsLists.l0] at H
      by_cases c11 : x7_2 < (t576.length : Int)
      ·rw [if_pos c11] at H
       have c11b0 : decide (x7_2 < (t576.length : Int)) = true := decide_eq_true c11
       clear c11
       by_cases c12 : 0 ≤ x7_2
       ·rw [if_pos c12] at H
        have c12b0 : decide (0 ≤ x7_2) = true := decide_eq_true c12
        clear c12
        by_cases c13 : x7_2 < (t580.length : Int)
        ·rw [if_pos c13] at H
         have c13b0 : decide (x7_2 < (t580.length : Int)) = true := decide_eq_true c13
         clear c13
         by_cases c14 : (!(((rd_T23 t576 x7_2).f0) == ((rd_T23 t580 x7_2).f0)) || (!(((rd_T23 t576 x7_2).f1) == ((rd_T23 t580 x7_2).f1)) || (!(((rd_T23 t576 x7_2).f2) == ((rd_T23 t580 x7_2).f2)) || (!(((rd_T23 t576 x7_2).f3) == ((rd_T23 t580 x7_2).f3)))))) = true
         ·rw [if_pos c14] at H
          exact absurd H (by simp)
         ·rw [if_neg c14] at H
          have c14b0 : (!(((rd_T23 t576 x7_2).f0) == ((rd_T23 t580 x7_2).f0)) || (!(((rd_T23 t576 x7_2).f1) == ((rd_T23 t580 x7_2).f1)) || (!(((rd_T23 t576 x7_2).f2) == ((rd_T23 t580 x7_2).f2)) || (!(((rd_T23 t576 x7_2).f3) == ((rd_T23 t580 x7_2).f3)))))) = false := by simpa using c14
          clear c14
          have H' := Aside0.mk H
          clear H
          obtain ⟨Ao15, co15, eo15⟩ := Kd.R_slice HO_3.out
          subst eo15
          have p584 : 0 ≤ (x7_2 : Int) := of_decide_eq_true as_
          have q584 : x7_2 < (t576.length : Int) := of_decide_eq_true as_
          obtain ⟨ad584, e584, hx584_0, hx584_1, hx584_2, hx584_3⟩ := at_T23 (Kd.R_reads' HO_3.out).2.2 x7_2 p584 q584
          cases e584
          replace p584 := eq_true p584
          replace q584 := eq_true q584
          obtain ⟨Ao16, co16, eo16⟩ := Kd.R_slice HO_5.out
          subst eo16
          have p585 : 0 ≤ (x7_2 : Int) := of_decide_eq_true as_
          have q585 : x7_2 < (t580.length : Int) := of_decide_eq_true as_
          obtain ⟨ad585, e585, hx585_0, hx585_1, hx585_2, hx585_3⟩ := at_T23 (Kd.R_reads' HO_5.out).2.2 x7_2 p585 q585
          cases e585
          replace p585 := eq_true p585
          replace q585 := eq_true q585
          go_wp2
          repeat (go_quiet (fail); try go_wp2)
          go_roundg k2
          case measure => have := HJ3.out; have := HK2.out; omega
          case rel => exact ⟨(wrap64 (x7_2 + 1)), eq_, H', ⟨by have := HJ3.out; have := HK2.out; omega⟩, ⟨by refine kr_ ?_; exact HO_3.out⟩, ⟨by refine kr_ ?_; exact HO_5.out⟩, ⟨by repeat (first | (with_reducible first | exact HB.out | apply below_alloc | apply pw_below_drewN | apply below_drew1) | exact HB.out)⟩⟩
        ·rw [if_neg c13] at H
         exact absurd H (by simp)
       ·rw [if_neg c12] at H
        exact absurd H (by simp)
      ·rw [if_neg c11] at H
       have c11b0 : decide (x7_2 < (t576.length : Int)) = false := decide_eq_false c11
       clear c11
       replace H := Option.bind_eq_some_iff.mp H
       obtain ⟨t586, A170, H⟩ := H
       replace H : (some t586) = some r := H
       have A17 := Aside0.mk A170
       clear A170
       obtain rfl := Option.some.inj H
       obtain ⟨Ao18, co18, eo18⟩ := Kd.R_slice HO_3.out
       subst eo18
       go_wp2_with (first | (go_at_call 19; (with_reducible refine (clochelaw01_alive.calls k2  t586 _ A17.out).mono ?_); rintro e w19 ⟨rfl, hb⟩; have n0_ := Aside0.mk (Kd.R_below (by refine kr_ ?_; exact HO_3.out) hb); have n1_ := Aside0.mk (Kd.R_below (by refine kr_ ?_; exact HO_5.out) hb); have n2_ := Aside0.mk (below_step (lw_ HB.out) hb); clear HO_3; clear HO_5; clear HB; have HO_3 := n0_; have HO_5 := n1_; have HB := n2_; clear n0_ n1_ n2_; (try clear hb); (try clear hb2); (try clear hk); (try clear hi)))
       repeat (go_quiet (first | (go_at_call 19; (with_reducible refine (clochelaw01_alive.calls k2  t586 _ A17.out).mono ?_); rintro e w19 ⟨rfl, hb⟩; have n0_ := Aside0.mk (Kd.R_below (by refine kr_ ?_; exact HO_3.out) hb); have n1_ := Aside0.mk (Kd.R_below (by refine kr_ ?_; exact HO_5.out) hb); have n2_ := Aside0.mk (below_step (lw_ HB.out) hb); clear HO_3; clear HO_5; clear HB; have HO_3 := n0_; have HO_5 := n1_; have HB := n2_; clear n0_ n1_ n2_; (try clear hb); (try clear hb2); (try clear hk); (try clear hi))); try go_wp2_with (first | (go_at_call 19; (with_reducible refine (clochelaw01_alive.calls k2  t586 _ A17.out).mono ?_); rintro e w19 ⟨rfl, hb⟩; have n0_ := Aside0.mk (Kd.R_below (by refine kr_ ?_; exact HO_3.out) hb); have n1_ := Aside0.mk (Kd.R_below (by refine kr_ ?_; exact HO_5.out) hb); have n2_ := Aside0.mk (below_step (lw_ HB.out) hb); clear HO_3; clear HO_5; clear HB; have HO_3 := n0_; have HO_5 := n1_; have HB := n2_; clear n0_ n1_ n2_; (try clear hb); (try clear hb2); (try clear hk); (try clear hi))))
       go_ret
       exact ⟨by first | rfl | (simp [errW_none, errW_some] <;> rfl) | (simp [*, errW_none, errW_some] <;> rfl), by repeat (first | (with_reducible first | exact HB.out | apply below_alloc | apply pw_below_drewN | apply below_drew1) | exact HB.out)⟩

/-- THE ONE PURE STATEMENT of clochelaw01_DiscsLists: yours. -/
def clochelaw01_DiscsLists.Pure : Prop := ∀ (a0 : Int), (Lit.int .i64 a0).wf = true → ∃ k, clochelaw01_DiscsLists.f k a0 = some true
theorem clochelaw01_DiscsLists.walk (P : clochelaw01_DiscsLists.Pure) (a0 : Int) (w : World) (w0 : (Lit.int .i64 a0).wf = true) :
  Calls Try.prog 4 #[.int .i64 a0] w fun e w' => e = .returned (.bool true) ∧ Below w.heap.size w w' := by
 obtain ⟨k, h⟩ := P a0 w0
 refine (clochelaw01_DiscsLists.calls k a0 true w h).mono ?_
 rintro e w' ⟨rfl, hd⟩
 exact ⟨rfl, hd⟩

end Go.Proofs.Ytlfmafebmnggeaa.Print
