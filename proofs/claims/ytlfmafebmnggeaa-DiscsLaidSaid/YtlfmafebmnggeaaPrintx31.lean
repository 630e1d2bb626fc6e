/- What the functions of the discs compute, printed by this repo's hand printer. -/
import Derived.Test.YtlfmafebmnggeaaShort
import Derived.Test.YtlfmafebmnggeaaPrintx0
import Derived.Test.YtlfmafebmnggeaaPrintx14
namespace Go.Proofs.Ytlfmafebmnggeaa.Print
open Go.RowKit Go.Proofs.YtlfmafebmnggeaaW.PrintWords Go.Proofs.YtlfmafebmnggeaaW.PrintLast Go.Proofs.YtlfmafebmnggeaaW.PrintMore
attribute [local go_sem] max2_int min2_int max_two min_two max_three min_three max_four min_four
set_option maxHeartbeats 8000000 -- slim
set_option maxRecDepth 100000
set_option linter.unusedVariables false
set_option linter.unusedSimpArgs false

/-! ### clocheref01_tally: function 53 -/
mutual
def clocheref01_tally.l0 : Nat → Int → Int → List Int → Int → Int → Int → Int → Int → Option (List Int)
 | 0, _, _, _, _, _, _, _, _ => none
 | k + 1, x1, x2, x3, x8, x607000, x607001, x607002, x607003 => if x8 < 4 then ((clocheref01_Turned.f k x607000 x607001 x607002 x607003 x8).bind fun t607 => (if x8 = x1 then (clocheref01_tally.l0 k x1 x2 x3 (wrap64 (x8 + 1)) x607000 x607001 x607002 x607003) else (if t607 > x2 then (clocheref01_tally.l0 k x1 x2 x3 (wrap64 (x8 + 1)) x607000 x607001 x607002 x607003) else (if 0 ≤ t607 then (if t607 < (x3.length : Int) then (if 0 ≤ x8 then ((clocheref01_tally.f k (pt4 0 x607000 x8 t607) (pt4 1 x607001 x8 t607) (pt4 2 x607002 x8 t607) (pt4 3 x607003 x8 t607) x8 x2 (x3.set (t607 : Int).toNat (wrap64 ((rd x3 t607) + 1)))).bind fun t611 => (clocheref01_tally.l0 k x1 x2 t611 (wrap64 (x8 + 1)) x607000 x607001 x607002 x607003)) else (none)) else (none)) else (none))))) else (some x3)
def clocheref01_tally.f : Nat → Int → Int → Int → Int → Int → Int → List Int → Option (List Int)
 | 0, _, _, _, _, _, _, _ => none
 | k + 1, a0_0, a0_1, a0_2, a0_3, a1, a2, l3 => clocheref01_tally.l0 k a1 a2 l3 0 a0_0 a0_1 a0_2 a0_3
end
theorem clocheref01_tally.mono_l : ∀ k, (∀ y0 y1 y2 y3 y4 y5 y6, LeO (clocheref01_tally.f k y0 y1 y2 y3 y4 y5 y6) (clocheref01_tally.f (k + 1) y0 y1 y2 y3 y4 y5 y6)) ∧ (∀ y0 y1 y2 y3 y4 y5 y6 y7, LeO (clocheref01_tally.l0 k y0 y1 y2 y3 y4 y5 y6 y7) (clocheref01_tally.l0 (k + 1) y0 y1 y2 y3 y4 y5 y6 y7))
 | 0 => ⟨fun _ _ _ _ _ _ _ r h => by simp [clocheref01_tally.f] at h, fun _ _ _ _ _ _ _ _ r h => by simp [clocheref01_tally.l0] at h⟩
 | k + 1 => by
  obtain ⟨ih0, ih1⟩ := clocheref01_tally.mono_l k
  refine ⟨?_, ?_⟩
  ·intro y0 y1 y2 y3 y4 y5 y6
   unfold clocheref01_tally.f
   repeat' first
   | (with_reducible exact ih0 _ _ _ _ _ _ _)
   | (with_reducible exact ih1 _ _ _ _ _ _ _ _)
   | (with_reducible exact clocheref01_Turned.mono _ _ _ _ _ _)
   | (with_reducible exact LeO.refl _)
   | (with_reducible exact LeO.none _)
   | (with_reducible refine LeO.ite ?_ ?_)
   | (with_reducible refine LeO.bind ?_ (fun _ => ?_))
   | exact ih0 _ _ _ _ _ _ _
   | exact ih1 _ _ _ _ _ _ _ _
   | exact clocheref01_Turned.mono _ _ _ _ _ _
   | exact LeO.none _
   | refine LeO.ite ?_ ?_
   | refine LeO.bind ?_ (fun _ => ?_)
  ·intro y0 y1 y2 y3 y4 y5 y6 y7
   unfold clocheref01_tally.l0
   repeat' first
   | (with_reducible exact ih0 _ _ _ _ _ _ _)
   | (with_reducible exact ih1 _ _ _ _ _ _ _ _)
   | (with_reducible exact clocheref01_Turned.mono _ _ _ _ _ _)
   | (with_reducible exact LeO.refl _)
   | (with_reducible exact LeO.none _)
   | (with_reducible refine LeO.ite ?_ ?_)
   | (with_reducible refine LeO.bind ?_ (fun _ => ?_))
   | exact ih0 _ _ _ _ _ _ _
   | exact ih1 _ _ _ _ _ _ _ _
   | exact clocheref01_Turned.mono _ _ _ _ _ _
   | exact LeO.none _
   | refine LeO.ite ?_ ?_
   | refine LeO.bind ?_ (fun _ => ?_)
theorem clocheref01_tally.mono : ∀ a0 a1 a2 a3 a4 a5 a6 k, LeO (clocheref01_tally.f k a0 a1 a2 a3 a4 a5 a6) (clocheref01_tally.f (k + 1) a0 a1 a2 a3 a4 a5 a6) := by
 intro a0 a1 a2 a3 a4 a5 a6 k
 obtain ⟨ih0, ih1⟩ := clocheref01_tally.mono_l k
 exact ih0 a0 a1 a2 a3 a4 a5 a6
theorem clocheref01_tally.calls (k : Nat) : ∀ (a0_0 : Int) (a0_1 : Int) (a0_2 : Int) (a0_3 : Int) (a1 : Int) (a2 : Int) (P3_ : Nat → Prop) (u9000_ : Value) (l3 : List Int) (r : List Int) (w0 w : World) (hB : Below w0.heap.size w0 w) (ho3 : Kd.R (Kd.int .i64) 3 w w0.heap.size P3_ u9000_ l3) (h : clocheref01_tally.f k a0_0 a0_1 a0_2 a0_3 a1 a2 l3 = some r),
  Calls Try.prog 53 #[.agg #[.int .i64 a0_0, .int .i64 a0_1, .int .i64 a0_2, .int .i64 a0_3], .int .i64 a1, .int .i64 a2, u9000_] w fun e w' => e = .returned (.tuple #[]) ∧ Kd.R (Kd.int .i64) 3 w' w0.heap.size (fun k_ => (P3_ k_ ∨ w.heap.size ≤ k_)) u9000_ r ∧ Below w0.heap.size w0 w' ∧ Kept w w' (fun k_ => P3_ k_) := by
 induction k using Nat.strongRecOn with
 | _ k ih =>
 intro a0_0 a0_1 a0_2 a0_3 a1 a2 P3_ u9000_ l3 r w0 w hB ho3 h
 cases k with
 | zero => exact absurd h (by simp [clocheref01_tally.f])
 | succ k =>
 simp only [clocheref01_tally.f] at h
 have hu23 := Try.underlying23
 have HO3 := Aside0.mk (show Kd.R (Kd.int .i64) 3 w w0.heap.size (fun k_ => (P3_ k_ ∨ w.heap.size ≤ k_)) u9000_ l3 from Kd.R_mono ho3 (fun k_ hk => (.inl hk)))
 have HK := Aside0.mk (Kept.refl w (fun k_ => P3_ k_))
 have HW0 := Aside0.mk hB.size
 have HB := Aside0.mk hB
 clear hB
 have H : (clocheref01_tally.l0 k a1 a2 l3 0 a0_0 a0_1 a0_2 a0_3) = some r := h
 clear h
 have H' := Aside0.mk H
 clear H
 go_enter Try.func53, Try.ntmps53
 go_wp2_with (first | ((with_reducible refine gate_dst (N := 4) rfl ?_); refine box_event ?hg (N := 4) ?hd (cs := #[.int .i64 a0_0, .int .i64 a0_1, .int .i64 a0_2, .int .i64 a0_3]) (t := 23) ?hr ?_; (case hd => rfl); (case hg => rfl); (case hr => exact gs_); intro gb606 hg w5 hbox hb; have n0_ := Aside0.mk (Kd.R_below (by refine kr_ ?_; exact HO3.out) hb); have n1_ := Aside0.mk (Kept.below (S := (fun k_ => P3_ k_)) (by repeat (first | (with_reducible first | exact HK.out | apply Kept.alloc | apply Kept.drewN | apply Kept.drew) | exact HK.out)) hb); have n2_ := Aside0.mk (below_step (lw_ HB.out) hb); have n3_ := Aside0.mk (hbox); have n4_ := Aside0.mk ((by rw [hg]; exact (by first | exact HK.out.1 | exact (show Kept w _ (fun k_ => P3_ k_) from by repeat (first | (with_reducible first | exact HK.out | apply Kept.alloc | apply Kept.drewN | apply Kept.drew) | exact HK.out)).1) : w.heap.size ≤ gb606)); have n5_ := Aside0.mk ((by rw [hg]; exact (below_size (lw_ HB.out)) : w0.heap.size ≤ gb606)); clear HO3; clear HK; clear HB; have HO3 := n0_; have HK := n1_; have HB := n2_; have BK606 := n3_; have GW606 := n4_; have GE606 := n5_; clear n0_ n1_ n2_ n3_ n4_ n5_; clear hb hbox hg))
 go_loopg [8] k (fun kq v8 w' => ∃ (x3_1 : List Int) (x8_1 : Int), v8 = .int .i64 x8_1 ∧ Aside0 (clocheref01_tally.l0 kq a1 a2 x3_1 x8_1 a0_0 a0_1 a0_2 a0_3 = some r) ∧ Aside0 (kq ≤ k) ∧ Aside0 (Kd.R (Kd.int .i64) 3 w' w0.heap.size (fun k_ => (P3_ k_ ∨ w.heap.size ≤ k_)) u9000_ x3_1) ∧ Aside0 (w'.heap[gb606]? = some (.cells #[.int .i64 a0_0, .int .i64 a0_1, .int .i64 a0_2, .int .i64 a0_3] 23 (0, 0))) ∧ Aside0 (Kept w w' (fun k_ => P3_ k_)) ∧ Aside0 (Below w0.heap.size w0 w'))
 case atStart => exact ⟨(l3), (0), eq_, H', ⟨Nat.le_refl _⟩, ⟨by refine kr_ ?_; exact HO3.out⟩, ⟨by refine bs_ ?_; exact BK606.out⟩, ⟨by repeat (first | (with_reducible first | exact HK.out | apply Kept.alloc | apply Kept.drewN | apply Kept.drew | refine Kept.setCell ?_ (.inr GW606.out) _) | exact HK.out)⟩, ⟨by repeat (first | (with_reducible first | exact HB.out | apply below_alloc | apply pw_below_drewN | apply below_drew1 | refine below_set ?_ GE606.out) | exact HB.out)⟩⟩
 case round =>
  clear H'
  try clear p2
  try clear c5
  obtain ⟨x3_1, x8_1, rfl, HA, HK1, HO_3, BK606, HK, HB⟩ := hrel
  cases gk with
  | zero => exact absurd HA.out (by simp [clocheref01_tally.l0])
  | succ k1 =>
   have H := HA.out
   clear HA
   simp only [clocheref01_tally.l0] at H
   by_cases c6 : x8_1 < 4
   ·rw [if_pos c6] at H
    have c6b0 : decide (x8_1 < 4) = true := decide_eq_true c6
    clear c6
    replace H := Option.bind_eq_some_iff.mp H
    obtain ⟨t607, A70, H⟩ := H
    replace H : (if x8_1 = a1 then (clocheref01_tally.l0 k1 a1 a2 x3_1 (wrap64 (x8_1 + 1)) a0_0 a0_1 a0_2 a0_3) else (if t607 > a2 then (clocheref01_tally.l0 k1 a1 a2 x3_1 (wrap64 (x8_1 + 1)) a0_0 a0_1 a0_2 a0_3) else (if 0 ≤ t607 then (if t607 < (x3_1.length : Int) then (if 0 ≤ x8_1 then ((clocheref01_tally.f k1 (pt4 0 a0_0 x8_1 t607) (pt4 1 a0_1 x8_1 t607) (pt4 2 a0_2 x8_1 t607) (pt4 3 a0_3 x8_1 t607) x8_1 a2 (x3_1.set (t607 : Int).toNat (wrap64 ((rd x3_1 t607) + 1)))).bind fun t611 => (clocheref01_tally.l0 k1 a1 a2 t611 (wrap64 (x8_1 + 1)) a0_0 a0_1 a0_2 a0_3)) else (none)) else (none)) else (none)))) = some r := H
    have A7 := Aside0.mk A70
    clear A70
    by_cases c8 : x8_1 = a1
    ·rw [if_pos c8] at H
     have c8b0 : (x8_1 == a1) = true := beq_iff_eq.mpr c8
     have c8b1 : (x8_1 != a1) = false := bne_eq_false_iff_eq.mpr c8
     clear c8
     have H' := Aside0.mk H
     clear H
     have hcz9_0 : wr.cell? ⟨gb606, 0, none⟩ = some (.int .i64 a0_0) := (blk_cell BK606.out 0).trans rfl
     have hcz9_1 : wr.cell? ⟨gb606, 1, none⟩ = some (.int .i64 a0_1) := (blk_cell BK606.out 1).trans rfl
     have hcz9_2 : wr.cell? ⟨gb606, 2, none⟩ = some (.int .i64 a0_2) := (blk_cell BK606.out 2).trans rfl
     have hcz9_3 : wr.cell? ⟨gb606, 3, none⟩ = some (.int .i64 a0_3) := (blk_cell BK606.out 3).trans rfl
     have hfz9_0 := blk_frozen BK606.out 0
     have hfz9_1 := blk_frozen BK606.out 1
     have hfz9_2 := blk_frozen BK606.out 2
     have hfz9_3 := blk_frozen BK606.out 3
     go_wp2_with (first | ((with_reducible refine gate_callee (f := 31) rfl ?_); refine goesL_ (some 17) rfl rfl Try.func31 (by kernel_rfl) rfl #[.agg #[.int .i64 a0_0, .int .i64 a0_1, .int .i64 a0_2, .int .i64 a0_3], .int .i64 x8_1] rfl mp_ ?_; (with_reducible refine (clocheref01_Turned.calls k1 a0_0 a0_1 a0_2 a0_3 x8_1 t607 _ A7.out).mono ?_); rintro e w10 ⟨rfl, hb⟩; refine ⟨_, rfl, ?_⟩; have n0_ := Aside0.mk (Kd.R_below (by refine kr_ ?_; exact HO_3.out) hb); have n1_ := Aside0.mk (blk_below (g := gb606) (o := .cells #[.int .i64 a0_0, .int .i64 a0_1, .int .i64 a0_2, .int .i64 a0_3] 23 (0, 0)) (by refine bs_ ?_; exact BK606.out) hb); have n2_ := Aside0.mk (Kept.below (S := (fun k_ => P3_ k_)) (by repeat (first | (with_reducible first | exact HK.out | apply Kept.alloc | apply Kept.drewN | apply Kept.drew | refine Kept.setCell ?_ (.inr GW606.out) _) | exact HK.out)) hb); have n3_ := Aside0.mk (below_step (by repeat (first | (with_reducible first | exact HB.out | apply below_alloc | apply pw_below_drewN | apply below_drew1 | refine below_set ?_ GE606.out) | exact HB.out)) hb); clear HO_3; clear BK606; clear HK; clear HB; have HO_3 := n0_; have BK606 := n1_; have HK := n2_; have HB := n3_; clear n0_ n1_ n2_ n3_; (try clear hb); (try clear hb2); (try clear hk); (try clear hi)))
     go_roundg k1
     case measure => have := HK1.out; omega
     case rel => exact ⟨(x3_1), (wrap64 (x8_1 + 1)), eq_, H', ⟨by have := HK1.out; omega⟩, ⟨by refine kr_ ?_; exact HO_3.out⟩, ⟨by refine bs_ ?_; exact BK606.out⟩, ⟨by repeat (first | (with_reducible first | exact HK.out | apply Kept.alloc | apply Kept.drewN | apply Kept.drew | refine Kept.setCell ?_ (.inr GW606.out) _) | exact HK.out)⟩, ⟨by repeat (first | (with_reducible first | exact HB.out | apply below_alloc | apply pw_below_drewN | apply below_drew1 | refine below_set ?_ GE606.out) | exact HB.out)⟩⟩
    ·rw [if_neg c8] at H
     have c8b0 : (x8_1 == a1) = false := beq_eq_false_iff_ne.mpr c8
     have c8b1 : (x8_1 != a1) = true := bne_iff_ne.mpr c8
     by_cases c11 : t607 > a2
     ·rw [if_pos c11] at H
      have c11b0 : decide (a2 < t607) = true := decide_eq_true c11
      clear c11
      have H' := Aside0.mk H
      clear H
      have hcz12_0 : wr.cell? ⟨gb606, 0, none⟩ = some (.int .i64 a0_0) := (blk_cell BK606.out 0).trans rfl
      have hcz12_1 : wr.cell? ⟨gb606, 1, none⟩ = some (.int .i64 a0_1) := (blk_cell BK606.out 1).trans rfl
      have hcz12_2 : wr.cell? ⟨gb606, 2, none⟩ = some (.int .i64 a0_2) := (blk_cell BK606.out 2).trans rfl
      have hcz12_3 : wr.cell? ⟨gb606, 3, none⟩ = some (.int .i64 a0_3) := (blk_cell BK606.out 3).trans rfl
      have hfz12_0 := blk_frozen BK606.out 0
      have hfz12_1 := blk_frozen BK606.out 1
      have hfz12_2 := blk_frozen BK606.out 2
      have hfz12_3 := blk_frozen BK606.out 3
      go_wp2_with (first | ((with_reducible refine gate_callee (f := 31) rfl ?_); refine goesL_ (some 17) rfl rfl Try.func31 (by kernel_rfl) rfl #[.agg #[.int .i64 a0_0, .int .i64 a0_1, .int .i64 a0_2, .int .i64 a0_3], .int .i64 x8_1] rfl mp_ ?_; (with_reducible refine (clocheref01_Turned.calls k1 a0_0 a0_1 a0_2 a0_3 x8_1 t607 _ A7.out).mono ?_); rintro e w13 ⟨rfl, hb⟩; refine ⟨_, rfl, ?_⟩; have n0_ := Aside0.mk (Kd.R_below (by refine kr_ ?_; exact HO_3.out) hb); have n1_ := Aside0.mk (blk_below (g := gb606) (o := .cells #[.int .i64 a0_0, .int .i64 a0_1, .int .i64 a0_2, .int .i64 a0_3] 23 (0, 0)) (by refine bs_ ?_; exact BK606.out) hb); have n2_ := Aside0.mk (Kept.below (S := (fun k_ => P3_ k_)) (by repeat (first | (with_reducible first | exact HK.out | apply Kept.alloc | apply Kept.drewN | apply Kept.drew | refine Kept.setCell ?_ (.inr GW606.out) _) | exact HK.out)) hb); have n3_ := Aside0.mk (below_step (by repeat (first | (with_reducible first | exact HB.out | apply below_alloc | apply pw_below_drewN | apply below_drew1 | refine below_set ?_ GE606.out) | exact HB.out)) hb); clear HO_3; clear BK606; clear HK; clear HB; have HO_3 := n0_; have BK606 := n1_; have HK := n2_; have HB := n3_; clear n0_ n1_ n2_ n3_; (try clear hb); (try clear hb2); (try clear hk); (try clear hi)))
      go_roundg k1
      case measure => have := HK1.out; omega
      case rel => exact ⟨(x3_1), (wrap64 (x8_1 + 1)), eq_, H', ⟨by have := HK1.out; omega⟩, ⟨by refine kr_ ?_; exact HO_3.out⟩, ⟨by refine bs_ ?_; exact BK606.out⟩, ⟨by repeat (first | (with_reducible first | exact HK.out | apply Kept.alloc | apply Kept.drewN | apply Kept.drew | refine Kept.setCell ?_ (.inr GW606.out) _) | exact HK.out)⟩, ⟨by repeat (first | (with_reducible first | exact HB.out | apply below_alloc | apply pw_below_drewN | apply below_drew1 | refine below_set ?_ GE606.out) | exact HB.out)⟩⟩
     ·rw [if_neg c11] at H
      have c11b0 : decide (a2 < t607) = false := decide_eq_false c11
      clear c11
      by_cases c14 : 0 ≤ t607
      ·rw [if_pos c14] at H
       have c14b0 : decide (0 ≤ t607) = true := decide_eq_true c14
       clear c14
       by_cases c15 : t607 < (x3_1.length : Int)
       ·rw [if_pos c15] at H
        have c15b0 : decide (t607 < (x3_1.length : Int)) = true := decide_eq_true c15
        clear c15
        obtain ⟨y609, hy609⟩ : ∃ y_ : List Int, y_ = (x3_1.set (t607 : Int).toNat (wrap64 ((rd x3_1 t607) + 1))) := ⟨_, rfl⟩
        replace H : (if 0 ≤ x8_1 then ((clocheref01_tally.f k1 (pt4 0 a0_0 x8_1 t607) (pt4 1 a0_1 x8_1 t607) (pt4 2 a0_2 x8_1 t607) (pt4 3 a0_3 x8_1 t607) x8_1 a2 y609).bind fun t611 => (clocheref01_tally.l0 k1 a1 a2 t611 (wrap64 (x8_1 + 1)) a0_0 a0_1 a0_2 a0_3)) else (none)) = some r := by first | (rw [hy609]; with_reducible exact H) | (have H2_ := (Option.bind_some _ _).symm.trans H; rw [hy609]; with_reducible exact H2_) | (have H2_ := (Option.bind_some _ _).symm.trans H; with_reducible exact H2_) | with_reducible exact H | (rw [hy609]; exact H) | exact H
        have Ny609 := Aside0.mk hy609
        clear hy609
        by_cases c17 : 0 ≤ x8_1
        ·rw [if_pos c17] at H
         have c17b0 : decide (0 ≤ x8_1) = true := decide_eq_true c17
         clear c17
         replace H := Option.bind_eq_some_iff.mp H
         obtain ⟨t611, A180, H⟩ := H
         replace H : (clocheref01_tally.l0 k1 a1 a2 t611 (wrap64 (x8_1 + 1)) a0_0 a0_1 a0_2 a0_3) = some r := H
         have A18 := Aside0.mk A180
         clear A180
         have H' := Aside0.mk H
         clear H
         have hcz19_0 : wr.cell? ⟨gb606, 0, none⟩ = some (.int .i64 a0_0) := (blk_cell BK606.out 0).trans rfl
         have hcz19_1 : wr.cell? ⟨gb606, 1, none⟩ = some (.int .i64 a0_1) := (blk_cell BK606.out 1).trans rfl
         have hcz19_2 : wr.cell? ⟨gb606, 2, none⟩ = some (.int .i64 a0_2) := (blk_cell BK606.out 2).trans rfl
         have hcz19_3 : wr.cell? ⟨gb606, 3, none⟩ = some (.int .i64 a0_3) := (blk_cell BK606.out 3).trans rfl
         have hfz19_0 := blk_frozen BK606.out 0
         have hfz19_1 := blk_frozen BK606.out 1
         have hfz19_2 := blk_frozen BK606.out 2
         have hfz19_3 := blk_frozen BK606.out 3
         go_wp2_with (first | ((with_reducible refine gate_callee (f := 31) rfl ?_); refine goesL_ (some 17) rfl rfl Try.func31 (by kernel_rfl) rfl #[.agg #[.int .i64 a0_0, .int .i64 a0_1, .int .i64 a0_2, .int .i64 a0_3], .int .i64 x8_1] rfl mp_ ?_; (with_reducible refine (clocheref01_Turned.calls k1 a0_0 a0_1 a0_2 a0_3 x8_1 t607 _ A7.out).mono ?_); rintro e w20 ⟨rfl, hb⟩; refine ⟨_, rfl, ?_⟩; have n0_ := Aside0.mk (Kd.R_below (by refine kr_ ?_; exact HO_3.out) hb); have n1_ := Aside0.mk (blk_below (g := gb606) (o := .cells #[.int .i64 a0_0, .int .i64 a0_1, .int .i64 a0_2, .int .i64 a0_3] 23 (0, 0)) (by refine bs_ ?_; exact BK606.out) hb); have n2_ := Aside0.mk (Kept.below (S := (fun k_ => P3_ k_)) (by repeat (first | (with_reducible first | exact HK.out | apply Kept.alloc | apply Kept.drewN | apply Kept.drew | refine Kept.setCell ?_ (.inr GW606.out) _) | exact HK.out)) hb); have n3_ := Aside0.mk (below_step (by repeat (first | (with_reducible first | exact HB.out | apply below_alloc | apply pw_below_drewN | apply below_drew1 | refine below_set ?_ GE606.out) | exact HB.out)) hb); clear HO_3; clear BK606; clear HK; clear HB; have HO_3 := n0_; have BK606 := n1_; have HK := n2_; have HB := n3_; clear n0_ n1_ n2_ n3_; (try clear hb); (try clear hb2); (try clear hk); (try clear hi); obtain ⟨Ao21, co21, eo21⟩ := Kd.R_slice HO_3.out; subst eo21; have p608 : 0 ≤ (t607 : Int) := of_decide_eq_true as_; have q608 : t607 < (x3_1.length : Int) := of_decide_eq_true as_; obtain ⟨ad608, e608, hx608_0⟩ := Kd.at_int (Kd.R_reads' HO_3.out).2.2 t607 p608 q608; cases e608; replace p608 := eq_true p608; replace q608 := eq_true q608; have p16 : 0 ≤ (t607 : Int) := of_decide_eq_true as_; have q16 : (t607 : Int) < ((x3_1.length : Int) : Int) := of_decide_eq_true as_; obtain ⟨go16, co16, eo16, gb16, gl16, cl16, HG16⟩ := Kd.R_form HO_3.out (by omega); (first | cases eo16 | (injection eo16 with ea_ en_ ec_; (first | subst ea_ | (injection ea_ with ea_; subst ea_)); subst ec_; clear en_)); have GB16 := Aside0.mk gb16; have GG16 := Aside0.mk HG16; clear gb16 gl16 HG16; have HMgo16 := Aside0.mk (show (P3_ go16 ∨ w.heap.size ≤ go16) from (HO_3.out.1 _ rfl)); (first | simp only [add_plain] at hx608_0 | skip); obtain ⟨hx16_0, hf16_0⟩ := Kd.R_celln 0 HO_3.out (t607 : Int) p16 q16; replace p16 := eq_true p16; replace q16 := eq_true q16; obtain ⟨hy22_, hz22_⟩ := Kd.R_celln 0 HO_3.out (t607 : Int) (of_decide_eq_true as_) (of_decide_eq_true as_); have HP22 := Kd.R_putg HO_3.out (t607 : Int) (wrap64 ((rd x3_1 t607) + 1))) | ((with_reducible refine gate_store (t := 3) (p := 31) rfl ?_); refine store_event (t := 3) (p := 31) (v := ?vo_w23) (w1 := (w20.setCell ⟨go16, (t607 : Int).toNat, none⟩ (.int .i64 (wrap64 ((rd x3_1 t607) + 1))))) ?hg ?ho ?hn ?hr ?_; (case ho => rfl); (case hg => rfl); (case hn => rfl); (case hr => exact gs_); intro w23 hw; have hg : w20.grownBy w23 (some go16) := (by rw [hw]; exact HP22.2); have hp_ : Kd.R (Kd.int .i64) 3 w23 w0.heap.size (fun k_ => (P3_ k_ ∨ w.heap.size ≤ k_)) (.slice (some ⟨go16, 0, none⟩) x3_1.length co21) y609 := (by rw [hw, Ny609.out]; exact HP22.1); clear HP22; have n0_ := Aside0.mk (hp_); have n1_ := Aside0.mk (blk_grown (g := gb606) (o := .cells #[.int .i64 a0_0, .int .i64 a0_1, .int .i64 a0_2, .int .i64 a0_3] 23 (0, 0)) (by refine bs_ ?_; exact BK606.out) hg (Kd.R_ne HO_3.out BK606.out (by decide))); have n2_ := Aside0.mk ((by rw [hw]; exact below_set (HB.out) GB16.out : Below w0.heap.size w0 w23)); have n3_ := Aside0.mk (Kept.of_grown (S := (fun k_ => P3_ k_)) hg (by repeat (first | (with_reducible first | exact HK.out | apply Kept.alloc | apply Kept.drewN | apply Kept.drew | refine Kept.setCell ?_ (.inr GW606.out) _) | exact HK.out)) (fun k_ e_ => (HO_3.out.1 k_ e_))); clear HO_3; clear BK606; clear HB; clear HK; have HO_3 := n0_; have BK606 := n1_; have HB := n2_; have HK := n3_; clear n0_ n1_ n2_ n3_; clear hg hw hp_; have hcz24_0 : w23.cell? ⟨gb606, 0, none⟩ = some (.int .i64 a0_0) := (blk_cell BK606.out 0).trans rfl; have hcz24_1 : w23.cell? ⟨gb606, 1, none⟩ = some (.int .i64 a0_1) := (blk_cell BK606.out 1).trans rfl; have hcz24_2 : w23.cell? ⟨gb606, 2, none⟩ = some (.int .i64 a0_2) := (blk_cell BK606.out 2).trans rfl; have hcz24_3 : w23.cell? ⟨gb606, 3, none⟩ = some (.int .i64 a0_3) := (blk_cell BK606.out 3).trans rfl; have hfz24_0 := blk_frozen BK606.out 0; have hfz24_1 := blk_frozen BK606.out 1; have hfz24_2 := blk_frozen BK606.out 2; have hfz24_3 := blk_frozen BK606.out 3) | ((with_reducible refine gate_dst (N := 10) rfl ?_); refine box_event ?hg (N := 10) ?hd (cs := #[.int .i64 0, .int .i64 0, .int .i64 0, .int .i64 0]) (t := 23) ?hr ?_; (case hd => rfl); (case hg => rfl); (case hr => exact gs_); intro gb610 hg w25 hbox hb; have n0_ := Aside0.mk (Kd.R_below (by refine kr_ ?_; exact HO_3.out) hb); have n1_ := Aside0.mk (blk_below (g := gb606) (o := .cells #[.int .i64 a0_0, .int .i64 a0_1, .int .i64 a0_2, .int .i64 a0_3] 23 (0, 0)) (by refine bs_ ?_; exact BK606.out) hb); have n2_ := Aside0.mk (Kept.below (S := (fun k_ => P3_ k_)) (by repeat (first | (with_reducible first | exact HK.out | apply Kept.alloc | apply Kept.drewN | apply Kept.drew | refine Kept.setCell ?_ (.inr GW606.out) _) | exact HK.out)) hb); have n3_ := Aside0.mk (below_step (by repeat (first | (with_reducible first | exact HB.out | apply below_alloc | apply pw_below_drewN | apply below_drew1 | refine below_set ?_ GE606.out) | exact HB.out)) hb); have n4_ := Aside0.mk (hbox); have n5_ := Aside0.mk ((by rw [hg]; exact (by first | exact HK.out.1 | exact (show Kept w _ (fun k_ => P3_ k_) from by repeat (first | (with_reducible first | exact HK.out | apply Kept.alloc | apply Kept.drewN | apply Kept.drew | refine Kept.setCell ?_ (.inr GW606.out) _) | exact HK.out)).1) : w.heap.size ≤ gb610)); have n6_ := Aside0.mk ((by rw [hg]; exact (below_size (by repeat (first | (with_reducible first | exact HB.out | apply below_alloc | apply pw_below_drewN | apply below_drew1 | refine below_set ?_ GE606.out) | exact HB.out))) : w0.heap.size ≤ gb610)); have n7_ := Aside0.mk ((by rw [hg]; exact Nat.ne_of_lt (blk_lt (g := gb606) (o := .cells #[.int .i64 a0_0, .int .i64 a0_1, .int .i64 a0_2, .int .i64 a0_3] 23 (0, 0)) (by refine bs_ ?_; exact BK606.out)) : gb606 ≠ gb610)); have n8_ := Aside0.mk ((by rw [hg]; exact Nat.ne_of_gt (blk_lt (g := gb606) (o := .cells #[.int .i64 a0_0, .int .i64 a0_1, .int .i64 a0_2, .int .i64 a0_3] 23 (0, 0)) (by refine bs_ ?_; exact BK606.out)) : gb610 ≠ gb606)); clear HO_3; clear BK606; clear HK; clear HB; have HO_3 := n0_; have BK606 := n1_; have HK := n2_; have HB := n3_; have BK610 := n4_; have GW610 := n5_; have GE610 := n6_; have NB606_610 := n7_; have NB610_606 := n8_; clear n0_ n1_ n2_ n3_ n4_ n5_ n6_ n7_ n8_; clear hb hbox hg; have hnb26 := NB610_606.out; have hnc26 := NB606_610.out; have hcz27_0 : w25.cell? ⟨gb610, 0, none⟩ = some (.int .i64 0) := (blk_cell BK610.out 0).trans rfl; have hcz27_1 : w25.cell? ⟨gb610, 1, none⟩ = some (.int .i64 0) := (blk_cell BK610.out 1).trans rfl; have hcz27_2 : w25.cell? ⟨gb610, 2, none⟩ = some (.int .i64 0) := (blk_cell BK610.out 2).trans rfl; have hcz27_3 : w25.cell? ⟨gb610, 3, none⟩ = some (.int .i64 0) := (blk_cell BK610.out 3).trans rfl; have hfz27_0 := blk_frozen BK610.out 0; have hfz27_1 := blk_frozen BK610.out 1; have hfz27_2 := blk_frozen BK610.out 2; have hfz27_3 := blk_frozen BK610.out 3) | ((with_reducible refine gate_store (t := 23) (p := 10) rfl ?_); refine store_event (t := 23) (p := 10) (v := ?vo_w28) (w1 := ((((w25.setCell ⟨gb610, 0, none⟩ (.int .i64 a0_0)).setCell ⟨gb610, 1, none⟩ (.int .i64 a0_1)).setCell ⟨gb610, 2, none⟩ (.int .i64 a0_2)).setCell ⟨gb610, 3, none⟩ (.int .i64 a0_3))) ?hg ?ho ?hn ?hr ?_; (case ho => rfl); (case hg => rfl); (case hn => rfl); (case hr => exact gs_); intro w28 hw; have n0_ : Aside0 (Kd.R (Kd.int .i64) 3 w28 w0.heap.size (fun k_ => (P3_ k_ ∨ w.heap.size ≤ k_)) (.slice (some ⟨go16, 0, none⟩) x3_1.length co21) y609) := ⟨(by rw [hw]; exact (by refine kr_ ?_; exact Kd.R_mono (Kd.R_far (p := ⟨gb610, 3, none⟩) (Kd.R_far (p := ⟨gb610, 2, none⟩) (Kd.R_far (p := ⟨gb610, 1, none⟩) (Kd.R_far (p := ⟨gb610, 0, none⟩) (Kd.R_types HO_3.out BK610.out (by decide)) (fun _ hk => hk.2) (.int .i64 a0_0)) (fun _ hk => hk.2) (.int .i64 a0_1)) (fun _ hk => hk.2) (.int .i64 a0_2)) (fun _ hk => hk.2) (.int .i64 a0_3)) (fun _ hk => hk.1)))⟩; have n1_ : Aside0 (w28.heap[gb606]? = some (.cells #[.int .i64 a0_0, .int .i64 a0_1, .int .i64 a0_2, .int .i64 a0_3] 23 (0, 0))) := ⟨(by rw [hw]; exact (by refine bs_ ?_; refine blk_far ?_ NB606_610.out _; refine bs_ ?_; refine blk_far ?_ NB606_610.out _; refine bs_ ?_; refine blk_far ?_ NB606_610.out _; refine bs_ ?_; refine blk_far ?_ NB606_610.out _; refine bs_ ?_; exact BK606.out))⟩; have n2_ : Aside0 (w28.heap[gb610]? = some (.cells #[.int .i64 a0_0, .int .i64 a0_1, .int .i64 a0_2, .int .i64 a0_3] 23 (0, 0))) := ⟨(by rw [hw]; exact (by refine bs_ ?_; refine blk_put (cs := #[.int .i64 a0_0, .int .i64 a0_1, .int .i64 a0_2, .int .i64 0]) ?_ 3 _ rfl; refine bs_ ?_; refine blk_put (cs := #[.int .i64 a0_0, .int .i64 a0_1, .int .i64 0, .int .i64 0]) ?_ 2 _ rfl; refine bs_ ?_; refine blk_put (cs := #[.int .i64 a0_0, .int .i64 0, .int .i64 0, .int .i64 0]) ?_ 1 _ rfl; refine bs_ ?_; refine blk_put (cs := #[.int .i64 0, .int .i64 0, .int .i64 0, .int .i64 0]) ?_ 0 _ rfl; refine bs_ ?_; exact BK610.out))⟩; have n3_ : Aside0 (Kept w w28 (fun k_ => P3_ k_)) := ⟨(by rw [hw]; exact (by repeat (first | (with_reducible first | exact HK.out | apply Kept.alloc | apply Kept.drewN | apply Kept.drew | refine Kept.setCell ?_ (.inr GW606.out) _ | refine Kept.setCell ?_ (.inr GW610.out) _) | exact HK.out)))⟩; have n4_ : Aside0 (Below w0.heap.size w0 w28) := ⟨(by rw [hw]; exact (by repeat (first | (with_reducible first | exact HB.out | apply below_alloc | apply pw_below_drewN | apply below_drew1 | refine below_set ?_ GE606.out | refine below_set ?_ GE610.out) | exact HB.out)))⟩; clear hw; clear HO_3; clear BK606; clear BK610; clear HK; clear HB; have HO_3 := n0_; have BK606 := n1_; have BK610 := n2_; have HK := n3_; have HB := n4_; clear n0_ n1_ n2_ n3_ n4_; have hcz30_0 : w28.cell? ⟨gb610, 0, none⟩ = some (.int .i64 a0_0) := (blk_cell BK610.out 0).trans rfl; have hcz30_1 : w28.cell? ⟨gb610, 1, none⟩ = some (.int .i64 a0_1) := (blk_cell BK610.out 1).trans rfl; have hcz30_2 : w28.cell? ⟨gb610, 2, none⟩ = some (.int .i64 a0_2) := (blk_cell BK610.out 2).trans rfl; have hcz30_3 : w28.cell? ⟨gb610, 3, none⟩ = some (.int .i64 a0_3) := (blk_cell BK610.out 3).trans rfl; have hfz30_0 := blk_frozen BK610.out 0; have hfz30_1 := blk_frozen BK610.out 1; have hfz30_2 := blk_frozen BK610.out 2; have hfz30_3 := blk_frozen BK610.out 3; have pdy29 : 0 ≤ (x8_1 : Int) := of_decide_eq_true as_; have qdy29 : (x8_1 : Int) < 4 := of_decide_eq_true as_; replace pdy29 := eq_true pdy29; replace qdy29 := eq_true qdy29; have hxdy29 : w28.cell? ⟨gb610, (x8_1 : Int).toNat, none⟩ = some (.int .i64 (at4 a0_0 a0_1 a0_2 a0_3 x8_1)) := blk_at4 BK610.out (of_eq_true pdy29) (of_eq_true qdy29); have hfdy29 := blk_frozen BK610.out (x8_1 : Int).toNat) | ((with_reducible refine gate_store (t := 3) (p := 35) rfl ?_); have hxdy29 : w28.cell? ⟨gb610, (x8_1 : Int).toNat, none⟩ = some (.int .i64 (at4 a0_0 a0_1 a0_2 a0_3 x8_1)) := blk_at4 BK610.out (of_eq_true pdy29) (of_eq_true qdy29); have hfdy29 := blk_frozen BK610.out (x8_1 : Int).toNat; refine store_event (t := 3) (p := 35) (v := ?vo_w31) (w1 := (w28.setCell ⟨gb610, (x8_1 : Int).toNat, none⟩ (.int .i64 t607))) ?hg ?ho ?hn ?hr ?_; (case ho => rfl); (case hg => rfl); (case hn => rfl); (case hr => exact gs_); intro w31 hw; have n0_ : Aside0 (Kd.R (Kd.int .i64) 3 w31 w0.heap.size (fun k_ => (P3_ k_ ∨ w.heap.size ≤ k_)) (.slice (some ⟨go16, 0, none⟩) x3_1.length co21) y609) := ⟨(by rw [hw]; exact (by refine kr_ ?_; exact Kd.R_mono (Kd.R_far (p := ⟨gb610, (x8_1 : Int).toNat, none⟩) (Kd.R_types HO_3.out BK610.out (by decide)) (fun _ hk => hk.2) (.int .i64 t607)) (fun _ hk => hk.1)))⟩; have n1_ : Aside0 (w31.heap[gb606]? = some (.cells #[.int .i64 a0_0, .int .i64 a0_1, .int .i64 a0_2, .int .i64 a0_3] 23 (0, 0))) := ⟨(by rw [hw]; exact (by refine bs_ ?_; refine blk_far ?_ NB606_610.out _; refine bs_ ?_; exact BK606.out))⟩; have n2_ : Aside0 (w31.heap[gb610]? = some (.cells #[.int .i64 (pt4 0 a0_0 x8_1 t607), .int .i64 (pt4 1 a0_1 x8_1 t607), .int .i64 (pt4 2 a0_2 x8_1 t607), .int .i64 (pt4 3 a0_3 x8_1 t607)] 23 (0, 0))) := ⟨(by rw [hw]; exact (by refine bs_ ?_; refine blk_put (cs := #[.int .i64 a0_0, .int .i64 a0_1, .int .i64 a0_2, .int .i64 a0_3]) ?_ (x8_1 : Int).toNat _ (set4i _ _ _ _ _ _ (of_eq_true pdy29) (of_eq_true qdy29)); refine bs_ ?_; exact BK610.out))⟩; have n3_ : Aside0 (Kept w w31 (fun k_ => P3_ k_)) := ⟨(by rw [hw]; exact (by repeat (first | (with_reducible first | exact HK.out | apply Kept.alloc | apply Kept.drewN | apply Kept.drew | refine Kept.setCell ?_ (.inr GW606.out) _ | refine Kept.setCell ?_ (.inr GW610.out) _) | exact HK.out)))⟩; have n4_ : Aside0 (Below w0.heap.size w0 w31) := ⟨(by rw [hw]; exact (by repeat (first | (with_reducible first | exact HB.out | apply below_alloc | apply pw_below_drewN | apply below_drew1 | refine below_set ?_ GE606.out | refine below_set ?_ GE610.out) | exact HB.out)))⟩; clear hw; clear HO_3; clear BK606; clear BK610; clear HK; clear HB; have HO_3 := n0_; have BK606 := n1_; have BK610 := n2_; have HK := n3_; have HB := n4_; clear n0_ n1_ n2_ n3_ n4_; have hcz32_0 : w31.cell? ⟨gb610, 0, none⟩ = some (.int .i64 (pt4 0 a0_0 x8_1 t607)) := (blk_cell BK610.out 0).trans rfl; have hcz32_1 : w31.cell? ⟨gb610, 1, none⟩ = some (.int .i64 (pt4 1 a0_1 x8_1 t607)) := (blk_cell BK610.out 1).trans rfl; have hcz32_2 : w31.cell? ⟨gb610, 2, none⟩ = some (.int .i64 (pt4 2 a0_2 x8_1 t607)) := (blk_cell BK610.out 2).trans rfl; have hcz32_3 : w31.cell? ⟨gb610, 3, none⟩ = some (.int .i64 (pt4 3 a0_3 x8_1 t607)) := (blk_cell BK610.out 3).trans rfl; have hfz32_0 := blk_frozen BK610.out 0; have hfz32_1 := blk_frozen BK610.out 1; have hfz32_2 := blk_frozen BK610.out 2; have hfz32_3 := blk_frozen BK610.out 3) | ((with_reducible refine gate_callee (f := 53) rfl ?_); refine goesL_ (some 40) rfl rfl Try.func53 (by kernel_rfl) rfl #[.agg #[.int .i64 (pt4 0 a0_0 x8_1 t607), .int .i64 (pt4 1 a0_1 x8_1 t607), .int .i64 (pt4 2 a0_2 x8_1 t607), .int .i64 (pt4 3 a0_3 x8_1 t607)], .int .i64 x8_1, .int .i64 a2, .slice (some ⟨go16, 0, none⟩) x3_1.length co21] rfl mp_ ?_; (with_reducible refine (ih k1 (by have := HK1.out; omega) (pt4 0 a0_0 x8_1 t607) (pt4 1 a0_1 x8_1 t607) (pt4 2 a0_2 x8_1 t607) (pt4 3 a0_3 x8_1 t607) x8_1 a2 (fun k_ => some k_ = (.slice (some ⟨go16, 0, none⟩) x3_1.length co21 : Value).ownBlock) (.slice (some ⟨go16, 0, none⟩) x3_1.length co21) y609 t611 w0 _ ?side1 ?side2 A18.out).mono ?_); (case side1 => repeat (first | (with_reducible first | exact HB.out | apply below_alloc | apply pw_below_drewN | apply below_drew1 | refine below_set ?_ GE606.out | refine below_set ?_ GE610.out) | exact HB.out)); (case side2 => exact Kd.R_tight rfl HO_3.out); rintro e w33 ⟨rfl, hy0, hb, hkp⟩; refine ⟨_, rfl, ?_⟩; have n0_ := Aside0.mk (Kd.R_reok rfl hy0 (fun k_ e_ => HO_3.out.1 k_ e_)); have n1_ := Aside0.mk (blk_kept (by refine bs_ ?_; exact BK606.out) hkp (fun hs_ => (fun e_ => (Kd.R_ne HO_3.out BK606.out (by decide)) e_) hs_)); have n2_ := Aside0.mk (blk_kept (by refine bs_ ?_; exact BK610.out) hkp (fun hs_ => (fun e_ => (Kd.R_ne HO_3.out BK610.out (by decide)) e_) hs_)); have n3_ := Aside0.mk (Kept.then_ (S := (fun k_ => P3_ k_)) (by repeat (first | (with_reducible first | exact HK.out | apply Kept.alloc | apply Kept.drewN | apply Kept.drew | refine Kept.setCell ?_ (.inr GW606.out) _ | refine Kept.setCell ?_ (.inr GW610.out) _) | exact HK.out)) hkp (fun k_ hs_ => (fun e_ => (HO_3.out.1 k_ e_.symm)) hs_)); have n4_ := Aside0.mk (hb); clear HO_3; clear BK606; clear BK610; clear HK; clear HB; have HO_3 := n0_; have BK606 := n1_; have BK610 := n2_; have HK := n3_; have HB := n4_; clear n0_ n1_ n2_ n3_ n4_; (try clear hb); (try clear hkp); (try clear hy0)))
         go_roundg k1
         case measure => have := HK1.out; omega
         case rel => exact ⟨(t611), (wrap64 (x8_1 + 1)), eq_, H', ⟨by have := HK1.out; omega⟩, ⟨by refine kr_ ?_; exact HO_3.out⟩, ⟨by refine bs_ ?_; exact BK606.out⟩, ⟨by repeat (first | (with_reducible first | exact HK.out | apply Kept.alloc | apply Kept.drewN | apply Kept.drew | refine Kept.setCell ?_ (.inr GW606.out) _ | refine Kept.setCell ?_ (.inr GW610.out) _) | exact HK.out)⟩, ⟨by repeat (first | (with_reducible first | exact HB.out | apply below_alloc | apply pw_below_drewN | apply below_drew1 | refine below_set ?_ GE606.out | refine below_set ?_ GE610.out) | exact HB.out)⟩⟩
        ·rw [if_neg c17] at H
         exact absurd H (by simp)
       ·rw [if_neg c15] at H
        exact absurd H (by simp)
      ·rw [if_neg c14] at H
       exact absurd H (by simp)
   ·rw [if_neg c6] at H
    have c6b0 : decide (x8_1 < 4) = false := decide_eq_false c6
    clear c6
    obtain rfl := Option.some.inj H
    go_wp2
    first | go_end0 | ((try simp only [Exit.inBlock, Exit.then]); refine bodyPost_ret (results_none rfl _ _ _) rfl ?_)
    exact ⟨by first | rfl | (simp [errW_none, errW_some] <;> rfl) | (simp [*, errW_none, errW_some] <;> rfl), by refine kr_ ?_; exact HO_3.out, by repeat (first | (with_reducible first | exact HB.out | apply below_alloc | apply pw_below_drewN | apply below_drew1 | refine below_set ?_ GE606.out) | exact HB.out), by repeat (first | (with_reducible first | exact HK.out | apply Kept.alloc | apply Kept.drewN | apply Kept.drew | refine Kept.setCell ?_ (.inr GW606.out) _) | exact HK.out)⟩

end Go.Proofs.Ytlfmafebmnggeaa.Print
