/- What the functions of the discs compute, printed by this repo's hand printer. -/
import Derived.Test.YtlfmafebmnggeaaShort
import Derived.Test.YtlfmafebmnggeaaPrintx0
import Derived.Test.YtlfmafebmnggeaaPrintx1
namespace Go.Proofs.Ytlfmafebmnggeaa.Print
open Go.RowKit Go.Proofs.YtlfmafebmnggeaaW.PrintWords Go.Proofs.YtlfmafebmnggeaaW.PrintLast Go.Proofs.YtlfmafebmnggeaaW.PrintMore
attribute [local go_sem] max2_int min2_int max_two min_two max_three min_three max_four min_four
set_option maxHeartbeats 8000000 -- slim
set_option maxRecDepth 100000
set_option linter.unusedVariables false
set_option linter.unusedSimpArgs false

attribute [local go_sem high] eqA23
/-! ### clochelaw01_less: function 34 -/
def clochelaw01_less.l0 : Nat → Int → Int → Int → Int → Int → Int → Int → Int → Int → Option (Bool)
 | 0, _, _, _, _, _, _, _, _, _ => none
 | k + 1, x5, x588000, x588001, x588002, x588003, x589000, x589001, x589002, x589003 => if x5 < 4 then (if 0 ≤ x5 then (if (at4 x588000 x588001 x588002 x588003 x5) = (at4 x589000 x589001 x589002 x589003 x5) then (clochelaw01_less.l0 k (wrap64 (x5 + 1)) x588000 x588001 x588002 x588003 x589000 x589001 x589002 x589003) else (some (decide ((at4 x588000 x588001 x588002 x588003 x5) < (at4 x589000 x589001 x589002 x589003 x5))))) else (none)) else (some false)
def clochelaw01_less.f (k : Nat) (a0_0 : Int) (a0_1 : Int) (a0_2 : Int) (a0_3 : Int) (a1_0 : Int) (a1_1 : Int) (a1_2 : Int) (a1_3 : Int) : Option (Bool) := clochelaw01_less.l0 k 0 a0_0 a0_1 a0_2 a0_3 a1_0 a1_1 a1_2 a1_3
theorem clochelaw01_less.mono_l : ∀ k, (∀ y0 y1 y2 y3 y4 y5 y6 y7 y8, LeO (clochelaw01_less.l0 k y0 y1 y2 y3 y4 y5 y6 y7 y8) (clochelaw01_less.l0 (k + 1) y0 y1 y2 y3 y4 y5 y6 y7 y8))
 | 0 => fun _ _ _ _ _ _ _ _ _ r h => by simp [clochelaw01_less.l0] at h
 | k + 1 => by
  have ih0 := clochelaw01_less.mono_l k
  ·intro y0 y1 y2 y3 y4 y5 y6 y7 y8
   unfold clochelaw01_less.l0
   repeat' first
   | (with_reducible exact ih0 _ _ _ _ _ _ _ _ _)
   | (with_reducible exact LeO.refl _)
   | (with_reducible exact LeO.none _)
   | (with_reducible refine LeO.ite ?_ ?_)
   | (with_reducible refine LeO.bind ?_ (fun _ => ?_))
   | exact ih0 _ _ _ _ _ _ _ _ _
   | exact LeO.none _
   | refine LeO.ite ?_ ?_
   | refine LeO.bind ?_ (fun _ => ?_)
theorem clochelaw01_less.mono : ∀ a0 a1 a2 a3 a4 a5 a6 a7 k, LeO (clochelaw01_less.f k a0 a1 a2 a3 a4 a5 a6 a7) (clochelaw01_less.f (k + 1) a0 a1 a2 a3 a4 a5 a6 a7) := by
 intro a0 a1 a2 a3 a4 a5 a6 a7 k
 have ih0 := clochelaw01_less.mono_l k
 unfold clochelaw01_less.f
 repeat' first
   | (with_reducible exact ih0 _ _ _ _ _ _ _ _ _)
   | (with_reducible exact LeO.refl _)
   | (with_reducible exact LeO.none _)
   | (with_reducible refine LeO.ite ?_ ?_)
   | (with_reducible refine LeO.bind ?_ (fun _ => ?_))
   | exact ih0 _ _ _ _ _ _ _ _ _
   | exact LeO.none _
   | refine LeO.ite ?_ ?_
   | refine LeO.bind ?_ (fun _ => ?_)
theorem clochelaw01_less.calls (k : Nat) (a0_0 : Int) (a0_1 : Int) (a0_2 : Int) (a0_3 : Int) (a1_0 : Int) (a1_1 : Int) (a1_2 : Int) (a1_3 : Int) (r : Bool) (w : World) (h : clochelaw01_less.f k a0_0 a0_1 a0_2 a0_3 a1_0 a1_1 a1_2 a1_3 = some r) :
  Calls Try.prog 34 #[.agg #[.int .i64 a0_0, .int .i64 a0_1, .int .i64 a0_2, .int .i64 a0_3], .agg #[.int .i64 a1_0, .int .i64 a1_1, .int .i64 a1_2, .int .i64 a1_3]] w fun e w' => e = .returned (.bool r) ∧ Below w.heap.size w w' := by
 have hu23 := Try.underlying23
 have HB := Aside0.mk (Below.refl w.heap.size w)
 have H : (clochelaw01_less.l0 k 0 a0_0 a0_1 a0_2 a0_3 a1_0 a1_1 a1_2 a1_3) = some r := h
 clear h
 have H' := Aside0.mk H
 clear H
 go_enter Try.func34, Try.ntmps34
 go_wp2_with (first | ((with_reducible refine gate_dst (N := 2) rfl ?_); refine box_event ?hg (N := 2) ?hd (cs := #[.int .i64 a0_0, .int .i64 a0_1, .int .i64 a0_2, .int .i64 a0_3]) (t := 23) ?hr ?_; (case hd => rfl); (case hg => rfl); (case hr => exact gs_); intro gb587 hg w3 hbox hb; have n0_ := Aside0.mk (below_step (lw_ HB.out) hb); have n1_ := Aside0.mk (hbox); have n2_ := Aside0.mk ((by rw [hg]; exact (below_size (lw_ HB.out)) : w.heap.size ≤ gb587)); have n3_ := Aside0.mk ((by rw [hg]; exact (below_size (lw_ HB.out)) : w.heap.size ≤ gb587)); clear HB; have HB := n0_; have BK587 := n1_; have GW587 := n2_; have GE587 := n3_; clear n0_ n1_ n2_ n3_; clear hb hbox hg) | ((with_reducible refine gate_dst (N := 3) rfl ?_); refine box_event ?hg (N := 3) ?hd (cs := #[.int .i64 a1_0, .int .i64 a1_1, .int .i64 a1_2, .int .i64 a1_3]) (t := 23) ?hr ?_; (case hd => rfl); (case hg => rfl); (case hr => exact gs_); intro gb588 hg w4 hbox hb; have n0_ := Aside0.mk (blk_below (g := gb587) (o := .cells #[.int .i64 a0_0, .int .i64 a0_1, .int .i64 a0_2, .int .i64 a0_3] 23 (0, 0)) (by refine bs_ ?_; exact BK587.out) hb); have n1_ := Aside0.mk (below_step (by repeat (first | (with_reducible first | exact HB.out | apply below_alloc | apply pw_below_drewN | apply below_drew1 | refine below_set ?_ GE587.out) | exact HB.out)) hb); have n2_ := Aside0.mk (hbox); have n3_ := Aside0.mk ((by rw [hg]; exact (below_size (by repeat (first | (with_reducible first | exact HB.out | apply below_alloc | apply pw_below_drewN | apply below_drew1 | refine below_set ?_ GE587.out) | exact HB.out))) : w.heap.size ≤ gb588)); have n4_ := Aside0.mk ((by rw [hg]; exact (below_size (by repeat (first | (with_reducible first | exact HB.out | apply below_alloc | apply pw_below_drewN | apply below_drew1 | refine below_set ?_ GE587.out) | exact HB.out))) : w.heap.size ≤ gb588)); have n5_ := Aside0.mk ((by rw [hg]; exact Nat.ne_of_lt (blk_lt (g := gb587) (o := .cells #[.int .i64 a0_0, .int .i64 a0_1, .int .i64 a0_2, .int .i64 a0_3] 23 (0, 0)) (by refine bs_ ?_; exact BK587.out)) : gb587 ≠ gb588)); have n6_ := Aside0.mk ((by rw [hg]; exact Nat.ne_of_gt (blk_lt (g := gb587) (o := .cells #[.int .i64 a0_0, .int .i64 a0_1, .int .i64 a0_2, .int .i64 a0_3] 23 (0, 0)) (by refine bs_ ?_; exact BK587.out)) : gb588 ≠ gb587)); clear BK587; clear HB; have BK587 := n0_; have HB := n1_; have BK588 := n2_; have GW588 := n3_; have GE588 := n4_; have NB587_588 := n5_; have NB588_587 := n6_; clear n0_ n1_ n2_ n3_ n4_ n5_ n6_; clear hb hbox hg))
 repeat (go_quiet (first | ((with_reducible refine gate_dst (N := 2) rfl ?_); refine box_event ?hg (N := 2) ?hd (cs := #[.int .i64 a0_0, .int .i64 a0_1, .int .i64 a0_2, .int .i64 a0_3]) (t := 23) ?hr ?_; (case hd => rfl); (case hg => rfl); (case hr => exact gs_); intro gb587 hg w3 hbox hb; have n0_ := Aside0.mk (below_step (lw_ HB.out) hb); have n1_ := Aside0.mk (hbox); have n2_ := Aside0.mk ((by rw [hg]; exact (below_size (lw_ HB.out)) : w.heap.size ≤ gb587)); have n3_ := Aside0.mk ((by rw [hg]; exact (below_size (lw_ HB.out)) : w.heap.size ≤ gb587)); clear HB; have HB := n0_; have BK587 := n1_; have GW587 := n2_; have GE587 := n3_; clear n0_ n1_ n2_ n3_; clear hb hbox hg) | ((with_reducible refine gate_dst (N := 3) rfl ?_); refine box_event ?hg (N := 3) ?hd (cs := #[.int .i64 a1_0, .int .i64 a1_1, .int .i64 a1_2, .int .i64 a1_3]) (t := 23) ?hr ?_; (case hd => rfl); (case hg => rfl); (case hr => exact gs_); intro gb588 hg w4 hbox hb; have n0_ := Aside0.mk (blk_below (g := gb587) (o := .cells #[.int .i64 a0_0, .int .i64 a0_1, .int .i64 a0_2, .int .i64 a0_3] 23 (0, 0)) (by refine bs_ ?_; exact BK587.out) hb); have n1_ := Aside0.mk (below_step (by repeat (first | (with_reducible first | exact HB.out | apply below_alloc | apply pw_below_drewN | apply below_drew1 | refine below_set ?_ GE587.out) | exact HB.out)) hb); have n2_ := Aside0.mk (hbox); have n3_ := Aside0.mk ((by rw [hg]; exact (below_size (by repeat (first | (with_reducible first | exact HB.out | apply below_alloc | apply pw_below_drewN | apply below_drew1 | refine below_set ?_ GE587.out) | exact HB.out))) : w.heap.size ≤ gb588)); have n4_ := Aside0.mk ((by rw [hg]; exact (below_size (by repeat (first | (with_reducible first | exact HB.out | apply below_alloc | apply pw_below_drewN | apply below_drew1 | refine below_set ?_ GE587.out) | exact HB.out))) : w.heap.size ≤ gb588)); have n5_ := Aside0.mk ((by rw [hg]; exact Nat.ne_of_lt (blk_lt (g := gb587) (o := .cells #[.int .i64 a0_0, .int .i64 a0_1, .int .i64 a0_2, .int .i64 a0_3] 23 (0, 0)) (by refine bs_ ?_; exact BK587.out)) : gb587 ≠ gb588)); have n6_ := Aside0.mk ((by rw [hg]; exact Nat.ne_of_gt (blk_lt (g := gb587) (o := .cells #[.int .i64 a0_0, .int .i64 a0_1, .int .i64 a0_2, .int .i64 a0_3] 23 (0, 0)) (by refine bs_ ?_; exact BK587.out)) : gb588 ≠ gb587)); clear BK587; clear HB; have BK587 := n0_; have HB := n1_; have BK588 := n2_; have GW588 := n3_; have GE588 := n4_; have NB587_588 := n5_; have NB588_587 := n6_; clear n0_ n1_ n2_ n3_ n4_ n5_ n6_; clear hb hbox hg)); try go_wp2_with (first | ((with_reducible refine gate_dst (N := 2) rfl ?_); refine box_event ?hg (N := 2) ?hd (cs := #[.int .i64 a0_0, .int .i64 a0_1, .int .i64 a0_2, .int .i64 a0_3]) (t := 23) ?hr ?_; (case hd => rfl); (case hg => rfl); (case hr => exact gs_); intro gb587 hg w3 hbox hb; have n0_ := Aside0.mk (below_step (lw_ HB.out) hb); have n1_ := Aside0.mk (hbox); have n2_ := Aside0.mk ((by rw [hg]; exact (below_size (lw_ HB.out)) : w.heap.size ≤ gb587)); have n3_ := Aside0.mk ((by rw [hg]; exact (below_size (lw_ HB.out)) : w.heap.size ≤ gb587)); clear HB; have HB := n0_; have BK587 := n1_; have GW587 := n2_; have GE587 := n3_; clear n0_ n1_ n2_ n3_; clear hb hbox hg) | ((with_reducible refine gate_dst (N := 3) rfl ?_); refine box_event ?hg (N := 3) ?hd (cs := #[.int .i64 a1_0, .int .i64 a1_1, .int .i64 a1_2, .int .i64 a1_3]) (t := 23) ?hr ?_; (case hd => rfl); (case hg => rfl); (case hr => exact gs_); intro gb588 hg w4 hbox hb; have n0_ := Aside0.mk (blk_below (g := gb587) (o := .cells #[.int .i64 a0_0, .int .i64 a0_1, .int .i64 a0_2, .int .i64 a0_3] 23 (0, 0)) (by refine bs_ ?_; exact BK587.out) hb); have n1_ := Aside0.mk (below_step (by repeat (first | (with_reducible first | exact HB.out | apply below_alloc | apply pw_below_drewN | apply below_drew1 | refine below_set ?_ GE587.out) | exact HB.out)) hb); have n2_ := Aside0.mk (hbox); have n3_ := Aside0.mk ((by rw [hg]; exact (below_size (by repeat (first | (with_reducible first | exact HB.out | apply below_alloc | apply pw_below_drewN | apply below_drew1 | refine below_set ?_ GE587.out) | exact HB.out))) : w.heap.size ≤ gb588)); have n4_ := Aside0.mk ((by rw [hg]; exact (below_size (by repeat (first | (with_reducible first | exact HB.out | apply below_alloc | apply pw_below_drewN | apply below_drew1 | refine below_set ?_ GE587.out) | exact HB.out))) : w.heap.size ≤ gb588)); have n5_ := Aside0.mk ((by rw [hg]; exact Nat.ne_of_lt (blk_lt (g := gb587) (o := .cells #[.int .i64 a0_0, .int .i64 a0_1, .int .i64 a0_2, .int .i64 a0_3] 23 (0, 0)) (by refine bs_ ?_; exact BK587.out)) : gb587 ≠ gb588)); have n6_ := Aside0.mk ((by rw [hg]; exact Nat.ne_of_gt (blk_lt (g := gb587) (o := .cells #[.int .i64 a0_0, .int .i64 a0_1, .int .i64 a0_2, .int .i64 a0_3] 23 (0, 0)) (by refine bs_ ?_; exact BK587.out)) : gb588 ≠ gb587)); clear BK587; clear HB; have BK587 := n0_; have HB := n1_; have BK588 := n2_; have GW588 := n3_; have GE588 := n4_; have NB587_588 := n5_; have NB588_587 := n6_; clear n0_ n1_ n2_ n3_ n4_ n5_ n6_; clear hb hbox hg)))
 go_loopg [5] k (fun kq v5 w' => ∃ (x5_1 : Int), v5 = .int .i64 x5_1 ∧ Aside0 (clochelaw01_less.l0 kq x5_1 a0_0 a0_1 a0_2 a0_3 a1_0 a1_1 a1_2 a1_3 = some r) ∧ Aside0 (kq ≤ k) ∧ Aside0 (w'.heap[gb587]? = some (.cells #[.int .i64 a0_0, .int .i64 a0_1, .int .i64 a0_2, .int .i64 a0_3] 23 (0, 0))) ∧ Aside0 (w'.heap[gb588]? = some (.cells #[.int .i64 a1_0, .int .i64 a1_1, .int .i64 a1_2, .int .i64 a1_3] 23 (0, 0))) ∧ Aside0 (Below w.heap.size w w'))
 case atStart => exact ⟨(0), eq_, H', ⟨Nat.le_refl _⟩, ⟨by refine bs_ ?_; exact BK587.out⟩, ⟨by refine bs_ ?_; exact BK588.out⟩, ⟨by repeat (first | (with_reducible first | exact HB.out | apply below_alloc | apply pw_below_drewN | apply below_drew1 | refine below_set ?_ GE587.out | refine below_set ?_ GE588.out) | exact HB.out)⟩⟩
 case round =>
  clear H'
  try clear p2
  try clear c3
  obtain ⟨x5_1, rfl, HA, HK1, BK587, BK588, HB⟩ := hrel
  cases gk with
  | zero => exact absurd HA.out (by simp [clochelaw01_less.l0])
  | succ k1 =>
   have H := HA.out
   clear HA
   simp only [clochelaw01_less.l0] at H
   by_cases c5 : x5_1 < 4
   ·rw [if_pos c5] at H
    have c5b0 : decide (x5_1 < 4) = true := decide_eq_true c5
    clear c5
    by_cases c6 : 0 ≤ x5_1
    ·rw [if_pos c6] at H
     have c6b0 : decide (0 ≤ x5_1) = true := decide_eq_true c6
     clear c6
     by_cases c7 : (at4 a0_0 a0_1 a0_2 a0_3 x5_1) = (at4 a1_0 a1_1 a1_2 a1_3 x5_1)
     ·rw [if_pos c7] at H
      have c7b0 : ((at4 a0_0 a0_1 a0_2 a0_3 x5_1) == (at4 a1_0 a1_1 a1_2 a1_3 x5_1)) = true := beq_iff_eq.mpr c7
      have c7b1 : ((at4 a0_0 a0_1 a0_2 a0_3 x5_1) != (at4 a1_0 a1_1 a1_2 a1_3 x5_1)) = false := bne_eq_false_iff_eq.mpr c7
      clear c7
      have H' := Aside0.mk H
      clear H
      have hnb9 := NB587_588.out
      have hnc9 := NB588_587.out
      have hcz10_0 : wr.cell? ⟨gb587, 0, none⟩ = some (.int .i64 a0_0) := (blk_cell BK587.out 0).trans rfl
      have hcz10_1 : wr.cell? ⟨gb587, 1, none⟩ = some (.int .i64 a0_1) := (blk_cell BK587.out 1).trans rfl
      have hcz10_2 : wr.cell? ⟨gb587, 2, none⟩ = some (.int .i64 a0_2) := (blk_cell BK587.out 2).trans rfl
      have hcz10_3 : wr.cell? ⟨gb587, 3, none⟩ = some (.int .i64 a0_3) := (blk_cell BK587.out 3).trans rfl
      have hfz10_0 := blk_frozen BK587.out 0
      have hfz10_1 := blk_frozen BK587.out 1
      have hfz10_2 := blk_frozen BK587.out 2
      have hfz10_3 := blk_frozen BK587.out 3
      have pdy8 : 0 ≤ (x5_1 : Int) := of_decide_eq_true as_
      have qdy8 : (x5_1 : Int) < 4 := of_decide_eq_true as_
      replace pdy8 := eq_true pdy8
      replace qdy8 := eq_true qdy8
      have hxdy8 : wr.cell? ⟨gb587, (x5_1 : Int).toNat, none⟩ = some (.int .i64 (at4 a0_0 a0_1 a0_2 a0_3 x5_1)) := blk_at4 BK587.out (of_eq_true pdy8) (of_eq_true qdy8)
      have hfdy8 := blk_frozen BK587.out (x5_1 : Int).toNat
      have hcz12_0 : wr.cell? ⟨gb588, 0, none⟩ = some (.int .i64 a1_0) := (blk_cell BK588.out 0).trans rfl
      have hcz12_1 : wr.cell? ⟨gb588, 1, none⟩ = some (.int .i64 a1_1) := (blk_cell BK588.out 1).trans rfl
      have hcz12_2 : wr.cell? ⟨gb588, 2, none⟩ = some (.int .i64 a1_2) := (blk_cell BK588.out 2).trans rfl
      have hcz12_3 : wr.cell? ⟨gb588, 3, none⟩ = some (.int .i64 a1_3) := (blk_cell BK588.out 3).trans rfl
      have hfz12_0 := blk_frozen BK588.out 0
      have hfz12_1 := blk_frozen BK588.out 1
      have hfz12_2 := blk_frozen BK588.out 2
      have hfz12_3 := blk_frozen BK588.out 3
      have pdy11 : 0 ≤ (x5_1 : Int) := of_decide_eq_true as_
      have qdy11 : (x5_1 : Int) < 4 := of_decide_eq_true as_
      replace pdy11 := eq_true pdy11
      replace qdy11 := eq_true qdy11
      have hxdy11 : wr.cell? ⟨gb588, (x5_1 : Int).toNat, none⟩ = some (.int .i64 (at4 a1_0 a1_1 a1_2 a1_3 x5_1)) := blk_at4 BK588.out (of_eq_true pdy11) (of_eq_true qdy11)
      have hfdy11 := blk_frozen BK588.out (x5_1 : Int).toNat
      go_wp2
      repeat (go_quiet (fail); try go_wp2)
      go_roundg k1
      case measure => have := HK1.out; omega
      case rel => exact ⟨(wrap64 (x5_1 + 1)), eq_, H', ⟨by have := HK1.out; omega⟩, ⟨by refine bs_ ?_; exact BK587.out⟩, ⟨by refine bs_ ?_; exact BK588.out⟩, ⟨by repeat (first | (with_reducible first | exact HB.out | apply below_alloc | apply pw_below_drewN | apply below_drew1 | refine below_set ?_ GE587.out | refine below_set ?_ GE588.out) | exact HB.out)⟩⟩
     ·rw [if_neg c7] at H
      have c7b0 : ((at4 a0_0 a0_1 a0_2 a0_3 x5_1) == (at4 a1_0 a1_1 a1_2 a1_3 x5_1)) = false := beq_eq_false_iff_ne.mpr c7
      have c7b1 : ((at4 a0_0 a0_1 a0_2 a0_3 x5_1) != (at4 a1_0 a1_1 a1_2 a1_3 x5_1)) = true := bne_iff_ne.mpr c7
      obtain rfl := Option.some.inj H
      have hnb14 := NB587_588.out
      have hnc14 := NB588_587.out
      have hcz15_0 : wr.cell? ⟨gb587, 0, none⟩ = some (.int .i64 a0_0) := (blk_cell BK587.out 0).trans rfl
      have hcz15_1 : wr.cell? ⟨gb587, 1, none⟩ = some (.int .i64 a0_1) := (blk_cell BK587.out 1).trans rfl
      have hcz15_2 : wr.cell? ⟨gb587, 2, none⟩ = some (.int .i64 a0_2) := (blk_cell BK587.out 2).trans rfl
      have hcz15_3 : wr.cell? ⟨gb587, 3, none⟩ = some (.int .i64 a0_3) := (blk_cell BK587.out 3).trans rfl
      have hfz15_0 := blk_frozen BK587.out 0
      have hfz15_1 := blk_frozen BK587.out 1
      have hfz15_2 := blk_frozen BK587.out 2
      have hfz15_3 := blk_frozen BK587.out 3
      have pdy13 : 0 ≤ (x5_1 : Int) := of_decide_eq_true as_
      have qdy13 : (x5_1 : Int) < 4 := of_decide_eq_true as_
      replace pdy13 := eq_true pdy13
      replace qdy13 := eq_true qdy13
      have hxdy13 : wr.cell? ⟨gb587, (x5_1 : Int).toNat, none⟩ = some (.int .i64 (at4 a0_0 a0_1 a0_2 a0_3 x5_1)) := blk_at4 BK587.out (of_eq_true pdy13) (of_eq_true qdy13)
      have hfdy13 := blk_frozen BK587.out (x5_1 : Int).toNat
      have hcz17_0 : wr.cell? ⟨gb588, 0, none⟩ = some (.int .i64 a1_0) := (blk_cell BK588.out 0).trans rfl
      have hcz17_1 : wr.cell? ⟨gb588, 1, none⟩ = some (.int .i64 a1_1) := (blk_cell BK588.out 1).trans rfl
      have hcz17_2 : wr.cell? ⟨gb588, 2, none⟩ = some (.int .i64 a1_2) := (blk_cell BK588.out 2).trans rfl
      have hcz17_3 : wr.cell? ⟨gb588, 3, none⟩ = some (.int .i64 a1_3) := (blk_cell BK588.out 3).trans rfl
      have hfz17_0 := blk_frozen BK588.out 0
      have hfz17_1 := blk_frozen BK588.out 1
      have hfz17_2 := blk_frozen BK588.out 2
      have hfz17_3 := blk_frozen BK588.out 3
      have pdy16 : 0 ≤ (x5_1 : Int) := of_decide_eq_true as_
      have qdy16 : (x5_1 : Int) < 4 := of_decide_eq_true as_
      replace pdy16 := eq_true pdy16
      replace qdy16 := eq_true qdy16
      have hxdy16 : wr.cell? ⟨gb588, (x5_1 : Int).toNat, none⟩ = some (.int .i64 (at4 a1_0 a1_1 a1_2 a1_3 x5_1)) := blk_at4 BK588.out (of_eq_true pdy16) (of_eq_true qdy16)
      have hfdy16 := blk_frozen BK588.out (x5_1 : Int).toNat
      have pdy18 : 0 ≤ (x5_1 : Int) := of_decide_eq_true as_
      have qdy18 : (x5_1 : Int) < 4 := of_decide_eq_true as_
      replace pdy18 := eq_true pdy18
      replace qdy18 := eq_true qdy18
      have hxdy18 : wr.cell? ⟨gb587, (x5_1 : Int).toNat, none⟩ = some (.int .i64 (at4 a0_0 a0_1 a0_2 a0_3 x5_1)) := blk_at4 BK587.out (of_eq_true pdy18) (of_eq_true qdy18)
      have hfdy18 := blk_frozen BK587.out (x5_1 : Int).toNat
      have pdy19 : 0 ≤ (x5_1 : Int) := of_decide_eq_true as_
      have qdy19 : (x5_1 : Int) < 4 := of_decide_eq_true as_
      replace pdy19 := eq_true pdy19
      replace qdy19 := eq_true qdy19
      have hxdy19 : wr.cell? ⟨gb588, (x5_1 : Int).toNat, none⟩ = some (.int .i64 (at4 a1_0 a1_1 a1_2 a1_3 x5_1)) := blk_at4 BK588.out (of_eq_true pdy19) (of_eq_true qdy19)
      have hfdy19 := blk_frozen BK588.out (x5_1 : Int).toNat
      go_wp2
      repeat (go_quiet (fail); try go_wp2)
      go_ret
      exact ⟨by first | rfl | (simp [errW_none, errW_some] <;> rfl) | (simp [*, errW_none, errW_some] <;> rfl), by repeat (first | (with_reducible first | exact HB.out | apply below_alloc | apply pw_below_drewN | apply below_drew1 | refine below_set ?_ GE587.out | refine below_set ?_ GE588.out) | exact HB.out)⟩
    ·rw [if_neg c6] at H
     exact absurd H (by simp)
   ·rw [if_neg c5] at H
    have c5b0 : decide (x5_1 < 4) = false := decide_eq_false c5
    clear c5
    obtain rfl := Option.some.inj H
    go_wp2
    repeat (go_quiet (fail); try go_wp2)
    go_ret
    exact ⟨by first | rfl | (simp [errW_none, errW_some] <;> rfl) | (simp [*, errW_none, errW_some] <;> rfl), by repeat (first | (with_reducible first | exact HB.out | apply below_alloc | apply pw_below_drewN | apply below_drew1 | refine below_set ?_ GE587.out | refine below_set ?_ GE588.out) | exact HB.out)⟩

end Go.Proofs.Ytlfmafebmnggeaa.Print
