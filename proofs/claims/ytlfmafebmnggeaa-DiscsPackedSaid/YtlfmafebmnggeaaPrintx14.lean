/- What the functions of the discs compute, printed by this repo's hand printer. -/
import Derived.Test.YtlfmafebmnggeaaShort
import Derived.Test.YtlfmafebmnggeaaPrintx0
import Derived.Test.YtlfmafebmnggeaaPrintx1
import Derived.Test.YtlfmafebmnggeaaPrintx3
import Derived.Test.YtlfmafebmnggeaaPrintx4
import Derived.Test.YtlfmafebmnggeaaPrintx6
import Derived.Test.YtlfmafebmnggeaaPrintx7
import Derived.Test.YtlfmafebmnggeaaPrintx13
namespace Go.Proofs.Ytlfmafebmnggeaa.Print
open Go.RowKit Go.Proofs.YtlfmafebmnggeaaW.PrintWords Go.Proofs.YtlfmafebmnggeaaW.PrintLast Go.Proofs.YtlfmafebmnggeaaW.PrintMore
attribute [local go_sem] max2_int min2_int max_two min_two max_three min_three max_four min_four
set_option maxHeartbeats 8000000 -- slim
set_option maxRecDepth 100000
set_option linter.unusedVariables false
set_option linter.unusedSimpArgs false

attribute [local go_sem high] eqA23
/-! ### clocheref01_Turned: function 31 -/
def clocheref01_Turned.l0 : Nat → Int → Int → Int → Int → Int → Int → Int → Option (Int)
 | 0, _, _, _, _, _, _, _ => none
 | k + 1, x1, x5, x6, x336000, x336001, x336002, x336003 => if x6 < 4 then (if x6 = x1 then (clocheref01_Turned.l0 k x1 x5 (wrap64 (x6 + 1)) x336000 x336001 x336002 x336003) else (if 0 ≤ x6 then (clocheref01_Turned.l0 k x1 (wrap64 (x5 + (at4 x336000 x336001 x336002 x336003 x6))) (wrap64 (x6 + 1)) x336000 x336001 x336002 x336003) else (none))) else (if 0 ≤ x1 then (if x1 < 4 then (some (wrap64 ((wrap64 (2 * x5)) - (at4 x336000 x336001 x336002 x336003 x1)))) else (none)) else (none))
def clocheref01_Turned.f (k : Nat) (a0_0 : Int) (a0_1 : Int) (a0_2 : Int) (a0_3 : Int) (a1 : Int) : Option (Int) := clocheref01_Turned.l0 k a1 0 0 a0_0 a0_1 a0_2 a0_3
theorem clocheref01_Turned.mono_l : ∀ k, (∀ y0 y1 y2 y3 y4 y5 y6, LeO (clocheref01_Turned.l0 k y0 y1 y2 y3 y4 y5 y6) (clocheref01_Turned.l0 (k + 1) y0 y1 y2 y3 y4 y5 y6))
 | 0 => fun _ _ _ _ _ _ _ r h => by simp [clocheref01_Turned.l0] at h
 | k + 1 => by
  have ih0 := clocheref01_Turned.mono_l k
  ·intro y0 y1 y2 y3 y4 y5 y6
   unfold clocheref01_Turned.l0
   repeat' first
   | (with_reducible exact ih0 _ _ _ _ _ _ _)
   | (with_reducible exact LeO.refl _)
   | (with_reducible exact LeO.none _)
   | (with_reducible refine LeO.ite ?_ ?_)
   | (with_reducible refine LeO.bind ?_ (fun _ => ?_))
   | exact ih0 _ _ _ _ _ _ _
   | exact LeO.none _
   | refine LeO.ite ?_ ?_
   | refine LeO.bind ?_ (fun _ => ?_)
theorem clocheref01_Turned.mono : ∀ a0 a1 a2 a3 a4 k, LeO (clocheref01_Turned.f k a0 a1 a2 a3 a4) (clocheref01_Turned.f (k + 1) a0 a1 a2 a3 a4) := by
 intro a0 a1 a2 a3 a4 k
 have ih0 := clocheref01_Turned.mono_l k
 unfold clocheref01_Turned.f
 repeat' first
   | (with_reducible exact ih0 _ _ _ _ _ _ _)
   | (with_reducible exact LeO.refl _)
   | (with_reducible exact LeO.none _)
   | (with_reducible refine LeO.ite ?_ ?_)
   | (with_reducible refine LeO.bind ?_ (fun _ => ?_))
   | exact ih0 _ _ _ _ _ _ _
   | exact LeO.none _
   | refine LeO.ite ?_ ?_
   | refine LeO.bind ?_ (fun _ => ?_)
theorem clocheref01_Turned.calls (k : Nat) (a0_0 : Int) (a0_1 : Int) (a0_2 : Int) (a0_3 : Int) (a1 : Int) (r : Int) (w : World) (h : clocheref01_Turned.f k a0_0 a0_1 a0_2 a0_3 a1 = some r) :
  Calls Try.prog 31 #[.agg #[.int .i64 a0_0, .int .i64 a0_1, .int .i64 a0_2, .int .i64 a0_3], .int .i64 a1] w fun e w' => e = .returned (.int .i64 r) ∧ Below w.heap.size w w' := by
 have hu23 := Try.underlying23
 have HB := Aside0.mk (Below.refl w.heap.size w)
 have H : (clocheref01_Turned.l0 k a1 0 0 a0_0 a0_1 a0_2 a0_3) = some r := h
 clear h
 have H' := Aside0.mk H
 clear H
 go_enter Try.func31, Try.ntmps31
 go_wp2_with (first | ((with_reducible refine gate_dst (N := 2) rfl ?_); refine box_event ?hg (N := 2) ?hd (cs := #[.int .i64 a0_0, .int .i64 a0_1, .int .i64 a0_2, .int .i64 a0_3]) (t := 23) ?hr ?_; (case hd => rfl); (case hg => rfl); (case hr => exact gs_); intro gb335 hg w3 hbox hb; have n0_ := Aside0.mk (below_step (lw_ HB.out) hb); have n1_ := Aside0.mk (hbox); have n2_ := Aside0.mk ((by rw [hg]; exact (below_size (lw_ HB.out)) : w.heap.size ≤ gb335)); have n3_ := Aside0.mk ((by rw [hg]; exact (below_size (lw_ HB.out)) : w.heap.size ≤ gb335)); clear HB; have HB := n0_; have BK335 := n1_; have GW335 := n2_; have GE335 := n3_; clear n0_ n1_ n2_ n3_; clear hb hbox hg))
 go_loopg [5, 6] k (fun kq v5 v6 w' => ∃ (x5_1 : Int) (x6_1 : Int), v5 = .int .i64 x5_1 ∧ v6 = .int .i64 x6_1 ∧ Aside0 (clocheref01_Turned.l0 kq a1 x5_1 x6_1 a0_0 a0_1 a0_2 a0_3 = some r) ∧ Aside0 (kq ≤ k) ∧ Aside0 (w'.heap[gb335]? = some (.cells #[.int .i64 a0_0, .int .i64 a0_1, .int .i64 a0_2, .int .i64 a0_3] 23 (0, 0))) ∧ Aside0 (Below w.heap.size w w'))
 case atStart => exact ⟨(0), (0), eq_, eq_, H', ⟨Nat.le_refl _⟩, ⟨by refine bs_ ?_; exact BK335.out⟩, ⟨by repeat (first | (with_reducible first | exact HB.out | apply below_alloc | apply pw_below_drewN | apply below_drew1 | refine below_set ?_ GE335.out) | exact HB.out)⟩⟩
 case round =>
  clear H'
  try clear p2
  try clear c3
  obtain ⟨x5_1, x6_1, rfl, rfl, HA, HK1, BK335, HB⟩ := hrel
  cases gk with
  | zero => exact absurd HA.out (by simp [clocheref01_Turned.l0])
  | succ k1 =>
   have H := HA.out
   clear HA
   simp only [clocheref01_Turned.l0] at H
   by_cases c4 : x6_1 < 4
   ·rw [if_pos c4] at H
    have c4b0 : decide (x6_1 < 4) = true := decide_eq_true c4
    clear c4
    by_cases c5 : x6_1 = a1
    ·rw [if_pos c5] at H
     have c5b0 : (x6_1 == a1) = true := beq_iff_eq.mpr c5
     have c5b1 : (x6_1 != a1) = false := bne_eq_false_iff_eq.mpr c5
     clear c5
     have H' := Aside0.mk H
     clear H
     go_wp2
     go_roundg k1
     case measure => have := HK1.out; omega
     case rel => exact ⟨(x5_1), (wrap64 (x6_1 + 1)), eq_, eq_, H', ⟨by have := HK1.out; omega⟩, ⟨by refine bs_ ?_; exact BK335.out⟩, ⟨by repeat (first | (with_reducible first | exact HB.out | apply below_alloc | apply pw_below_drewN | apply below_drew1 | refine below_set ?_ GE335.out) | exact HB.out)⟩⟩
    ·rw [if_neg c5] at H
     have c5b0 : (x6_1 == a1) = false := beq_eq_false_iff_ne.mpr c5
     have c5b1 : (x6_1 != a1) = true := bne_iff_ne.mpr c5
     by_cases c6 : 0 ≤ x6_1
     ·rw [if_pos c6] at H
      have c6b0 : decide (0 ≤ x6_1) = true := decide_eq_true c6
      clear c6
      have H' := Aside0.mk H
      clear H
      have hcz8_0 : wr.cell? ⟨gb335, 0, none⟩ = some (.int .i64 a0_0) := (blk_cell BK335.out 0).trans rfl
      have hcz8_1 : wr.cell? ⟨gb335, 1, none⟩ = some (.int .i64 a0_1) := (blk_cell BK335.out 1).trans rfl
      have hcz8_2 : wr.cell? ⟨gb335, 2, none⟩ = some (.int .i64 a0_2) := (blk_cell BK335.out 2).trans rfl
      have hcz8_3 : wr.cell? ⟨gb335, 3, none⟩ = some (.int .i64 a0_3) := (blk_cell BK335.out 3).trans rfl
      have hfz8_0 := blk_frozen BK335.out 0
      have hfz8_1 := blk_frozen BK335.out 1
      have hfz8_2 := blk_frozen BK335.out 2
      have hfz8_3 := blk_frozen BK335.out 3
      have pdy7 : 0 ≤ (x6_1 : Int) := of_decide_eq_true as_
      have qdy7 : (x6_1 : Int) < 4 := of_decide_eq_true as_
      replace pdy7 := eq_true pdy7
      replace qdy7 := eq_true qdy7
      have hxdy7 : wr.cell? ⟨gb335, (x6_1 : Int).toNat, none⟩ = some (.int .i64 (at4 a0_0 a0_1 a0_2 a0_3 x6_1)) := blk_at4 BK335.out (of_eq_true pdy7) (of_eq_true qdy7)
      have hfdy7 := blk_frozen BK335.out (x6_1 : Int).toNat
      go_wp2
      go_roundg k1
      case measure => have := HK1.out; omega
      case rel => exact ⟨(wrap64 (x5_1 + (at4 a0_0 a0_1 a0_2 a0_3 x6_1))), (wrap64 (x6_1 + 1)), eq_, eq_, H', ⟨by have := HK1.out; omega⟩, ⟨by refine bs_ ?_; exact BK335.out⟩, ⟨by repeat (first | (with_reducible first | exact HB.out | apply below_alloc | apply pw_below_drewN | apply below_drew1 | refine below_set ?_ GE335.out) | exact HB.out)⟩⟩
     ·rw [if_neg c6] at H
      exact absurd H (by simp)
   ·rw [if_neg c4] at H
    have c4b0 : decide (x6_1 < 4) = false := decide_eq_false c4
    clear c4
    by_cases c9 : 0 ≤ a1
    ·rw [if_pos c9] at H
     have c9b0 : decide (0 ≤ a1) = true := decide_eq_true c9
     clear c9
     by_cases c10 : a1 < 4
     ·rw [if_pos c10] at H
      have c10b0 : decide (a1 < 4) = true := decide_eq_true c10
      clear c10
      obtain rfl := Option.some.inj H
      have hcz12_0 : wr.cell? ⟨gb335, 0, none⟩ = some (.int .i64 a0_0) := (blk_cell BK335.out 0).trans rfl
      have hcz12_1 : wr.cell? ⟨gb335, 1, none⟩ = some (.int .i64 a0_1) := (blk_cell BK335.out 1).trans rfl
      have hcz12_2 : wr.cell? ⟨gb335, 2, none⟩ = some (.int .i64 a0_2) := (blk_cell BK335.out 2).trans rfl
      have hcz12_3 : wr.cell? ⟨gb335, 3, none⟩ = some (.int .i64 a0_3) := (blk_cell BK335.out 3).trans rfl
      have hfz12_0 := blk_frozen BK335.out 0
      have hfz12_1 := blk_frozen BK335.out 1
      have hfz12_2 := blk_frozen BK335.out 2
      have hfz12_3 := blk_frozen BK335.out 3
      have pdy11 : 0 ≤ (a1 : Int) := of_decide_eq_true as_
      have qdy11 : (a1 : Int) < 4 := of_decide_eq_true as_
      replace pdy11 := eq_true pdy11
      replace qdy11 := eq_true qdy11
      have hxdy11 : wr.cell? ⟨gb335, (a1 : Int).toNat, none⟩ = some (.int .i64 (at4 a0_0 a0_1 a0_2 a0_3 a1)) := blk_at4 BK335.out (of_eq_true pdy11) (of_eq_true qdy11)
      have hfdy11 := blk_frozen BK335.out (a1 : Int).toNat
      go_wp2
      go_ret
      exact ⟨by first | rfl | (simp [errW_none, errW_some] <;> rfl) | (simp [*, errW_none, errW_some] <;> rfl), by repeat (first | (with_reducible first | exact HB.out | apply below_alloc | apply pw_below_drewN | apply below_drew1 | refine below_set ?_ GE335.out) | exact HB.out)⟩
     ·rw [if_neg c10] at H
      exact absurd H (by simp)
    ·rw [if_neg c9] at H
     exact absurd H (by simp)

end Go.Proofs.Ytlfmafebmnggeaa.Print
