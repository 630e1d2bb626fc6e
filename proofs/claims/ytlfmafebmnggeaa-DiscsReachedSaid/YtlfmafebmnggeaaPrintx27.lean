/- What the functions of the discs compute, printed by this repo's hand printer. -/
import Derived.Test.YtlfmafebmnggeaaShort
import Derived.Test.YtlfmafebmnggeaaPrintx0
import Derived.Test.YtlfmafebmnggeaaPrintx1
import Derived.Test.YtlfmafebmnggeaaPrintx3
import Derived.Test.YtlfmafebmnggeaaPrintx6
import Derived.Test.YtlfmafebmnggeaaPrintx13
import Derived.Test.YtlfmafebmnggeaaPrintx17
import Derived.Test.YtlfmafebmnggeaaPrintx20
import Derived.Test.YtlfmafebmnggeaaPrintx24
import Derived.Test.YtlfmafebmnggeaaPrintx25
namespace Go.Proofs.Ytlfmafebmnggeaa.Print
open Go.RowKit Go.Proofs.YtlfmafebmnggeaaW.PrintWords Go.Proofs.YtlfmafebmnggeaaW.PrintLast Go.Proofs.YtlfmafebmnggeaaW.PrintMore
attribute [local go_sem] max2_int min2_int max_two min_two max_three min_three max_four min_four
set_option maxHeartbeats 8000000 -- slim
set_option maxRecDepth 100000
set_option linter.unusedVariables false
set_option linter.unusedSimpArgs false

attribute [local go_sem high] eqA23
/-! ### clochelaw01_DiscsReached: function 14 -/
mutual
def clochelaw01_DiscsReached.j0 : Nat → List Int → Bool → Int → Int → Int → Int → Option (Bool)
 | 0, _, _, _, _, _, _ => none
 | k + 1, x1, x22, x527000, x527001, x527002, x527003 => if x22 = true then ((clochelaw01_alive.f k).bind fun t528 => (some t528)) else ((discs_Root.f k x527000 x527001 x527002 x527003).bind fun bt529 => ((discs_Root.f k bt529.1 bt529.2.1 bt529.2.2.1 bt529.2.2.2.1).bind fun bt536 => (if bt529.2.2.2.2.2 = 0 then (if bt536.2.2.2.2.2 = 0 then ((discs_IsRoot.f k bt529.1 bt529.2.1 bt529.2.2.1 bt529.2.2.2.1).bind fun t543 => (if t543 = true then ((clocheref01_IsRoot.f k bt529.1 bt529.2.1 bt529.2.2.1 bt529.2.2.2.1).bind fun t544 => (if t544 = true then (if (!(bt536.1 == bt529.1) || (!(bt536.2.1 == bt529.2.1) || (!(bt536.2.2.1 == bt529.2.2.1) || (!(bt536.2.2.2.1 == bt529.2.2.2.1))))) = true then (none) else (if bt536.2.2.2.2.1 = 0 then (if bt529.2.2.2.2.1 < 0 then (none) else (if bt529.2.2.2.2.1 = 0 then ((clocheref01_Sorted.f k x527000 x527001 x527002 x527003).bind fun bt545 => (clochelaw01_DiscsReached.j1 k x1 (!(bt529.1 == bt545.1) || (!(bt529.2.1 == bt545.2.1) || (!(bt529.2.2.1 == bt545.2.2.1) || (!(bt529.2.2.2.1 == bt545.2.2.2))))) x527000 x527001 x527002 x527003 bt529.1 bt529.2.1 bt529.2.2.1 bt529.2.2.2.1)) else (clochelaw01_DiscsReached.j1 k x1 false x527000 x527001 x527002 x527003 bt529.1 bt529.2.1 bt529.2.2.1 bt529.2.2.2.1))) else (none))) else (none))) else (none))) else (none)) else (none))))
def clochelaw01_DiscsReached.j1 : Nat → List Int → Bool → Int → Int → Int → Int → Int → Int → Int → Int → Option (Bool)
 | 0, _, _, _, _, _, _, _, _, _, _ => none
 | k + 1, x1, x74, x527000, x527001, x527002, x527003, x536000, x536001, x536002, x536003 => if x74 = true then (none) else ((discs_Turns.f k x527000 x527001 x527002 x527003 x1).bind fun bt549 => (if bt549.2.2.2.2 = 0 then ((discs_Root.f k bt549.1 bt549.2.1 bt549.2.2.1 bt549.2.2.2.1).bind fun bt555 => ((discs_Same.f k x527000 x527001 x527002 x527003 bt549.1 bt549.2.1 bt549.2.2.1 bt549.2.2.2.1).bind fun bt562 => (if bt555.2.2.2.2.2 = 0 then (if bt562.2 = 0 then (if (bt555.1 == x536000 && (bt555.2.1 == x536001 && (bt555.2.2.1 == x536002 && (bt555.2.2.2.1 == x536003)))) = true then (if bt562.1 = true then ((clochelaw01_alive.f k).bind fun t564 => (some t564)) else (none)) else (none)) else (none)) else (none)))) else (if (bt549.1 == 0 && (bt549.2.1 == 0 && (bt549.2.2.1 == 0 && (bt549.2.2.2.1 == 0)))) = true then ((clochelaw01_alive.f k).bind fun t565 => (some t565)) else (none))))
end
def clochelaw01_DiscsReached.f (k : Nat) (a0_0 : Int) (a0_1 : Int) (a0_2 : Int) (a0_3 : Int) (l1 : List Int) : Option (Bool) := if (l1.length : Int) > 200 then (clochelaw01_DiscsReached.j0 k l1 true a0_0 a0_1 a0_2 a0_3) else ((clocheref01_IsQuad.f k a0_0 a0_1 a0_2 a0_3).bind fun t527 => (clochelaw01_DiscsReached.j0 k l1 (!t527) a0_0 a0_1 a0_2 a0_3))
theorem clochelaw01_DiscsReached.mono_l : ∀ k, (∀ y0 y1 y2 y3 y4 y5, LeO (clochelaw01_DiscsReached.j0 k y0 y1 y2 y3 y4 y5) (clochelaw01_DiscsReached.j0 (k + 1) y0 y1 y2 y3 y4 y5)) ∧ (∀ y0 y1 y2 y3 y4 y5 y6 y7 y8 y9, LeO (clochelaw01_DiscsReached.j1 k y0 y1 y2 y3 y4 y5 y6 y7 y8 y9) (clochelaw01_DiscsReached.j1 (k + 1) y0 y1 y2 y3 y4 y5 y6 y7 y8 y9))
 | 0 => ⟨fun _ _ _ _ _ _ r h => by simp [clochelaw01_DiscsReached.j0] at h, fun _ _ _ _ _ _ _ _ _ _ r h => by simp [clochelaw01_DiscsReached.j1] at h⟩
 | k + 1 => by
  obtain ⟨ih0, ih1⟩ := clochelaw01_DiscsReached.mono_l k
  refine ⟨?_, ?_⟩
  ·intro y0 y1 y2 y3 y4 y5
   unfold clochelaw01_DiscsReached.j0
   repeat' first
   | (with_reducible exact ih0 _ _ _ _ _ _)
   | (with_reducible exact ih1 _ _ _ _ _ _ _ _ _ _)
   | (with_reducible exact clochelaw01_alive.mono _)
   | (with_reducible exact clocheref01_IsQuad.mono _ _ _ _ _)
   | (with_reducible exact clocheref01_IsRoot.mono _ _ _ _ _)
   | (with_reducible exact clocheref01_Sorted.mono _ _ _ _ _)
   | (with_reducible exact discs_IsRoot.mono _ _ _ _ _)
   | (with_reducible exact discs_Root.mono _ _ _ _ _)
   | (with_reducible exact discs_Same.mono _ _ _ _ _ _ _ _ _)
   | (with_reducible exact discs_Turns.mono _ _ _ _ _ _)
   | (with_reducible exact LeO.refl _)
   | (with_reducible exact LeO.none _)
   | (with_reducible refine LeO.ite ?_ ?_)
   | (with_reducible refine LeO.bind ?_ (fun _ => ?_))
   | exact ih0 _ _ _ _ _ _
   | exact ih1 _ _ _ _ _ _ _ _ _ _
   | exact clochelaw01_alive.mono _
   | exact clocheref01_IsQuad.mono _ _ _ _ _
   | exact clocheref01_IsRoot.mono _ _ _ _ _
   | exact clocheref01_Sorted.mono _ _ _ _ _
   | exact discs_IsRoot.mono _ _ _ _ _
   | exact discs_Root.mono _ _ _ _ _
   | exact discs_Same.mono _ _ _ _ _ _ _ _ _
   | exact discs_Turns.mono _ _ _ _ _ _
   | exact LeO.none _
   | refine LeO.ite ?_ ?_
   | refine LeO.bind ?_ (fun _ => ?_)
  ·intro y0 y1 y2 y3 y4 y5 y6 y7 y8 y9
   unfold clochelaw01_DiscsReached.j1
   repeat' first
   | (with_reducible exact ih0 _ _ _ _ _ _)
   | (with_reducible exact ih1 _ _ _ _ _ _ _ _ _ _)
   | (with_reducible exact clochelaw01_alive.mono _)
   | (with_reducible exact clocheref01_IsQuad.mono _ _ _ _ _)
   | (with_reducible exact clocheref01_IsRoot.mono _ _ _ _ _)
   | (with_reducible exact clocheref01_Sorted.mono _ _ _ _ _)
   | (with_reducible exact discs_IsRoot.mono _ _ _ _ _)
   | (with_reducible exact discs_Root.mono _ _ _ _ _)
   | (with_reducible exact discs_Same.mono _ _ _ _ _ _ _ _ _)
   | (with_reducible exact discs_Turns.mono _ _ _ _ _ _)
   | (with_reducible exact LeO.refl _)
   | (with_reducible exact LeO.none _)
   | (with_reducible refine LeO.ite ?_ ?_)
   | (with_reducible refine LeO.bind ?_ (fun _ => ?_))
   | exact ih0 _ _ _ _ _ _
   | exact ih1 _ _ _ _ _ _ _ _ _ _
   | exact clochelaw01_alive.mono _
   | exact clocheref01_IsQuad.mono _ _ _ _ _
   | exact clocheref01_IsRoot.mono _ _ _ _ _
   | exact clocheref01_Sorted.mono _ _ _ _ _
   | exact discs_IsRoot.mono _ _ _ _ _
   | exact discs_Root.mono _ _ _ _ _
   | exact discs_Same.mono _ _ _ _ _ _ _ _ _
   | exact discs_Turns.mono _ _ _ _ _ _
   | exact LeO.none _
   | refine LeO.ite ?_ ?_
   | refine LeO.bind ?_ (fun _ => ?_)
theorem clochelaw01_DiscsReached.mono : ∀ a0 a1 a2 a3 a4 k, LeO (clochelaw01_DiscsReached.f k a0 a1 a2 a3 a4) (clochelaw01_DiscsReached.f (k + 1) a0 a1 a2 a3 a4) := by
 intro a0 a1 a2 a3 a4 k
 obtain ⟨ih0, ih1⟩ := clochelaw01_DiscsReached.mono_l k
 unfold clochelaw01_DiscsReached.f
 repeat' first
   | (with_reducible exact ih0 _ _ _ _ _ _)
   | (with_reducible exact ih1 _ _ _ _ _ _ _ _ _ _)
   | (with_reducible exact clochelaw01_alive.mono _)
   | (with_reducible exact clocheref01_IsQuad.mono _ _ _ _ _)
   | (with_reducible exact clocheref01_IsRoot.mono _ _ _ _ _)
   | (with_reducible exact clocheref01_Sorted.mono _ _ _ _ _)
   | (with_reducible exact discs_IsRoot.mono _ _ _ _ _)
   | (with_reducible exact discs_Root.mono _ _ _ _ _)
   | (with_reducible exact discs_Same.mono _ _ _ _ _ _ _ _ _)
   | (with_reducible exact discs_Turns.mono _ _ _ _ _ _)
   | (with_reducible exact LeO.refl _)
   | (with_reducible exact LeO.none _)
   | (with_reducible refine LeO.ite ?_ ?_)
   | (with_reducible refine LeO.bind ?_ (fun _ => ?_))
   | exact ih0 _ _ _ _ _ _
   | exact ih1 _ _ _ _ _ _ _ _ _ _
   | exact clochelaw01_alive.mono _
   | exact clocheref01_IsQuad.mono _ _ _ _ _
   | exact clocheref01_IsRoot.mono _ _ _ _ _
   | exact clocheref01_Sorted.mono _ _ _ _ _
   | exact discs_IsRoot.mono _ _ _ _ _
   | exact discs_Root.mono _ _ _ _ _
   | exact discs_Same.mono _ _ _ _ _ _ _ _ _
   | exact discs_Turns.mono _ _ _ _ _ _
   | exact LeO.none _
   | refine LeO.ite ?_ ?_
   | refine LeO.bind ?_ (fun _ => ?_)
def clochelaw01_DiscsReached.T5 : Bool × List (List Nat × List Nat) := (true, [([], []), ([0], [0]), ([1], [1]), ([2], [2]), ([3, 2], [2, 3]), ([2, 4], [2, 4]), ([5, 2], [5]), ([6], [6]), ([7, 6, 6], [6, 7]), ([8, 6], [6, 8]), ([6, 9], [6, 9]), ([10, 8], [10]), ([11], [11]), ([12, 11, 11], [11, 12]), ([13, 11], [11, 13]), ([11, 14], [11, 14]), ([15, 13], [15]), ([16], [16]), ([16], [16]), ([17, 18, 16], [16, 17, 18]), ([16, 19], [16, 19]), ([20, 16], [20]), ([21], [21]), ([22, 21], [21, 22]), ([21, 23], [21, 23]), ([24, 21], [24]), ([25], [25]), ([26, 25], [25, 26]), ([25, 27], [25, 27]), ([28, 25], [28]), ([29], [29]), ([30, 29], [29, 30]), ([31, 29, 29], [29, 31]), ([32], [32]), ([32], [32]), ([34, 32, 32], [32, 34]), ([33, 35, 32], [32, 33, 35]), ([32, 36, 29], [29, 32, 36]), ([29, 37], [29, 37])])
def clochelaw01_DiscsReached.B5 : List Nat := [0, 1, 3, 7, 15, 31, 63, 127, 255, 511, 1023, 2047, 4095, 8191, 16383, 32767, 65535, 131071, 131071, 524287, 1048575, 2097151, 4194303, 8388607, 16777215, 33554431, 67108863, 134217727, 268435455, 536870911, 1073741823, 2147483647, 4294967295, 8589934591, 8589934591, 25769803775, 68719476735, 137438953471, 274877906943]
theorem clochelaw01_DiscsReached.tab5 : rtab .any (opsOf Try.f14 5) = clochelaw01_DiscsReached.T5 := by kernel_rfl
theorem clochelaw01_DiscsReached.bits5 : waitsOk clochelaw01_DiscsReached.T5.2 clochelaw01_DiscsReached.B5 = true := by kernel_rfl
theorem clochelaw01_DiscsReached.calls (k : Nat) (a0_0 : Int) (a0_1 : Int) (a0_2 : Int) (a0_3 : Int) (A1 : Option Addr) (c1 : Nat) (l1 : List Int) (r : Bool) (w : World) (hr1 : Kd.C (Kd.int .i64) w A1 l1.length l1) (hc1 : l1.length ≤ c1) (h : clochelaw01_DiscsReached.f k a0_0 a0_1 a0_2 a0_3 l1 = some r) :
  Calls Try.prog 14 #[.agg #[.int .i64 a0_0, .int .i64 a0_1, .int .i64 a0_2, .int .i64 a0_3], .slice A1 l1.length c1] w fun e w' => e = .returned (.bool r) ∧ Below w.heap.size w w' := by
 have hu23 := Try.underlying23
 have HR1 := Aside0.mk hr1
 have HC1 := Aside0.mk hc1
 clear hr1 hc1
 have HB := Aside0.mk (Below.refl w.heap.size w)
 have H : (if (l1.length : Int) > 200 then (clochelaw01_DiscsReached.j0 k l1 true a0_0 a0_1 a0_2 a0_3) else ((clocheref01_IsQuad.f k a0_0 a0_1 a0_2 a0_3).bind fun t527 => (clochelaw01_DiscsReached.j0 k l1 (!t527) a0_0 a0_1 a0_2 a0_3))) = some r := h
 clear h
 have HC3 := Aside0.mk H
 clear H
 go_enter Try.func14, Try.ntmps14
 go_upto_region 1 with (first | ((with_reducible refine gate_dst (N := 2) rfl ?_); refine box_event ?hg (N := 2) ?hd (cs := #[.int .i64 a0_0, .int .i64 a0_1, .int .i64 a0_2, .int .i64 a0_3]) (t := 23) ?hr ?_; (case hd => rfl); (case hg => rfl); (case hr => exact gs_); intro gb526 hg w4 hbox hb; have n0_ := Aside0.mk (below_step (lw_ HB.out) hb); have n1_ := Aside0.mk (hbox); have n2_ := Aside0.mk ((by rw [hg]; exact (below_size (lw_ HB.out)) : w.heap.size ≤ gb526)); have n3_ := Aside0.mk ((by rw [hg]; exact (below_size (lw_ HB.out)) : w.heap.size ≤ gb526)); clear HB; have HB := n0_; have BK526 := n1_; have GW526 := n2_; have GE526 := n3_; clear n0_ n1_ n2_ n3_; clear hb hbox hg))
 (try simp only [Act.put, List.setIfInBounds_toArray, List.set_cons_zero, List.set_cons_succ])
 go_cut [22] (fun v22 wc => ∃ (kq : Nat) (x22_2 : Bool), v22 = .bool x22_2 ∧ Aside0 (clochelaw01_DiscsReached.j0 kq l1 x22_2 a0_0 a0_1 a0_2 a0_3 = some r) ∧ Aside0 (kq ≤ k) ∧ Aside0 (wc.heap[gb526]? = some (.cells #[.int .i64 a0_0, .int .i64 a0_1, .int .i64 a0_2, .int .i64 a0_3] 23 (0, 0))) ∧ Aside0 (Below w.heap.size w wc))
 case first =>
  have H := HC3.out
  clear HC3
  by_cases c5 : (l1.length : Int) > 200
  ·rw [if_pos c5] at H
   have c5b0 : decide (200 < (l1.length : Int)) = true := decide_eq_true c5
   have c5b1 : decide (200 < l1.length) = true := decide_eq_true (by omega)
   clear c5
   (first | rw [c5b0] | (simp only [i64_w, i32_w]; rw [c5b0]) | skip)
   have H' := Aside0.mk H
   clear H
   go_wp2
   go_meet
   case rel => exact ⟨_, (true), eq_, H', ⟨by first | omega | exact Nat.le_refl _⟩, ⟨by refine bs_ ?_; exact BK526.out⟩, ⟨by repeat (first | (with_reducible first | exact HB.out | apply below_alloc | apply pw_below_drewN | apply below_drew1 | refine below_set ?_ GE526.out) | exact HB.out)⟩⟩
  ·rw [if_neg c5] at H
   have c5b0 : decide (200 < (l1.length : Int)) = false := decide_eq_false c5
   have c5b1 : decide (200 < l1.length) = false := decide_eq_false (by omega)
   clear c5
   (first | rw [c5b0] | (simp only [i64_w, i32_w]; rw [c5b0]) | skip)
   replace H := Option.bind_eq_some_iff.mp H
   obtain ⟨t527, A60, H⟩ := H
   replace H : (clochelaw01_DiscsReached.j0 k l1 (!t527) a0_0 a0_1 a0_2 a0_3) = some r := H
   have A6 := Aside0.mk A60
   clear A60
   have H' := Aside0.mk H
   clear H
   have hcz7_0 : w4.cell? ⟨gb526, 0, none⟩ = some (.int .i64 a0_0) := (blk_cell BK526.out 0).trans rfl
   have hcz7_1 : w4.cell? ⟨gb526, 1, none⟩ = some (.int .i64 a0_1) := (blk_cell BK526.out 1).trans rfl
   have hcz7_2 : w4.cell? ⟨gb526, 2, none⟩ = some (.int .i64 a0_2) := (blk_cell BK526.out 2).trans rfl
   have hcz7_3 : w4.cell? ⟨gb526, 3, none⟩ = some (.int .i64 a0_3) := (blk_cell BK526.out 3).trans rfl
   have hfz7_0 := blk_frozen BK526.out 0
   have hfz7_1 := blk_frozen BK526.out 1
   have hfz7_2 := blk_frozen BK526.out 2
   have hfz7_3 := blk_frozen BK526.out 3
   go_wp2_with (first | (go_at_call 27; (with_reducible refine (clocheref01_IsQuad.calls k a0_0 a0_1 a0_2 a0_3 t527 _ A6.out).mono ?_); rintro e w8 ⟨rfl, hb⟩; have n0_ := Aside0.mk (blk_below (g := gb526) (o := .cells #[.int .i64 a0_0, .int .i64 a0_1, .int .i64 a0_2, .int .i64 a0_3] 23 (0, 0)) (by refine bs_ ?_; exact BK526.out) hb); have n1_ := Aside0.mk (below_step (by repeat (first | (with_reducible first | exact HB.out | apply below_alloc | apply pw_below_drewN | apply below_drew1 | refine below_set ?_ GE526.out) | exact HB.out)) hb); clear BK526; clear HB; have BK526 := n0_; have HB := n1_; clear n0_ n1_; (try clear hb); (try clear hb2); (try clear hk); (try clear hi)))
   go_meet
   case rel => exact ⟨_, (!t527), eq_, H', ⟨by first | omega | exact Nat.le_refl _⟩, ⟨by refine bs_ ?_; exact BK526.out⟩, ⟨by repeat (first | (with_reducible first | exact HB.out | apply below_alloc | apply pw_below_drewN | apply below_drew1 | refine below_set ?_ GE526.out) | exact HB.out)⟩⟩
 case rest =>
  clear HC3
  try clear c1
  try clear p2
  try clear c5
  try clear c5b0
  try clear c5b1
  try clear hcz7_0
  try clear hcz7_1
  try clear hcz7_2
  try clear hcz7_3
  try clear hfz7_0
  try clear hfz7_1
  try clear hfz7_2
  try clear hfz7_3
  obtain ⟨kq, x22_2, rfl, HA, HJ2, BK526, HB⟩ := hcut
  cases kq with
  | zero => exact absurd HA.out (by simp [clochelaw01_DiscsReached.j0])
  | succ kj2 =>
   have H := HA.out
   clear HA
   simp only [clochelaw01_DiscsReached.j0] at H
   by_cases c9 : x22_2 = true
   ·subst c9
    have H1 : ((clochelaw01_alive.f kj2).bind fun t528 => (some t528)) = some r := by rw [if_pos rfl] at H; exact H
    clear H
    have H := H1
    clear H1
    replace H := Option.bind_eq_some_iff.mp H
    obtain ⟨t528, A100, H⟩ := H
    replace H : (some t528) = some r := H
    have A10 := Aside0.mk A100
    clear A100
    obtain rfl := Option.some.inj H
    go_wp2_with (first | ((with_reducible refine gate_callee (f := 19) rfl ?_); refine goesL_ (some 23) rfl rfl Try.func19 (by kernel_rfl) rfl #[] rfl mp_ ?_; (with_reducible refine (clochelaw01_alive.calls kj2  t528 _ A10.out).mono ?_); rintro e w11 ⟨rfl, hb⟩; refine ⟨_, rfl, ?_⟩; have n0_ := Aside0.mk (blk_below (g := gb526) (o := .cells #[.int .i64 a0_0, .int .i64 a0_1, .int .i64 a0_2, .int .i64 a0_3] 23 (0, 0)) (by refine bs_ ?_; exact BK526.out) hb); have n1_ := Aside0.mk (below_step (by repeat (first | (with_reducible first | exact HB.out | apply below_alloc | apply pw_below_drewN | apply below_drew1 | refine below_set ?_ GE526.out) | exact HB.out)) hb); clear BK526; clear HB; have BK526 := n0_; have HB := n1_; clear n0_ n1_; (try clear hb); (try clear hb2); (try clear hk); (try clear hi)))
    go_ret
    exact ⟨by first | rfl | (simp [errW_none, errW_some] <;> rfl) | (simp [*, errW_none, errW_some] <;> rfl), by repeat (first | (with_reducible first | exact HB.out | apply below_alloc | apply pw_below_drewN | apply below_drew1 | refine below_set ?_ GE526.out) | exact HB.out)⟩
   ·replace c9 := Bool.eq_false_iff.mpr c9
    subst c9
    have H1 : ((discs_Root.f kj2 a0_0 a0_1 a0_2 a0_3).bind fun bt529 => ((discs_Root.f kj2 bt529.1 bt529.2.1 bt529.2.2.1 bt529.2.2.2.1).bind fun bt536 => (if bt529.2.2.2.2.2 = 0 then (if bt536.2.2.2.2.2 = 0 then ((discs_IsRoot.f kj2 bt529.1 bt529.2.1 bt529.2.2.1 bt529.2.2.2.1).bind fun t543 => (if t543 = true then ((clocheref01_IsRoot.f kj2 bt529.1 bt529.2.1 bt529.2.2.1 bt529.2.2.2.1).bind fun t544 => (if t544 = true then (if (!(bt536.1 == bt529.1) || (!(bt536.2.1 == bt529.2.1) || (!(bt536.2.2.1 == bt529.2.2.1) || (!(bt536.2.2.2.1 == bt529.2.2.2.1))))) = true then (none) else (if bt536.2.2.2.2.1 = 0 then (if bt529.2.2.2.2.1 < 0 then (none) else (if bt529.2.2.2.2.1 = 0 then ((clocheref01_Sorted.f kj2 a0_0 a0_1 a0_2 a0_3).bind fun bt545 => (clochelaw01_DiscsReached.j1 kj2 l1 (!(bt529.1 == bt545.1) || (!(bt529.2.1 == bt545.2.1) || (!(bt529.2.2.1 == bt545.2.2.1) || (!(bt529.2.2.2.1 == bt545.2.2.2))))) a0_0 a0_1 a0_2 a0_3 bt529.1 bt529.2.1 bt529.2.2.1 bt529.2.2.2.1)) else (clochelaw01_DiscsReached.j1 kj2 l1 false a0_0 a0_1 a0_2 a0_3 bt529.1 bt529.2.1 bt529.2.2.1 bt529.2.2.2.1))) else (none))) else (none))) else (none))) else (none)) else (none)))) = some r := by rw [if_neg (show ¬ (false = true) by decide)] at H; exact H
    clear H
    have H := H1
    clear H1
    replace H := Option.bind_eq_some_iff.mp H
    obtain ⟨⟨t529, t530, t531, t532, t533, t534⟩, A120, H⟩ := H
    replace H : ((discs_Root.f kj2 t529 t530 t531 t532).bind fun bt536 => (if t534 = 0 then (if bt536.2.2.2.2.2 = 0 then ((discs_IsRoot.f kj2 t529 t530 t531 t532).bind fun t543 => (if t543 = true then ((clocheref01_IsRoot.f kj2 t529 t530 t531 t532).bind fun t544 => (if t544 = true then (if (!(bt536.1 == t529) || (!(bt536.2.1 == t530) || (!(bt536.2.2.1 == t531) || (!(bt536.2.2.2.1 == t532))))) = true then (none) else (if bt536.2.2.2.2.1 = 0 then (if t533 < 0 then (none) else (if t533 = 0 then ((clocheref01_Sorted.f kj2 a0_0 a0_1 a0_2 a0_3).bind fun bt545 => (clochelaw01_DiscsReached.j1 kj2 l1 (!(t529 == bt545.1) || (!(t530 == bt545.2.1) || (!(t531 == bt545.2.2.1) || (!(t532 == bt545.2.2.2))))) a0_0 a0_1 a0_2 a0_3 t529 t530 t531 t532)) else (clochelaw01_DiscsReached.j1 kj2 l1 false a0_0 a0_1 a0_2 a0_3 t529 t530 t531 t532))) else (none))) else (none))) else (none))) else (none)) else (none))) = some r := H
    have A12 := Aside0.mk A120
    clear A120
    replace H := Option.bind_eq_some_iff.mp H
    obtain ⟨⟨t536, t537, t538, t539, t540, t541⟩, A130, H⟩ := H
    replace H : (if t534 = 0 then (if t541 = 0 then ((discs_IsRoot.f kj2 t529 t530 t531 t532).bind fun t543 => (if t543 = true then ((clocheref01_IsRoot.f kj2 t529 t530 t531 t532).bind fun t544 => (if t544 = true then (if (!(t536 == t529) || (!(t537 == t530) || (!(t538 == t531) || (!(t539 == t532))))) = true then (none) else (if t540 = 0 then (if t533 < 0 then (none) else (if t533 = 0 then ((clocheref01_Sorted.f kj2 a0_0 a0_1 a0_2 a0_3).bind fun bt545 => (clochelaw01_DiscsReached.j1 kj2 l1 (!(t529 == bt545.1) || (!(t530 == bt545.2.1) || (!(t531 == bt545.2.2.1) || (!(t532 == bt545.2.2.2))))) a0_0 a0_1 a0_2 a0_3 t529 t530 t531 t532)) else (clochelaw01_DiscsReached.j1 kj2 l1 false a0_0 a0_1 a0_2 a0_3 t529 t530 t531 t532))) else (none))) else (none))) else (none))) else (none)) else (none)) = some r := H
    have A13 := Aside0.mk A130
    clear A130
    have HC14 := Aside0.mk H
    clear H
    have hcz15_0 : wc.cell? ⟨gb526, 0, none⟩ = some (.int .i64 a0_0) := (blk_cell BK526.out 0).trans rfl
    have hcz15_1 : wc.cell? ⟨gb526, 1, none⟩ = some (.int .i64 a0_1) := (blk_cell BK526.out 1).trans rfl
    have hcz15_2 : wc.cell? ⟨gb526, 2, none⟩ = some (.int .i64 a0_2) := (blk_cell BK526.out 2).trans rfl
    have hcz15_3 : wc.cell? ⟨gb526, 3, none⟩ = some (.int .i64 a0_3) := (blk_cell BK526.out 3).trans rfl
    have hfz15_0 := blk_frozen BK526.out 0
    have hfz15_1 := blk_frozen BK526.out 1
    have hfz15_2 := blk_frozen BK526.out 2
    have hfz15_3 := blk_frozen BK526.out 3
    go_upto_region 5 with (first | ((with_reducible refine gate_callee (f := 15) rfl ?_); refine goesL_ (some 26) rfl rfl Try.func15 (by kernel_rfl) rfl #[.agg #[.int .i64 a0_0, .int .i64 a0_1, .int .i64 a0_2, .int .i64 a0_3]] rfl mp_ ?_; (with_reducible refine (discs_Root.calls kj2 a0_0 a0_1 a0_2 a0_3 t529 t530 t531 t532 t533 t534 _ A12.out).mono ?_); rintro e w16 ⟨rfl, hb⟩; refine ⟨_, rfl, ?_⟩; have n0_ := Aside0.mk (blk_below (g := gb526) (o := .cells #[.int .i64 a0_0, .int .i64 a0_1, .int .i64 a0_2, .int .i64 a0_3] 23 (0, 0)) (by refine bs_ ?_; exact BK526.out) hb); have n1_ := Aside0.mk (below_step (by repeat (first | (with_reducible first | exact HB.out | apply below_alloc | apply pw_below_drewN | apply below_drew1 | refine below_set ?_ GE526.out) | exact HB.out)) hb); clear BK526; clear HB; have BK526 := n0_; have HB := n1_; clear n0_ n1_; (try clear hb); (try clear hb2); (try clear hk); (try clear hi)) | ((with_reducible refine gate_dst (N := 5) rfl ?_); refine box_event ?hg (N := 5) ?hd (cs := #[.int .i64 0, .int .i64 0, .int .i64 0, .int .i64 0]) (t := 23) ?hr ?_; (case hd => rfl); (case hg => rfl); (case hr => exact gs_); intro gb535 hg w17 hbox hb; have n0_ := Aside0.mk (blk_below (g := gb526) (o := .cells #[.int .i64 a0_0, .int .i64 a0_1, .int .i64 a0_2, .int .i64 a0_3] 23 (0, 0)) (by refine bs_ ?_; exact BK526.out) hb); have n1_ := Aside0.mk (below_step (by repeat (first | (with_reducible first | exact HB.out | apply below_alloc | apply pw_below_drewN | apply below_drew1 | refine below_set ?_ GE526.out) | exact HB.out)) hb); have n2_ := Aside0.mk (hbox); have n3_ := Aside0.mk ((by rw [hg]; exact (below_size (by repeat (first | (with_reducible first | exact HB.out | apply below_alloc | apply pw_below_drewN | apply below_drew1 | refine below_set ?_ GE526.out) | exact HB.out))) : w.heap.size ≤ gb535)); have n4_ := Aside0.mk ((by rw [hg]; exact (below_size (by repeat (first | (with_reducible first | exact HB.out | apply below_alloc | apply pw_below_drewN | apply below_drew1 | refine below_set ?_ GE526.out) | exact HB.out))) : w.heap.size ≤ gb535)); have n5_ := Aside0.mk ((by rw [hg]; exact Nat.ne_of_lt (blk_lt (g := gb526) (o := .cells #[.int .i64 a0_0, .int .i64 a0_1, .int .i64 a0_2, .int .i64 a0_3] 23 (0, 0)) (by refine bs_ ?_; exact BK526.out)) : gb526 ≠ gb535)); have n6_ := Aside0.mk ((by rw [hg]; exact Nat.ne_of_gt (blk_lt (g := gb526) (o := .cells #[.int .i64 a0_0, .int .i64 a0_1, .int .i64 a0_2, .int .i64 a0_3] 23 (0, 0)) (by refine bs_ ?_; exact BK526.out)) : gb535 ≠ gb526)); clear BK526; clear HB; have BK526 := n0_; have HB := n1_; have BK535 := n2_; have GW535 := n3_; have GE535 := n4_; have NB526_535 := n5_; have NB535_526 := n6_; clear n0_ n1_ n2_ n3_ n4_ n5_ n6_; clear hb hbox hg; have hnb18 := NB535_526.out; have hnc18 := NB526_535.out; have hcz19_0 : w17.cell? ⟨gb535, 0, none⟩ = some (.int .i64 0) := (blk_cell BK535.out 0).trans rfl; have hcz19_1 : w17.cell? ⟨gb535, 1, none⟩ = some (.int .i64 0) := (blk_cell BK535.out 1).trans rfl; have hcz19_2 : w17.cell? ⟨gb535, 2, none⟩ = some (.int .i64 0) := (blk_cell BK535.out 2).trans rfl; have hcz19_3 : w17.cell? ⟨gb535, 3, none⟩ = some (.int .i64 0) := (blk_cell BK535.out 3).trans rfl; have hfz19_0 := blk_frozen BK535.out 0; have hfz19_1 := blk_frozen BK535.out 1; have hfz19_2 := blk_frozen BK535.out 2; have hfz19_3 := blk_frozen BK535.out 3) | ((with_reducible refine gate_callee (f := 15) rfl ?_); refine goesL_ (some 32) rfl rfl Try.func15 (by kernel_rfl) rfl #[.agg #[.int .i64 t529, .int .i64 t530, .int .i64 t531, .int .i64 t532]] rfl mp_ ?_; (with_reducible refine (discs_Root.calls kj2 t529 t530 t531 t532 t536 t537 t538 t539 t540 t541 _ A13.out).mono ?_); rintro e w20 ⟨rfl, hb⟩; refine ⟨_, rfl, ?_⟩; have n0_ := Aside0.mk (blk_below (g := gb526) (o := .cells #[.int .i64 a0_0, .int .i64 a0_1, .int .i64 a0_2, .int .i64 a0_3] 23 (0, 0)) (by refine bs_ ?_; refine blk_far ?_ NB526_535.out _; refine bs_ ?_; refine blk_far ?_ NB526_535.out _; refine bs_ ?_; refine blk_far ?_ NB526_535.out _; refine bs_ ?_; refine blk_far ?_ NB526_535.out _; refine bs_ ?_; exact BK526.out) hb); have n1_ := Aside0.mk (blk_below (g := gb535) (o := .cells #[.int .i64 t529, .int .i64 t530, .int .i64 t531, .int .i64 t532] 23 (0, 0)) (by refine bs_ ?_; refine blk_put (cs := #[.int .i64 t529, .int .i64 t530, .int .i64 t531, .int .i64 0]) ?_ 3 _ rfl; refine bs_ ?_; refine blk_put (cs := #[.int .i64 t529, .int .i64 t530, .int .i64 0, .int .i64 0]) ?_ 2 _ rfl; refine bs_ ?_; refine blk_put (cs := #[.int .i64 t529, .int .i64 0, .int .i64 0, .int .i64 0]) ?_ 1 _ rfl; refine bs_ ?_; refine blk_put (cs := #[.int .i64 0, .int .i64 0, .int .i64 0, .int .i64 0]) ?_ 0 _ rfl; refine bs_ ?_; exact BK535.out) hb); have n2_ := Aside0.mk (below_step (by repeat (first | (with_reducible first | exact HB.out | apply below_alloc | apply pw_below_drewN | apply below_drew1 | refine below_set ?_ GE526.out | refine below_set ?_ GE535.out) | exact HB.out)) hb); clear BK526; clear BK535; clear HB; have BK526 := n0_; have BK535 := n1_; have HB := n2_; clear n0_ n1_ n2_; (try clear hb); (try clear hb2); (try clear hk); (try clear hi)) | ((with_reducible refine gate_dst (N := 8) rfl ?_); refine box_event ?hg (N := 8) ?hd (cs := #[.int .i64 0, .int .i64 0, .int .i64 0, .int .i64 0]) (t := 23) ?hr ?_; (case hd => rfl); (case hg => rfl); (case hr => exact gs_); intro gb542 hg w21 hbox hb; have n0_ := Aside0.mk (blk_below (g := gb526) (o := .cells #[.int .i64 a0_0, .int .i64 a0_1, .int .i64 a0_2, .int .i64 a0_3] 23 (0, 0)) (by refine bs_ ?_; exact BK526.out) hb); have n1_ := Aside0.mk (blk_below (g := gb535) (o := .cells #[.int .i64 t529, .int .i64 t530, .int .i64 t531, .int .i64 t532] 23 (0, 0)) (by refine bs_ ?_; exact BK535.out) hb); have n2_ := Aside0.mk (below_step (by repeat (first | (with_reducible first | exact HB.out | apply below_alloc | apply pw_below_drewN | apply below_drew1 | refine below_set ?_ GE526.out | refine below_set ?_ GE535.out) | exact HB.out)) hb); have n3_ := Aside0.mk (hbox); have n4_ := Aside0.mk ((by rw [hg]; exact (below_size (by repeat (first | (with_reducible first | exact HB.out | apply below_alloc | apply pw_below_drewN | apply below_drew1 | refine below_set ?_ GE526.out | refine below_set ?_ GE535.out) | exact HB.out))) : w.heap.size ≤ gb542)); have n5_ := Aside0.mk ((by rw [hg]; exact (below_size (by repeat (first | (with_reducible first | exact HB.out | apply below_alloc | apply pw_below_drewN | apply below_drew1 | refine below_set ?_ GE526.out | refine below_set ?_ GE535.out) | exact HB.out))) : w.heap.size ≤ gb542)); have n6_ := Aside0.mk ((by rw [hg]; exact Nat.ne_of_lt (blk_lt (g := gb526) (o := .cells #[.int .i64 a0_0, .int .i64 a0_1, .int .i64 a0_2, .int .i64 a0_3] 23 (0, 0)) (by refine bs_ ?_; exact BK526.out)) : gb526 ≠ gb542)); have n7_ := Aside0.mk ((by rw [hg]; exact Nat.ne_of_gt (blk_lt (g := gb526) (o := .cells #[.int .i64 a0_0, .int .i64 a0_1, .int .i64 a0_2, .int .i64 a0_3] 23 (0, 0)) (by refine bs_ ?_; exact BK526.out)) : gb542 ≠ gb526)); have n8_ := Aside0.mk ((by rw [hg]; exact Nat.ne_of_lt (blk_lt (g := gb535) (o := .cells #[.int .i64 t529, .int .i64 t530, .int .i64 t531, .int .i64 t532] 23 (0, 0)) (by refine bs_ ?_; exact BK535.out)) : gb535 ≠ gb542)); have n9_ := Aside0.mk ((by rw [hg]; exact Nat.ne_of_gt (blk_lt (g := gb535) (o := .cells #[.int .i64 t529, .int .i64 t530, .int .i64 t531, .int .i64 t532] 23 (0, 0)) (by refine bs_ ?_; exact BK535.out)) : gb542 ≠ gb535)); clear BK526; clear BK535; clear HB; have BK526 := n0_; have BK535 := n1_; have HB := n2_; have BK542 := n3_; have GW542 := n4_; have GE542 := n5_; have NB526_542 := n6_; have NB542_526 := n7_; have NB535_542 := n8_; have NB542_535 := n9_; clear n0_ n1_ n2_ n3_ n4_ n5_ n6_ n7_ n8_ n9_; clear hb hbox hg; have hnb22 := NB542_526.out; have hnc22 := NB526_542.out; have hnb23 := NB542_535.out; have hnc23 := NB535_542.out; have hcz24_0 : w21.cell? ⟨gb542, 0, none⟩ = some (.int .i64 0) := (blk_cell BK542.out 0).trans rfl; have hcz24_1 : w21.cell? ⟨gb542, 1, none⟩ = some (.int .i64 0) := (blk_cell BK542.out 1).trans rfl; have hcz24_2 : w21.cell? ⟨gb542, 2, none⟩ = some (.int .i64 0) := (blk_cell BK542.out 2).trans rfl; have hcz24_3 : w21.cell? ⟨gb542, 3, none⟩ = some (.int .i64 0) := (blk_cell BK542.out 3).trans rfl; have hfz24_0 := blk_frozen BK542.out 0; have hfz24_1 := blk_frozen BK542.out 1; have hfz24_2 := blk_frozen BK542.out 2; have hfz24_3 := blk_frozen BK542.out 3))
    (try simp only [Act.put, List.setIfInBounds_toArray, List.set_cons_zero, List.set_cons_succ])
    go_cut [74] (fun v74 wc => ∃ (kq : Nat) (x74_13 : Bool), v74 = .bool x74_13 ∧ Aside0 (clochelaw01_DiscsReached.j1 kq l1 x74_13 a0_0 a0_1 a0_2 a0_3 t529 t530 t531 t532 = some r) ∧ Aside0 (kq ≤ kj2) ∧ Aside0 (wc.heap[gb526]? = some (.cells #[.int .i64 a0_0, .int .i64 a0_1, .int .i64 a0_2, .int .i64 a0_3] 23 (0, 0))) ∧ Aside0 (wc.heap[gb535]? = some (.cells #[.int .i64 t529, .int .i64 t530, .int .i64 t531, .int .i64 t532] 23 (0, 0))) ∧ Aside0 (wc.heap[gb542]? = some (.cells #[.int .i64 t536, .int .i64 t537, .int .i64 t538, .int .i64 t539] 23 (0, 0))) ∧ Aside0 (Below w.heap.size w wc))
    case first =>
     have H := HC14.out
     clear HC14
     by_cases c25 : t534 = 0
     ·rw [if_pos c25] at H
      have c25b0 : (t534 == 0) = true := beq_iff_eq.mpr c25
      have c25b1 : (t534 != 0) = false := bne_eq_false_iff_eq.mpr c25
      clear c25
      (first | rw [c25b0] | (simp only [i64_w, i32_w]; rw [c25b0]) | skip)
      by_cases c26 : t541 = 0
      ·rw [if_pos c26] at H
       have c26b0 : (t541 == 0) = true := beq_iff_eq.mpr c26
       have c26b1 : (t541 != 0) = false := bne_eq_false_iff_eq.mpr c26
       clear c26
       replace H := Option.bind_eq_some_iff.mp H
       obtain ⟨t543, A270, H⟩ := H
       replace H : (if t543 = true then ((clocheref01_IsRoot.f kj2 t529 t530 t531 t532).bind fun t544 => (if t544 = true then (if (!(t536 == t529) || (!(t537 == t530) || (!(t538 == t531) || (!(t539 == t532))))) = true then (none) else (if t540 = 0 then (if t533 < 0 then (none) else (if t533 = 0 then ((clocheref01_Sorted.f kj2 a0_0 a0_1 a0_2 a0_3).bind fun bt545 => (clochelaw01_DiscsReached.j1 kj2 l1 (!(t529 == bt545.1) || (!(t530 == bt545.2.1) || (!(t531 == bt545.2.2.1) || (!(t532 == bt545.2.2.2))))) a0_0 a0_1 a0_2 a0_3 t529 t530 t531 t532)) else (clochelaw01_DiscsReached.j1 kj2 l1 false a0_0 a0_1 a0_2 a0_3 t529 t530 t531 t532))) else (none))) else (none))) else (none)) = some r := H
       have A27 := Aside0.mk A270
       clear A270
       by_cases c28 : t543 = true
       ·subst c28
        have H1 : ((clocheref01_IsRoot.f kj2 t529 t530 t531 t532).bind fun t544 => (if t544 = true then (if (!(t536 == t529) || (!(t537 == t530) || (!(t538 == t531) || (!(t539 == t532))))) = true then (none) else (if t540 = 0 then (if t533 < 0 then (none) else (if t533 = 0 then ((clocheref01_Sorted.f kj2 a0_0 a0_1 a0_2 a0_3).bind fun bt545 => (clochelaw01_DiscsReached.j1 kj2 l1 (!(t529 == bt545.1) || (!(t530 == bt545.2.1) || (!(t531 == bt545.2.2.1) || (!(t532 == bt545.2.2.2))))) a0_0 a0_1 a0_2 a0_3 t529 t530 t531 t532)) else (clochelaw01_DiscsReached.j1 kj2 l1 false a0_0 a0_1 a0_2 a0_3 t529 t530 t531 t532))) else (none))) else (none))) = some r := by rw [if_pos rfl] at H; exact H
        clear H
        have H := H1
        clear H1
        replace H := Option.bind_eq_some_iff.mp H
        obtain ⟨t544, A290, H⟩ := H
        replace H : (if t544 = true then (if (!(t536 == t529) || (!(t537 == t530) || (!(t538 == t531) || (!(t539 == t532))))) = true then (none) else (if t540 = 0 then (if t533 < 0 then (none) else (if t533 = 0 then ((clocheref01_Sorted.f kj2 a0_0 a0_1 a0_2 a0_3).bind fun bt545 => (clochelaw01_DiscsReached.j1 kj2 l1 (!(t529 == bt545.1) || (!(t530 == bt545.2.1) || (!(t531 == bt545.2.2.1) || (!(t532 == bt545.2.2.2))))) a0_0 a0_1 a0_2 a0_3 t529 t530 t531 t532)) else (clochelaw01_DiscsReached.j1 kj2 l1 false a0_0 a0_1 a0_2 a0_3 t529 t530 t531 t532))) else (none))) else (none)) = some r := H
        have A29 := Aside0.mk A290
        clear A290
        by_cases c30 : t544 = true
        ·subst c30
         have H1 : (if (!(t536 == t529) || (!(t537 == t530) || (!(t538 == t531) || (!(t539 == t532))))) = true then (none) else (if t540 = 0 then (if t533 < 0 then (none) else (if t533 = 0 then ((clocheref01_Sorted.f kj2 a0_0 a0_1 a0_2 a0_3).bind fun bt545 => (clochelaw01_DiscsReached.j1 kj2 l1 (!(t529 == bt545.1) || (!(t530 == bt545.2.1) || (!(t531 == bt545.2.2.1) || (!(t532 == bt545.2.2.2))))) a0_0 a0_1 a0_2 a0_3 t529 t530 t531 t532)) else (clochelaw01_DiscsReached.j1 kj2 l1 false a0_0 a0_1 a0_2 a0_3 t529 t530 t531 t532))) else (none))) = some r := by rw [if_pos rfl] at H; exact H
         clear H
         have H := H1
         clear H1
         by_cases c31 : (!(t536 == t529) || (!(t537 == t530) || (!(t538 == t531) || (!(t539 == t532))))) = true
         ·rw [if_pos c31] at H
          exact absurd H (by simp)
         ·rw [if_neg c31] at H
          have c31b0 : (!(t536 == t529) || (!(t537 == t530) || (!(t538 == t531) || (!(t539 == t532))))) = false := by simpa using c31
          clear c31
          by_cases c32 : t540 = 0
          ·rw [if_pos c32] at H
           have c32b0 : (t540 == 0) = true := beq_iff_eq.mpr c32
           have c32b1 : (t540 != 0) = false := bne_eq_false_iff_eq.mpr c32
           clear c32
           by_cases c33 : t533 < 0
           ·rw [if_pos c33] at H
            exact absurd H (by simp)
           ·rw [if_neg c33] at H
            have c33b0 : decide (t533 < 0) = false := decide_eq_false c33
            clear c33
            by_cases c34 : t533 = 0
            ·rw [if_pos c34] at H
             have c34b0 : (t533 == 0) = true := beq_iff_eq.mpr c34
             have c34b1 : (t533 != 0) = false := bne_eq_false_iff_eq.mpr c34
             clear c34
             replace H := Option.bind_eq_some_iff.mp H
             obtain ⟨⟨t545, t546, t547, t548⟩, A350, H⟩ := H
             replace H : (clochelaw01_DiscsReached.j1 kj2 l1 (!(t529 == t545) || (!(t530 == t546) || (!(t531 == t547) || (!(t532 == t548))))) a0_0 a0_1 a0_2 a0_3 t529 t530 t531 t532) = some r := H
             have A35 := Aside0.mk A350
             clear A350
             have H' := Aside0.mk H
             clear H
             try go_wp2
             have n0_ : Aside0 (((((w21.setCell ⟨gb542, 0, none⟩ (.int .i64 t536)).setCell ⟨gb542, 1, none⟩ (.int .i64 t537)).setCell ⟨gb542, 2, none⟩ (.int .i64 t538)).setCell ⟨gb542, 3, none⟩ (.int .i64 t539)).heap[gb526]? = some (.cells #[.int .i64 a0_0, .int .i64 a0_1, .int .i64 a0_2, .int .i64 a0_3] 23 (0, 0))) := ⟨by refine bs_ ?_; refine blk_far ?_ NB526_542.out _; refine bs_ ?_; refine blk_far ?_ NB526_542.out _; refine bs_ ?_; refine blk_far ?_ NB526_542.out _; refine bs_ ?_; refine blk_far ?_ NB526_542.out _; refine bs_ ?_; exact BK526.out⟩
             have n1_ : Aside0 (((((w21.setCell ⟨gb542, 0, none⟩ (.int .i64 t536)).setCell ⟨gb542, 1, none⟩ (.int .i64 t537)).setCell ⟨gb542, 2, none⟩ (.int .i64 t538)).setCell ⟨gb542, 3, none⟩ (.int .i64 t539)).heap[gb535]? = some (.cells #[.int .i64 t529, .int .i64 t530, .int .i64 t531, .int .i64 t532] 23 (0, 0))) := ⟨by refine bs_ ?_; refine blk_far ?_ NB535_542.out _; refine bs_ ?_; refine blk_far ?_ NB535_542.out _; refine bs_ ?_; refine blk_far ?_ NB535_542.out _; refine bs_ ?_; refine blk_far ?_ NB535_542.out _; refine bs_ ?_; exact BK535.out⟩
             have n2_ : Aside0 (((((w21.setCell ⟨gb542, 0, none⟩ (.int .i64 t536)).setCell ⟨gb542, 1, none⟩ (.int .i64 t537)).setCell ⟨gb542, 2, none⟩ (.int .i64 t538)).setCell ⟨gb542, 3, none⟩ (.int .i64 t539)).heap[gb542]? = some (.cells #[.int .i64 t536, .int .i64 t537, .int .i64 t538, .int .i64 t539] 23 (0, 0))) := ⟨by refine bs_ ?_; refine blk_put (cs := #[.int .i64 t536, .int .i64 t537, .int .i64 t538, .int .i64 0]) ?_ 3 _ rfl; refine bs_ ?_; refine blk_put (cs := #[.int .i64 t536, .int .i64 t537, .int .i64 0, .int .i64 0]) ?_ 2 _ rfl; refine bs_ ?_; refine blk_put (cs := #[.int .i64 t536, .int .i64 0, .int .i64 0, .int .i64 0]) ?_ 1 _ rfl; refine bs_ ?_; refine blk_put (cs := #[.int .i64 0, .int .i64 0, .int .i64 0, .int .i64 0]) ?_ 0 _ rfl; refine bs_ ?_; exact BK542.out⟩
             have n3_ : Aside0 (Below w.heap.size w ((((w21.setCell ⟨gb542, 0, none⟩ (.int .i64 t536)).setCell ⟨gb542, 1, none⟩ (.int .i64 t537)).setCell ⟨gb542, 2, none⟩ (.int .i64 t538)).setCell ⟨gb542, 3, none⟩ (.int .i64 t539))) := ⟨by repeat (first | (with_reducible first | exact HB.out | apply below_alloc | apply pw_below_drewN | apply below_drew1 | refine below_set ?_ GE526.out | refine below_set ?_ GE535.out | refine below_set ?_ GE542.out) | exact HB.out)⟩
             (try clear BK526)
             (try clear BK535)
             (try clear BK542)
             (try clear HB)
             generalize ((((w21.setCell ⟨gb542, 0, none⟩ (.int .i64 t536)).setCell ⟨gb542, 1, none⟩ (.int .i64 t537)).setCell ⟨gb542, 2, none⟩ (.int .i64 t538)).setCell ⟨gb542, 3, none⟩ (.int .i64 t539)) = w36 at n0_ n1_ n2_ n3_ ⊢
             have BK526 := n0_
             have BK535 := n1_
             have BK542 := n2_
             have HB := n3_
             clear n0_ n1_ n2_ n3_
             have n0_ := Aside0.mk (blk_drew BK526.out)
             have n1_ := Aside0.mk (blk_drew BK535.out)
             have n2_ := Aside0.mk (blk_drew BK542.out)
             have n3_ := Aside0.mk (below_drew1 HB.out)
             clear BK526
             clear BK535
             clear BK542
             clear HB
             have BK526 := n0_
             have BK535 := n1_
             have BK542 := n2_
             have HB := n3_
             clear n0_ n1_ n2_ n3_
             refine start_ (n := 39) (S := fun w' => w'.cell? ⟨gb535, 0, none⟩ = some (.int .i64 t529) ∧ w'.cell? ⟨gb535, 1, none⟩ = some (.int .i64 t530) ∧ w'.cell? ⟨gb535, 2, none⟩ = some (.int .i64 t531) ∧ w'.cell? ⟨gb535, 3, none⟩ = some (.int .i64 t532) ∧ w'.cell? ⟨gb542, 0, none⟩ = some (.int .i64 t536) ∧ w'.cell? ⟨gb542, 1, none⟩ = some (.int .i64 t537) ∧ w'.cell? ⟨gb542, 2, none⟩ = some (.int .i64 t538) ∧ w'.cell? ⟨gb542, 3, none⟩ = some (.int .i64 t539) ∧ w'.cell? ⟨gb526, 0, none⟩ = some (.int .i64 a0_0) ∧ w'.cell? ⟨gb526, 1, none⟩ = some (.int .i64 a0_1) ∧ w'.cell? ⟨gb526, 2, none⟩ = some (.int .i64 a0_2) ∧ w'.cell? ⟨gb526, 3, none⟩ = some (.int .i64 a0_3)) (ds := []) #[false, false, false, false, false, false, false, false, false, false, false, false, false, false, false, false, false, false, false, false, false, false, false, false, false, false, false, false, false, false, false, false, false, false, false, false, false, false, false] (by kernel_rfl) rfl rfl ⟨(blk_cell BK535.out 0).trans rfl, (blk_cell BK535.out 1).trans rfl, (blk_cell BK535.out 2).trans rfl, (blk_cell BK535.out 3).trans rfl, (blk_cell BK542.out 0).trans rfl, (blk_cell BK542.out 1).trans rfl, (blk_cell BK542.out 2).trans rfl, (blk_cell BK542.out 3).trans rfl, (blk_cell BK526.out 0).trans rfl, (blk_cell BK526.out 1).trans rfl, (blk_cell BK526.out 2).trans rfl, (blk_cell BK526.out 3).trans rfl⟩ (fun hHeld => ?_); refine with_tabW clochelaw01_DiscsReached.tab5 clochelaw01_DiscsReached.bits5 (fun HT_ HW_ => ?_)
             generalize w36.drew = w37 at BK526 BK535 BK542 HB hHeld ⊢
             refine pure_ (i := 0) (N := some 36) (v := ?_) (a' := ?_) #[true, false, false, false, false, false, false, false, false, false, false, false, false, false, false, false, false, false, false, false, false, false, false, false, false, false, false, false, false, false, false, false, false, false, false, false, false, false, false] rfl rfl (any_of HT_.out (by kernel_rfl)) (fun _ _ _ h => h) (Or.inl ⟨by rfl, ?_⟩) ?_ ?_
             rotate_left
             ·intro w'
              go_simp
              with_reducible rfl
             rotate_left
             ·exact pt_
             refine pure_ (i := 1) (N := some 37) (v := ?_) (a' := ?_) #[true, true, false, false, false, false, false, false, false, false, false, false, false, false, false, false, false, false, false, false, false, false, false, false, false, false, false, false, false, false, false, false, false, false, false, false, false, false, false] rfl rfl (any_of HT_.out (by kernel_rfl)) (fun _ _ _ h => h) (Or.inl ⟨by rfl, ?_⟩) ?_ ?_
             rotate_left
             ·intro w'
              go_simp
              with_reducible rfl
             rotate_left
             ·exact pt_
             refine pure_ (i := 2) (N := some 38) (v := ?_) (a' := ?_) #[true, true, true, false, false, false, false, false, false, false, false, false, false, false, false, false, false, false, false, false, false, false, false, false, false, false, false, false, false, false, false, false, false, false, false, false, false, false, false] rfl rfl (any_of HT_.out (by kernel_rfl)) (fun _ _ _ h => h) (Or.inl ⟨by rfl, ?_⟩) ?_ ?_
             rotate_left
             ·intro w'
              go_simp
              with_reducible rfl
             rotate_left
             ·exact pt_
             refine pure_ (i := 3) (N := some 39) (v := ?_) (a' := ?_) #[true, true, true, true, false, false, false, false, false, false, false, false, false, false, false, false, false, false, false, false, false, false, false, false, false, false, false, false, false, false, false, false, false, false, false, false, false, false, false] rfl rfl (any_of HT_.out (by kernel_rfl)) (fun _ _ _ h => h) (Or.inl ⟨by rfl, ?_⟩) ?_ ?_
             rotate_left
             ·intro w'
              go_simp
              with_reducible rfl
             rotate_left
             ·exact pt_
             refine pure_ (i := 4) (N := some 40) (v := ?_) (a' := ?_) #[true, true, true, true, true, false, false, false, false, false, false, false, false, false, false, false, false, false, false, false, false, false, false, false, false, false, false, false, false, false, false, false, false, false, false, false, false, false, false] rfl rfl (any_of HT_.out (by kernel_rfl)) (fun _ _ _ h => h) (Or.inl ⟨by rfl, ?_⟩) ?_ ?_
             rotate_left
             ·intro w'
              go_simp
              with_reducible rfl
             rotate_left
             ·exact pt_
             refine pure_ (i := 5) (N := some 41) (v := ?_) (a' := ?_) #[true, true, true, true, true, true, false, false, false, false, false, false, false, false, false, false, false, false, false, false, false, false, false, false, false, false, false, false, false, false, false, false, false, false, false, false, false, false, false] rfl rfl (any_of HT_.out (by kernel_rfl)) (fun _ _ _ h => h) (Or.inl ⟨by rfl, ?_⟩) ?_ ?_
             rotate_left
             ·intro w'
              go_simp
              with_reducible rfl
             rotate_left
             ·exact pt_
             refine pure_ (i := 6) (N := some 42) (v := ?_) (a' := ?_) #[true, true, true, true, true, true, true, false, false, false, false, false, false, false, false, false, false, false, false, false, false, false, false, false, false, false, false, false, false, false, false, false, false, false, false, false, false, false, false] rfl rfl (any_of HT_.out (by kernel_rfl)) (fun _ _ _ h => h) (Or.inl ⟨by rfl, ?_⟩) ?_ ?_
             rotate_left
             ·intro w'
              go_simp
              with_reducible rfl
             rotate_left
             ·exact pt_
             refine take_ (i := 7) (N := some 43) (v := ?_) (a' := ?_) #[true, true, true, true, true, true, true, true, false, false, false, false, false, false, false, false, false, false, false, false, false, false, false, false, false, false, false, false, false, false, false, false, false, false, false, false, false, false, false] rfl rfl (take_ofW HT_.out HW_.out (by kernel_rfl)) (fun _ _ _ h => h) (Or.inl ⟨by rfl, ?_⟩) hHeld ?_ ?_
             rotate_left
             ·rintro w' ⟨s0, s1, s2, s3, s4, s5, s6, s7, s8, s9, s10, s11⟩
              go_simp
              with_reducible rfl
             rotate_left
             ·exact pt_
             refine one_ (i := 8) (N := some 44) #[true, true, true, true, true, true, true, true, true, false, false, false, false, false, false, false, false, false, false, false, false, false, false, false, false, false, false, false, false, false, false, false, false, false, false, false, false, false, false] rfl rfl (one_of HT_.out (by kernel_rfl)) (by decide) (fun K hK => ?_)
             refine goes_ Try.func33 (by kernel_rfl) rfl #[.agg #[.int .i64 t529, .int .i64 t530, .int .i64 t531, .int .i64 t532]] (by rfl) rfl rfl mp_ ?_
             with_reducible refine (discs_IsRoot.calls kj2 t529 t530 t531 t532 true _ A27.out).mono ?_
             rintro e w38 ⟨rfl, hb⟩
             refine ⟨_, rfl, ?_⟩
             have n0_ := Aside0.mk (blk_below (g := gb526) (o := .cells #[.int .i64 a0_0, .int .i64 a0_1, .int .i64 a0_2, .int .i64 a0_3] 23 (0, 0)) (by refine bs_ ?_; exact BK526.out) hb)
             have n1_ := Aside0.mk (blk_below (g := gb535) (o := .cells #[.int .i64 t529, .int .i64 t530, .int .i64 t531, .int .i64 t532] 23 (0, 0)) (by refine bs_ ?_; exact BK535.out) hb)
             have n2_ := Aside0.mk (blk_below (g := gb542) (o := .cells #[.int .i64 t536, .int .i64 t537, .int .i64 t538, .int .i64 t539] 23 (0, 0)) (by refine bs_ ?_; exact BK542.out) hb)
             have n3_ := Aside0.mk (below_step (by repeat (first | (with_reducible first | exact HB.out | apply below_alloc | apply pw_below_drewN | apply below_drew1 | refine below_set ?_ GE526.out | refine below_set ?_ GE535.out | refine below_set ?_ GE542.out) | exact HB.out)) hb)
             clear BK526
             clear BK535
             clear BK542
             clear HB
             have BK526 := n0_
             have BK535 := n1_
             have BK542 := n2_
             have HB := n3_
             clear n0_ n1_ n2_ n3_
             (try clear hb)
             (try clear hb2)
             (try clear hk)
             (try clear hi)
             refine hK.out _ _ ⟨(blk_cell BK535.out 0).trans rfl, (blk_cell BK535.out 1).trans rfl, (blk_cell BK535.out 2).trans rfl, (blk_cell BK535.out 3).trans rfl, (blk_cell BK542.out 0).trans rfl, (blk_cell BK542.out 1).trans rfl, (blk_cell BK542.out 2).trans rfl, (blk_cell BK542.out 3).trans rfl, (blk_cell BK526.out 0).trans rfl, (blk_cell BK526.out 1).trans rfl, (blk_cell BK526.out 2).trans rfl, (blk_cell BK526.out 3).trans rfl⟩ (fun hHeld => ?_)
             clear hK K
             refine norm_ (a' := ?_) ?_ ?_
             rotate_left
             ·show Act.put _ (some 44) _ = _
              exact pt_
             refine pure_ (i := 9) (N := some 45) (v := ?_) (a' := ?_) #[true, true, true, true, true, true, true, true, true, true, false, false, false, false, false, false, false, false, false, false, false, false, false, false, false, false, false, false, false, false, false, false, false, false, false, false, false, false, false] rfl rfl (any_of HT_.out (by kernel_rfl)) (fun _ _ _ h => h) (Or.inl ⟨by rfl, ?_⟩) ?_ ?_
             rotate_left
             ·intro w'
              go_simp
              with_reducible rfl
             rotate_left
             ·exact pt_
             refine pure_ (i := 10) (N := some 46) (v := ?_) (a' := ?_) #[true, true, true, true, true, true, true, true, true, true, true, false, false, false, false, false, false, false, false, false, false, false, false, false, false, false, false, false, false, false, false, false, false, false, false, false, false, false, false] rfl rfl (any_of HT_.out (by kernel_rfl)) (fun _ _ _ h => h) (Or.inl ⟨by rfl, ?_⟩) ?_ ?_
             rotate_left
             ·intro w'
              go_simp
              with_reducible rfl
             rotate_left
             ·exact pt_
             refine pure_ (i := 11) (N := some 47) (v := ?_) (a' := ?_) #[true, true, true, true, true, true, true, true, true, true, true, true, false, false, false, false, false, false, false, false, false, false, false, false, false, false, false, false, false, false, false, false, false, false, false, false, false, false, false] rfl rfl (any_of HT_.out (by kernel_rfl)) (fun _ _ _ h => h) (Or.inl ⟨by rfl, ?_⟩) ?_ ?_
             rotate_left
             ·intro w'
              go_simp
              with_reducible rfl
             rotate_left
             ·exact pt_
             refine take_ (i := 12) (N := some 48) (v := ?_) (a' := ?_) #[true, true, true, true, true, true, true, true, true, true, true, true, true, false, false, false, false, false, false, false, false, false, false, false, false, false, false, false, false, false, false, false, false, false, false, false, false, false, false] rfl rfl (take_ofW HT_.out HW_.out (by kernel_rfl)) (fun _ _ _ h => h) (Or.inl ⟨by rfl, ?_⟩) hHeld ?_ ?_
             rotate_left
             ·rintro w' ⟨s0, s1, s2, s3, s4, s5, s6, s7, s8, s9, s10, s11⟩
              go_simp
              with_reducible rfl
             rotate_left
             ·exact pt_
             refine one_ (i := 13) (N := some 49) #[true, true, true, true, true, true, true, true, true, true, true, true, true, true, false, false, false, false, false, false, false, false, false, false, false, false, false, false, false, false, false, false, false, false, false, false, false, false, false] rfl rfl (one_of HT_.out (by kernel_rfl)) (by decide) (fun K hK => ?_)
             refine goes_ Try.func39 (by kernel_rfl) rfl #[.agg #[.int .i64 t529, .int .i64 t530, .int .i64 t531, .int .i64 t532]] (by rfl) rfl rfl mp_ ?_
             with_reducible refine (clocheref01_IsRoot.calls kj2 t529 t530 t531 t532 true _ A29.out).mono ?_
             rintro e w39 ⟨rfl, hb⟩
             refine ⟨_, rfl, ?_⟩
             have n0_ := Aside0.mk (blk_below (g := gb526) (o := .cells #[.int .i64 a0_0, .int .i64 a0_1, .int .i64 a0_2, .int .i64 a0_3] 23 (0, 0)) (by refine bs_ ?_; exact BK526.out) hb)
             have n1_ := Aside0.mk (blk_below (g := gb535) (o := .cells #[.int .i64 t529, .int .i64 t530, .int .i64 t531, .int .i64 t532] 23 (0, 0)) (by refine bs_ ?_; exact BK535.out) hb)
             have n2_ := Aside0.mk (blk_below (g := gb542) (o := .cells #[.int .i64 t536, .int .i64 t537, .int .i64 t538, .int .i64 t539] 23 (0, 0)) (by refine bs_ ?_; exact BK542.out) hb)
             have n3_ := Aside0.mk (below_step (by repeat (first | (with_reducible first | exact HB.out | apply below_alloc | apply pw_below_drewN | apply below_drew1 | refine below_set ?_ GE526.out | refine below_set ?_ GE535.out | refine below_set ?_ GE542.out) | exact HB.out)) hb)
             clear BK526
             clear BK535
             clear BK542
             clear HB
             have BK526 := n0_
             have BK535 := n1_
             have BK542 := n2_
             have HB := n3_
             clear n0_ n1_ n2_ n3_
             (try clear hb)
             (try clear hb2)
             (try clear hk)
             (try clear hi)
             refine hK.out _ _ ⟨(blk_cell BK535.out 0).trans rfl, (blk_cell BK535.out 1).trans rfl, (blk_cell BK535.out 2).trans rfl, (blk_cell BK535.out 3).trans rfl, (blk_cell BK542.out 0).trans rfl, (blk_cell BK542.out 1).trans rfl, (blk_cell BK542.out 2).trans rfl, (blk_cell BK542.out 3).trans rfl, (blk_cell BK526.out 0).trans rfl, (blk_cell BK526.out 1).trans rfl, (blk_cell BK526.out 2).trans rfl, (blk_cell BK526.out 3).trans rfl⟩ (fun hHeld => ?_)
             clear hK K
             refine norm_ (a' := ?_) ?_ ?_
             rotate_left
             ·show Act.put _ (some 49) _ = _
              exact pt_
             refine pure_ (i := 14) (N := some 50) (v := ?_) (a' := ?_) #[true, true, true, true, true, true, true, true, true, true, true, true, true, true, true, false, false, false, false, false, false, false, false, false, false, false, false, false, false, false, false, false, false, false, false, false, false, false, false] rfl rfl (any_of HT_.out (by kernel_rfl)) (fun _ _ _ h => h) (Or.inl ⟨by rfl, ?_⟩) ?_ ?_
             rotate_left
             ·intro w'
              go_simp
              with_reducible rfl
             rotate_left
             ·exact pt_
             refine pure_ (i := 15) (N := some 51) (v := ?_) (a' := ?_) #[true, true, true, true, true, true, true, true, true, true, true, true, true, true, true, true, false, false, false, false, false, false, false, false, false, false, false, false, false, false, false, false, false, false, false, false, false, false, false] rfl rfl (any_of HT_.out (by kernel_rfl)) (fun _ _ _ h => h) (Or.inl ⟨by rfl, ?_⟩) ?_ ?_
             rotate_left
             ·intro w'
              go_simp
              with_reducible rfl
             rotate_left
             ·exact pt_
             refine pure_ (i := 16) (N := some 52) (v := ?_) (a' := ?_) #[true, true, true, true, true, true, true, true, true, true, true, true, true, true, true, true, true, false, false, false, false, false, false, false, false, false, false, false, false, false, false, false, false, false, false, false, false, false, false] rfl rfl (any_of HT_.out (by kernel_rfl)) (fun _ _ _ h => h) (Or.inl ⟨by rfl, ?_⟩) ?_ ?_
             rotate_left
             ·intro w'
              go_simp
              with_reducible rfl
             rotate_left
             ·exact pt_
             refine take_ (i := 17) (N := some 53) (v := ?_) (a' := ?_) #[true, true, true, true, true, true, true, true, true, true, true, true, true, true, true, true, true, true, false, false, false, false, false, false, false, false, false, false, false, false, false, false, false, false, false, false, false, false, false] rfl rfl (take_ofW HT_.out HW_.out (by kernel_rfl)) (fun _ _ _ h => h) (Or.inl ⟨by rfl, ?_⟩) hHeld ?_ ?_
             rotate_left
             ·rintro w' ⟨s0, s1, s2, s3, s4, s5, s6, s7, s8, s9, s10, s11⟩
              go_simp
              with_reducible rfl
             rotate_left
             ·exact pt_
             refine take_ (i := 18) (N := some 54) (v := ?_) (a' := ?_) #[true, true, true, true, true, true, true, true, true, true, true, true, true, true, true, true, true, true, true, false, false, false, false, false, false, false, false, false, false, false, false, false, false, false, false, false, false, false, false] rfl rfl (take_ofW HT_.out HW_.out (by kernel_rfl)) (fun _ _ _ h => h) (Or.inl ⟨by rfl, ?_⟩) hHeld ?_ ?_
             rotate_left
             ·rintro w' ⟨s0, s1, s2, s3, s4, s5, s6, s7, s8, s9, s10, s11⟩
              go_simp
              with_reducible rfl
             rotate_left
             ·exact pt_
             refine pure_ (i := 19) (N := some 55) (v := ?_) (a' := ?_) #[true, true, true, true, true, true, true, true, true, true, true, true, true, true, true, true, true, true, true, true, false, false, false, false, false, false, false, false, false, false, false, false, false, false, false, false, false, false, false] rfl rfl (any_of HT_.out (by kernel_rfl)) (fun _ _ _ h => h) (Or.inl ⟨by rfl, ?_⟩) ?_ ?_
             rotate_left
             ·intro w'
              go_simp
              with_reducible rfl
             rotate_left
             ·exact pt_
             refine pure_ (i := 20) (N := some 56) (v := ?_) (a' := ?_) #[true, true, true, true, true, true, true, true, true, true, true, true, true, true, true, true, true, true, true, true, true, false, false, false, false, false, false, false, false, false, false, false, false, false, false, false, false, false, false] rfl rfl (any_of HT_.out (by kernel_rfl)) (fun _ _ _ h => h) (Or.inl ⟨by rfl, ?_⟩) ?_ ?_
             rotate_left
             ·intro w'
              go_simp
              with_reducible rfl
             rotate_left
             ·exact pt_
             refine pure_ (i := 21) (N := some 57) (v := ?_) (a' := ?_) #[true, true, true, true, true, true, true, true, true, true, true, true, true, true, true, true, true, true, true, true, true, true, false, false, false, false, false, false, false, false, false, false, false, false, false, false, false, false, false] rfl rfl (any_of HT_.out (by kernel_rfl)) (fun _ _ _ h => h) (Or.inl ⟨by rfl, ?_⟩) ?_ ?_
             rotate_left
             ·intro w'
              go_simp
              with_reducible rfl
             rotate_left
             ·exact pt_
             refine pure_ (i := 22) (N := some 58) (v := ?_) (a' := ?_) #[true, true, true, true, true, true, true, true, true, true, true, true, true, true, true, true, true, true, true, true, true, true, true, false, false, false, false, false, false, false, false, false, false, false, false, false, false, false, false] rfl rfl (any_of HT_.out (by kernel_rfl)) (fun _ _ _ h => h) (Or.inl ⟨by rfl, ?_⟩) ?_ ?_
             rotate_left
             ·intro w'
              go_simp
              with_reducible rfl
             rotate_left
             ·exact pt_
             refine pure_ (i := 23) (N := some 59) (v := ?_) (a' := ?_) #[true, true, true, true, true, true, true, true, true, true, true, true, true, true, true, true, true, true, true, true, true, true, true, true, false, false, false, false, false, false, false, false, false, false, false, false, false, false, false] rfl rfl (any_of HT_.out (by kernel_rfl)) (fun _ _ _ h => h) (Or.inl ⟨by rfl, ?_⟩) ?_ ?_
             rotate_left
             ·intro w'
              go_simp
              with_reducible rfl
             rotate_left
             ·exact pt_
             refine pure_ (i := 24) (N := some 60) (v := ?_) (a' := ?_) #[true, true, true, true, true, true, true, true, true, true, true, true, true, true, true, true, true, true, true, true, true, true, true, true, true, false, false, false, false, false, false, false, false, false, false, false, false, false, false] rfl rfl (any_of HT_.out (by kernel_rfl)) (fun _ _ _ h => h) (Or.inl ⟨by rfl, ?_⟩) ?_ ?_
             rotate_left
             ·intro w'
              go_simp
              with_reducible rfl
             rotate_left
             ·exact pt_
             refine pure_ (i := 25) (N := some 61) (v := ?_) (a' := ?_) #[true, true, true, true, true, true, true, true, true, true, true, true, true, true, true, true, true, true, true, true, true, true, true, true, true, true, false, false, false, false, false, false, false, false, false, false, false, false, false] rfl rfl (any_of HT_.out (by kernel_rfl)) (fun _ _ _ h => h) (Or.inl ⟨by rfl, ?_⟩) ?_ ?_
             rotate_left
             ·intro w'
              go_simp
              with_reducible rfl
             rotate_left
             ·exact pt_
             refine pure_ (i := 26) (N := some 62) (v := ?_) (a' := ?_) #[true, true, true, true, true, true, true, true, true, true, true, true, true, true, true, true, true, true, true, true, true, true, true, true, true, true, true, false, false, false, false, false, false, false, false, false, false, false, false] rfl rfl (any_of HT_.out (by kernel_rfl)) (fun _ _ _ h => h) (Or.inl ⟨by rfl, ?_⟩) ?_ ?_
             rotate_left
             ·intro w'
              go_simp
              with_reducible rfl
             rotate_left
             ·exact pt_
             refine pure_ (i := 27) (N := some 63) (v := ?_) (a' := ?_) #[true, true, true, true, true, true, true, true, true, true, true, true, true, true, true, true, true, true, true, true, true, true, true, true, true, true, true, true, false, false, false, false, false, false, false, false, false, false, false] rfl rfl (any_of HT_.out (by kernel_rfl)) (fun _ _ _ h => h) (Or.inl ⟨by rfl, ?_⟩) ?_ ?_
             rotate_left
             ·intro w'
              go_simp
              with_reducible rfl
             rotate_left
             ·exact pt_
             refine pure_ (i := 28) (N := some 64) (v := ?_) (a' := ?_) #[true, true, true, true, true, true, true, true, true, true, true, true, true, true, true, true, true, true, true, true, true, true, true, true, true, true, true, true, true, false, false, false, false, false, false, false, false, false, false] rfl rfl (any_of HT_.out (by kernel_rfl)) (fun _ _ _ h => h) (Or.inl ⟨by rfl, ?_⟩) ?_ ?_
             rotate_left
             ·intro w'
              go_simp
              with_reducible rfl
             rotate_left
             ·exact pt_
             refine pure_ (i := 29) (N := some 65) (v := ?_) (a' := ?_) #[true, true, true, true, true, true, true, true, true, true, true, true, true, true, true, true, true, true, true, true, true, true, true, true, true, true, true, true, true, true, false, false, false, false, false, false, false, false, false] rfl rfl (any_of HT_.out (by kernel_rfl)) (fun _ _ _ h => h) (Or.inl ⟨by rfl, ?_⟩) ?_ ?_
             rotate_left
             ·intro w'
              go_simp
              with_reducible rfl
             rotate_left
             ·exact pt_
             refine pure_ (i := 30) (N := some 66) (v := ?_) (a' := ?_) #[true, true, true, true, true, true, true, true, true, true, true, true, true, true, true, true, true, true, true, true, true, true, true, true, true, true, true, true, true, true, true, false, false, false, false, false, false, false, false] rfl rfl (any_of HT_.out (by kernel_rfl)) (fun _ _ _ h => h) (Or.inl ⟨by rfl, ?_⟩) ?_ ?_
             rotate_left
             ·intro w'
              go_simp
              with_reducible rfl
             rotate_left
             ·exact pt_
             refine pure_ (i := 31) (N := some 67) (v := ?_) (a' := ?_) #[true, true, true, true, true, true, true, true, true, true, true, true, true, true, true, true, true, true, true, true, true, true, true, true, true, true, true, true, true, true, true, true, false, false, false, false, false, false, false] rfl rfl (any_of HT_.out (by kernel_rfl)) (fun _ _ _ h => h) (Or.inl ⟨by rfl, ?_⟩) ?_ ?_
             rotate_left
             ·intro w'
              go_simp
              with_reducible rfl
             rotate_left
             ·exact pt_
             refine pure_ (i := 32) (N := some 68) (v := ?_) (a' := ?_) #[true, true, true, true, true, true, true, true, true, true, true, true, true, true, true, true, true, true, true, true, true, true, true, true, true, true, true, true, true, true, true, true, true, false, false, false, false, false, false] rfl rfl (any_of HT_.out (by kernel_rfl)) (fun _ _ _ h => h) (Or.inl ⟨by rfl, ?_⟩) ?_ ?_
             rotate_left
             ·intro w'
              go_simp
              with_reducible rfl
             rotate_left
             ·exact pt_
             refine take_ (i := 33) (N := some 69) (v := ?_) (a' := ?_) #[true, true, true, true, true, true, true, true, true, true, true, true, true, true, true, true, true, true, true, true, true, true, true, true, true, true, true, true, true, true, true, true, true, true, false, false, false, false, false] rfl rfl (take_ofW HT_.out HW_.out (by kernel_rfl)) (fun _ _ _ h => h) (Or.inl ⟨by rfl, ?_⟩) hHeld ?_ ?_
             rotate_left
             ·rintro w' ⟨s0, s1, s2, s3, s4, s5, s6, s7, s8, s9, s10, s11⟩
              go_simp
              with_reducible rfl
             rotate_left
             ·exact pt_
             refine take_ (i := 34) (N := some 70) (v := ?_) (a' := ?_) #[true, true, true, true, true, true, true, true, true, true, true, true, true, true, true, true, true, true, true, true, true, true, true, true, true, true, true, true, true, true, true, true, true, true, true, false, false, false, false] rfl rfl (take_ofW HT_.out HW_.out (by kernel_rfl)) (fun _ _ _ h => h) (Or.inl ⟨by rfl, ?_⟩) hHeld ?_ ?_
             rotate_left
             ·rintro w' ⟨s0, s1, s2, s3, s4, s5, s6, s7, s8, s9, s10, s11⟩
              go_simp
              with_reducible rfl
             rotate_left
             ·exact pt_
             refine one_ (i := 35) (N := some 71) #[true, true, true, true, true, true, true, true, true, true, true, true, true, true, true, true, true, true, true, true, true, true, true, true, true, true, true, true, true, true, true, true, true, true, true, true, false, false, false] rfl rfl (one_of HT_.out (by kernel_rfl)) (by decide) (fun K hK => ?_)
             refine goes_ Try.func32 (by kernel_rfl) rfl #[.agg #[.int .i64 a0_0, .int .i64 a0_1, .int .i64 a0_2, .int .i64 a0_3]] (by rfl) rfl rfl mp_ ?_
             with_reducible refine (clocheref01_Sorted.calls kj2 a0_0 a0_1 a0_2 a0_3 t545 t546 t547 t548 _ A35.out).mono ?_
             rintro e w40 ⟨rfl, hb⟩
             refine ⟨_, rfl, ?_⟩
             have n0_ := Aside0.mk (blk_below (g := gb526) (o := .cells #[.int .i64 a0_0, .int .i64 a0_1, .int .i64 a0_2, .int .i64 a0_3] 23 (0, 0)) (by refine bs_ ?_; exact BK526.out) hb)
             have n1_ := Aside0.mk (blk_below (g := gb535) (o := .cells #[.int .i64 t529, .int .i64 t530, .int .i64 t531, .int .i64 t532] 23 (0, 0)) (by refine bs_ ?_; exact BK535.out) hb)
             have n2_ := Aside0.mk (blk_below (g := gb542) (o := .cells #[.int .i64 t536, .int .i64 t537, .int .i64 t538, .int .i64 t539] 23 (0, 0)) (by refine bs_ ?_; exact BK542.out) hb)
             have n3_ := Aside0.mk (below_step (by repeat (first | (with_reducible first | exact HB.out | apply below_alloc | apply pw_below_drewN | apply below_drew1 | refine below_set ?_ GE526.out | refine below_set ?_ GE535.out | refine below_set ?_ GE542.out) | exact HB.out)) hb)
             clear BK526
             clear BK535
             clear BK542
             clear HB
             have BK526 := n0_
             have BK535 := n1_
             have BK542 := n2_
             have HB := n3_
             clear n0_ n1_ n2_ n3_
             (try clear hb)
             (try clear hb2)
             (try clear hk)
             (try clear hi)
             refine hK.out _ _ ⟨(blk_cell BK535.out 0).trans rfl, (blk_cell BK535.out 1).trans rfl, (blk_cell BK535.out 2).trans rfl, (blk_cell BK535.out 3).trans rfl, (blk_cell BK542.out 0).trans rfl, (blk_cell BK542.out 1).trans rfl, (blk_cell BK542.out 2).trans rfl, (blk_cell BK542.out 3).trans rfl, (blk_cell BK526.out 0).trans rfl, (blk_cell BK526.out 1).trans rfl, (blk_cell BK526.out 2).trans rfl, (blk_cell BK526.out 3).trans rfl⟩ (fun hHeld => ?_)
             clear hK K
             refine norm_ (a' := ?_) ?_ ?_
             rotate_left
             ·show Act.put _ (some 71) _ = _
              exact pt_
             refine pure_ (i := 36) (N := some 72) (v := ?_) (a' := ?_) #[true, true, true, true, true, true, true, true, true, true, true, true, true, true, true, true, true, true, true, true, true, true, true, true, true, true, true, true, true, true, true, true, true, true, true, true, true, false, false] rfl rfl (any_of HT_.out (by kernel_rfl)) (fun _ _ _ h => h) (Or.inl ⟨by rfl, ?_⟩) ?_ ?_
             rotate_left
             ·intro w'
              go_simp
              with_reducible rfl
             rotate_left
             ·exact pt_
             refine pure_ (i := 37) (N := some 73) (v := ?_) (a' := ?_) #[true, true, true, true, true, true, true, true, true, true, true, true, true, true, true, true, true, true, true, true, true, true, true, true, true, true, true, true, true, true, true, true, true, true, true, true, true, true, false] rfl rfl (any_of HT_.out (by kernel_rfl)) (fun _ _ _ h => h) (Or.inl ⟨by rfl, ?_⟩) ?_ ?_
             rotate_left
             ·intro w'
              go_simp
              with_reducible rfl
             rotate_left
             ·exact pt_
             refine pure_ (i := 38) (N := some 74) (v := ?_) (a' := ?_) #[true, true, true, true, true, true, true, true, true, true, true, true, true, true, true, true, true, true, true, true, true, true, true, true, true, true, true, true, true, true, true, true, true, true, true, true, true, true, true] rfl rfl (any_of HT_.out (by kernel_rfl)) (fun _ _ _ h => h) (Or.inl ⟨by rfl, ?_⟩) ?_ ?_
             rotate_left
             ·intro w'
              go_simp
              with_reducible rfl
             rotate_left
             ·exact pt_
             refine done_ (done_of HT_.out (by kernel_rfl)) ?_
             try go_wp2
             go_meet
             case rel => exact ⟨_, ((!(t529 == t545) || (!(t530 == t546) || (!(t531 == t547) || (!(t532 == t548)))))), eq_, H', ⟨by have := HJ2.out; first | omega | exact Nat.le_refl _⟩, ⟨by refine bs_ ?_; exact BK526.out⟩, ⟨by refine bs_ ?_; exact BK535.out⟩, ⟨by refine bs_ ?_; exact BK542.out⟩, ⟨by repeat (first | (with_reducible first | exact HB.out | apply below_alloc | apply pw_below_drewN | apply below_drew1 | refine below_set ?_ GE526.out | refine below_set ?_ GE535.out | refine below_set ?_ GE542.out) | exact HB.out)⟩⟩
            ·rw [if_neg c34] at H
             have c34b0 : (t533 == 0) = false := beq_eq_false_iff_ne.mpr c34
             have c34b1 : (t533 != 0) = true := bne_iff_ne.mpr c34
             have H' := Aside0.mk H
             clear H
             try go_wp2
             have n0_ : Aside0 (((((w21.setCell ⟨gb542, 0, none⟩ (.int .i64 t536)).setCell ⟨gb542, 1, none⟩ (.int .i64 t537)).setCell ⟨gb542, 2, none⟩ (.int .i64 t538)).setCell ⟨gb542, 3, none⟩ (.int .i64 t539)).heap[gb526]? = some (.cells #[.int .i64 a0_0, .int .i64 a0_1, .int .i64 a0_2, .int .i64 a0_3] 23 (0, 0))) := ⟨by refine bs_ ?_; refine blk_far ?_ NB526_542.out _; refine bs_ ?_; refine blk_far ?_ NB526_542.out _; refine bs_ ?_; refine blk_far ?_ NB526_542.out _; refine bs_ ?_; refine blk_far ?_ NB526_542.out _; refine bs_ ?_; exact BK526.out⟩
             have n1_ : Aside0 (((((w21.setCell ⟨gb542, 0, none⟩ (.int .i64 t536)).setCell ⟨gb542, 1, none⟩ (.int .i64 t537)).setCell ⟨gb542, 2, none⟩ (.int .i64 t538)).setCell ⟨gb542, 3, none⟩ (.int .i64 t539)).heap[gb535]? = some (.cells #[.int .i64 t529, .int .i64 t530, .int .i64 t531, .int .i64 t532] 23 (0, 0))) := ⟨by refine bs_ ?_; refine blk_far ?_ NB535_542.out _; refine bs_ ?_; refine blk_far ?_ NB535_542.out _; refine bs_ ?_; refine blk_far ?_ NB535_542.out _; refine bs_ ?_; refine blk_far ?_ NB535_542.out _; refine bs_ ?_; exact BK535.out⟩
             have n2_ : Aside0 (((((w21.setCell ⟨gb542, 0, none⟩ (.int .i64 t536)).setCell ⟨gb542, 1, none⟩ (.int .i64 t537)).setCell ⟨gb542, 2, none⟩ (.int .i64 t538)).setCell ⟨gb542, 3, none⟩ (.int .i64 t539)).heap[gb542]? = some (.cells #[.int .i64 t536, .int .i64 t537, .int .i64 t538, .int .i64 t539] 23 (0, 0))) := ⟨by refine bs_ ?_; refine blk_put (cs := #[.int .i64 t536, .int .i64 t537, .int .i64 t538, .int .i64 0]) ?_ 3 _ rfl; refine bs_ ?_; refine blk_put (cs := #[.int .i64 t536, .int .i64 t537, .int .i64 0, .int .i64 0]) ?_ 2 _ rfl; refine bs_ ?_; refine blk_put (cs := #[.int .i64 t536, .int .i64 0, .int .i64 0, .int .i64 0]) ?_ 1 _ rfl; refine bs_ ?_; refine blk_put (cs := #[.int .i64 0, .int .i64 0, .int .i64 0, .int .i64 0]) ?_ 0 _ rfl; refine bs_ ?_; exact BK542.out⟩
             have n3_ : Aside0 (Below w.heap.size w ((((w21.setCell ⟨gb542, 0, none⟩ (.int .i64 t536)).setCell ⟨gb542, 1, none⟩ (.int .i64 t537)).setCell ⟨gb542, 2, none⟩ (.int .i64 t538)).setCell ⟨gb542, 3, none⟩ (.int .i64 t539))) := ⟨by repeat (first | (with_reducible first | exact HB.out | apply below_alloc | apply pw_below_drewN | apply below_drew1 | refine below_set ?_ GE526.out | refine below_set ?_ GE535.out | refine below_set ?_ GE542.out) | exact HB.out)⟩
             (try clear BK526)
             (try clear BK535)
             (try clear BK542)
             (try clear HB)
             generalize ((((w21.setCell ⟨gb542, 0, none⟩ (.int .i64 t536)).setCell ⟨gb542, 1, none⟩ (.int .i64 t537)).setCell ⟨gb542, 2, none⟩ (.int .i64 t538)).setCell ⟨gb542, 3, none⟩ (.int .i64 t539)) = w41 at n0_ n1_ n2_ n3_ ⊢
             have BK526 := n0_
             have BK535 := n1_
             have BK542 := n2_
             have HB := n3_
             clear n0_ n1_ n2_ n3_
             have n0_ := Aside0.mk (blk_drew BK526.out)
             have n1_ := Aside0.mk (blk_drew BK535.out)
             have n2_ := Aside0.mk (blk_drew BK542.out)
             have n3_ := Aside0.mk (below_drew1 HB.out)
             clear BK526
             clear BK535
             clear BK542
             clear HB
             have BK526 := n0_
             have BK535 := n1_
             have BK542 := n2_
             have HB := n3_
             clear n0_ n1_ n2_ n3_
             refine start_ (n := 39) (S := fun w' => w'.cell? ⟨gb535, 0, none⟩ = some (.int .i64 t529) ∧ w'.cell? ⟨gb535, 1, none⟩ = some (.int .i64 t530) ∧ w'.cell? ⟨gb535, 2, none⟩ = some (.int .i64 t531) ∧ w'.cell? ⟨gb535, 3, none⟩ = some (.int .i64 t532) ∧ w'.cell? ⟨gb542, 0, none⟩ = some (.int .i64 t536) ∧ w'.cell? ⟨gb542, 1, none⟩ = some (.int .i64 t537) ∧ w'.cell? ⟨gb542, 2, none⟩ = some (.int .i64 t538) ∧ w'.cell? ⟨gb542, 3, none⟩ = some (.int .i64 t539)) (ds := []) #[false, false, false, false, false, false, false, false, false, false, false, false, false, false, false, false, false, false, false, false, false, false, false, false, false, false, false, false, false, false, false, false, false, false, false, false, false, false, false] (by kernel_rfl) rfl rfl ⟨(blk_cell BK535.out 0).trans rfl, (blk_cell BK535.out 1).trans rfl, (blk_cell BK535.out 2).trans rfl, (blk_cell BK535.out 3).trans rfl, (blk_cell BK542.out 0).trans rfl, (blk_cell BK542.out 1).trans rfl, (blk_cell BK542.out 2).trans rfl, (blk_cell BK542.out 3).trans rfl⟩ (fun hHeld => ?_); refine with_tabW clochelaw01_DiscsReached.tab5 clochelaw01_DiscsReached.bits5 (fun HT_ HW_ => ?_)
             generalize w41.drew = w42 at BK526 BK535 BK542 HB hHeld ⊢
             refine pure_ (i := 0) (N := some 36) (v := ?_) (a' := ?_) #[true, false, false, false, false, false, false, false, false, false, false, false, false, false, false, false, false, false, false, false, false, false, false, false, false, false, false, false, false, false, false, false, false, false, false, false, false, false, false] rfl rfl (any_of HT_.out (by kernel_rfl)) (fun _ _ _ h => h) (Or.inl ⟨by rfl, ?_⟩) ?_ ?_
             rotate_left
             ·intro w'
              go_simp
              with_reducible rfl
             rotate_left
             ·exact pt_
             refine pure_ (i := 1) (N := some 37) (v := ?_) (a' := ?_) #[true, true, false, false, false, false, false, false, false, false, false, false, false, false, false, false, false, false, false, false, false, false, false, false, false, false, false, false, false, false, false, false, false, false, false, false, false, false, false] rfl rfl (any_of HT_.out (by kernel_rfl)) (fun _ _ _ h => h) (Or.inl ⟨by rfl, ?_⟩) ?_ ?_
             rotate_left
             ·intro w'
              go_simp
              with_reducible rfl
             rotate_left
             ·exact pt_
             refine pure_ (i := 2) (N := some 38) (v := ?_) (a' := ?_) #[true, true, true, false, false, false, false, false, false, false, false, false, false, false, false, false, false, false, false, false, false, false, false, false, false, false, false, false, false, false, false, false, false, false, false, false, false, false, false] rfl rfl (any_of HT_.out (by kernel_rfl)) (fun _ _ _ h => h) (Or.inl ⟨by rfl, ?_⟩) ?_ ?_
             rotate_left
             ·intro w'
              go_simp
              with_reducible rfl
             rotate_left
             ·exact pt_
             refine pure_ (i := 3) (N := some 39) (v := ?_) (a' := ?_) #[true, true, true, true, false, false, false, false, false, false, false, false, false, false, false, false, false, false, false, false, false, false, false, false, false, false, false, false, false, false, false, false, false, false, false, false, false, false, false] rfl rfl (any_of HT_.out (by kernel_rfl)) (fun _ _ _ h => h) (Or.inl ⟨by rfl, ?_⟩) ?_ ?_
             rotate_left
             ·intro w'
              go_simp
              with_reducible rfl
             rotate_left
             ·exact pt_
             refine pure_ (i := 4) (N := some 40) (v := ?_) (a' := ?_) #[true, true, true, true, true, false, false, false, false, false, false, false, false, false, false, false, false, false, false, false, false, false, false, false, false, false, false, false, false, false, false, false, false, false, false, false, false, false, false] rfl rfl (any_of HT_.out (by kernel_rfl)) (fun _ _ _ h => h) (Or.inl ⟨by rfl, ?_⟩) ?_ ?_
             rotate_left
             ·intro w'
              go_simp
              with_reducible rfl
             rotate_left
             ·exact pt_
             refine pure_ (i := 5) (N := some 41) (v := ?_) (a' := ?_) #[true, true, true, true, true, true, false, false, false, false, false, false, false, false, false, false, false, false, false, false, false, false, false, false, false, false, false, false, false, false, false, false, false, false, false, false, false, false, false] rfl rfl (any_of HT_.out (by kernel_rfl)) (fun _ _ _ h => h) (Or.inl ⟨by rfl, ?_⟩) ?_ ?_
             rotate_left
             ·intro w'
              go_simp
              with_reducible rfl
             rotate_left
             ·exact pt_
             refine pure_ (i := 6) (N := some 42) (v := ?_) (a' := ?_) #[true, true, true, true, true, true, true, false, false, false, false, false, false, false, false, false, false, false, false, false, false, false, false, false, false, false, false, false, false, false, false, false, false, false, false, false, false, false, false] rfl rfl (any_of HT_.out (by kernel_rfl)) (fun _ _ _ h => h) (Or.inl ⟨by rfl, ?_⟩) ?_ ?_
             rotate_left
             ·intro w'
              go_simp
              with_reducible rfl
             rotate_left
             ·exact pt_
             refine take_ (i := 7) (N := some 43) (v := ?_) (a' := ?_) #[true, true, true, true, true, true, true, true, false, false, false, false, false, false, false, false, false, false, false, false, false, false, false, false, false, false, false, false, false, false, false, false, false, false, false, false, false, false, false] rfl rfl (take_ofW HT_.out HW_.out (by kernel_rfl)) (fun _ _ _ h => h) (Or.inl ⟨by rfl, ?_⟩) hHeld ?_ ?_
             rotate_left
             ·rintro w' ⟨s0, s1, s2, s3, s4, s5, s6, s7⟩
              go_simp
              with_reducible rfl
             rotate_left
             ·exact pt_
             refine one_ (i := 8) (N := some 44) #[true, true, true, true, true, true, true, true, true, false, false, false, false, false, false, false, false, false, false, false, false, false, false, false, false, false, false, false, false, false, false, false, false, false, false, false, false, false, false] rfl rfl (one_of HT_.out (by kernel_rfl)) (by decide) (fun K hK => ?_)
             refine goes_ Try.func33 (by kernel_rfl) rfl #[.agg #[.int .i64 t529, .int .i64 t530, .int .i64 t531, .int .i64 t532]] (by rfl) rfl rfl mp_ ?_
             with_reducible refine (discs_IsRoot.calls kj2 t529 t530 t531 t532 true _ A27.out).mono ?_
             rintro e w43 ⟨rfl, hb⟩
             refine ⟨_, rfl, ?_⟩
             have n0_ := Aside0.mk (blk_below (g := gb526) (o := .cells #[.int .i64 a0_0, .int .i64 a0_1, .int .i64 a0_2, .int .i64 a0_3] 23 (0, 0)) (by refine bs_ ?_; exact BK526.out) hb)
             have n1_ := Aside0.mk (blk_below (g := gb535) (o := .cells #[.int .i64 t529, .int .i64 t530, .int .i64 t531, .int .i64 t532] 23 (0, 0)) (by refine bs_ ?_; exact BK535.out) hb)
             have n2_ := Aside0.mk (blk_below (g := gb542) (o := .cells #[.int .i64 t536, .int .i64 t537, .int .i64 t538, .int .i64 t539] 23 (0, 0)) (by refine bs_ ?_; exact BK542.out) hb)
             have n3_ := Aside0.mk (below_step (by repeat (first | (with_reducible first | exact HB.out | apply below_alloc | apply pw_below_drewN | apply below_drew1 | refine below_set ?_ GE526.out | refine below_set ?_ GE535.out | refine below_set ?_ GE542.out) | exact HB.out)) hb)
             clear BK526
             clear BK535
             clear BK542
             clear HB
             have BK526 := n0_
             have BK535 := n1_
             have BK542 := n2_
             have HB := n3_
             clear n0_ n1_ n2_ n3_
             (try clear hb)
             (try clear hb2)
             (try clear hk)
             (try clear hi)
             refine hK.out _ _ ⟨(blk_cell BK535.out 0).trans rfl, (blk_cell BK535.out 1).trans rfl, (blk_cell BK535.out 2).trans rfl, (blk_cell BK535.out 3).trans rfl, (blk_cell BK542.out 0).trans rfl, (blk_cell BK542.out 1).trans rfl, (blk_cell BK542.out 2).trans rfl, (blk_cell BK542.out 3).trans rfl⟩ (fun hHeld => ?_)
             clear hK K
             refine norm_ (a' := ?_) ?_ ?_
             rotate_left
             ·show Act.put _ (some 44) _ = _
              exact pt_
             refine pure_ (i := 9) (N := some 45) (v := ?_) (a' := ?_) #[true, true, true, true, true, true, true, true, true, true, false, false, false, false, false, false, false, false, false, false, false, false, false, false, false, false, false, false, false, false, false, false, false, false, false, false, false, false, false] rfl rfl (any_of HT_.out (by kernel_rfl)) (fun _ _ _ h => h) (Or.inl ⟨by rfl, ?_⟩) ?_ ?_
             rotate_left
             ·intro w'
              go_simp
              with_reducible rfl
             rotate_left
             ·exact pt_
             refine pure_ (i := 10) (N := some 46) (v := ?_) (a' := ?_) #[true, true, true, true, true, true, true, true, true, true, true, false, false, false, false, false, false, false, false, false, false, false, false, false, false, false, false, false, false, false, false, false, false, false, false, false, false, false, false] rfl rfl (any_of HT_.out (by kernel_rfl)) (fun _ _ _ h => h) (Or.inl ⟨by rfl, ?_⟩) ?_ ?_
             rotate_left
             ·intro w'
              go_simp
              with_reducible rfl
             rotate_left
             ·exact pt_
             refine pure_ (i := 11) (N := some 47) (v := ?_) (a' := ?_) #[true, true, true, true, true, true, true, true, true, true, true, true, false, false, false, false, false, false, false, false, false, false, false, false, false, false, false, false, false, false, false, false, false, false, false, false, false, false, false] rfl rfl (any_of HT_.out (by kernel_rfl)) (fun _ _ _ h => h) (Or.inl ⟨by rfl, ?_⟩) ?_ ?_
             rotate_left
             ·intro w'
              go_simp
              with_reducible rfl
             rotate_left
             ·exact pt_
             refine take_ (i := 12) (N := some 48) (v := ?_) (a' := ?_) #[true, true, true, true, true, true, true, true, true, true, true, true, true, false, false, false, false, false, false, false, false, false, false, false, false, false, false, false, false, false, false, false, false, false, false, false, false, false, false] rfl rfl (take_ofW HT_.out HW_.out (by kernel_rfl)) (fun _ _ _ h => h) (Or.inl ⟨by rfl, ?_⟩) hHeld ?_ ?_
             rotate_left
             ·rintro w' ⟨s0, s1, s2, s3, s4, s5, s6, s7⟩
              go_simp
              with_reducible rfl
             rotate_left
             ·exact pt_
             refine one_ (i := 13) (N := some 49) #[true, true, true, true, true, true, true, true, true, true, true, true, true, true, false, false, false, false, false, false, false, false, false, false, false, false, false, false, false, false, false, false, false, false, false, false, false, false, false] rfl rfl (one_of HT_.out (by kernel_rfl)) (by decide) (fun K hK => ?_)
             refine goes_ Try.func39 (by kernel_rfl) rfl #[.agg #[.int .i64 t529, .int .i64 t530, .int .i64 t531, .int .i64 t532]] (by rfl) rfl rfl mp_ ?_
             with_reducible refine (clocheref01_IsRoot.calls kj2 t529 t530 t531 t532 true _ A29.out).mono ?_
             rintro e w44 ⟨rfl, hb⟩
             refine ⟨_, rfl, ?_⟩
             have n0_ := Aside0.mk (blk_below (g := gb526) (o := .cells #[.int .i64 a0_0, .int .i64 a0_1, .int .i64 a0_2, .int .i64 a0_3] 23 (0, 0)) (by refine bs_ ?_; exact BK526.out) hb)
             have n1_ := Aside0.mk (blk_below (g := gb535) (o := .cells #[.int .i64 t529, .int .i64 t530, .int .i64 t531, .int .i64 t532] 23 (0, 0)) (by refine bs_ ?_; exact BK535.out) hb)
             have n2_ := Aside0.mk (blk_below (g := gb542) (o := .cells #[.int .i64 t536, .int .i64 t537, .int .i64 t538, .int .i64 t539] 23 (0, 0)) (by refine bs_ ?_; exact BK542.out) hb)
             have n3_ := Aside0.mk (below_step (by repeat (first | (with_reducible first | exact HB.out | apply below_alloc | apply pw_below_drewN | apply below_drew1 | refine below_set ?_ GE526.out | refine below_set ?_ GE535.out | refine below_set ?_ GE542.out) | exact HB.out)) hb)
             clear BK526
             clear BK535
             clear BK542
             clear HB
             have BK526 := n0_
             have BK535 := n1_
             have BK542 := n2_
             have HB := n3_
             clear n0_ n1_ n2_ n3_
             (try clear hb)
             (try clear hb2)
             (try clear hk)
             (try clear hi)
             refine hK.out _ _ ⟨(blk_cell BK535.out 0).trans rfl, (blk_cell BK535.out 1).trans rfl, (blk_cell BK535.out 2).trans rfl, (blk_cell BK535.out 3).trans rfl, (blk_cell BK542.out 0).trans rfl, (blk_cell BK542.out 1).trans rfl, (blk_cell BK542.out 2).trans rfl, (blk_cell BK542.out 3).trans rfl⟩ (fun hHeld => ?_)
             clear hK K
             refine norm_ (a' := ?_) ?_ ?_
             rotate_left
             ·show Act.put _ (some 49) _ = _
              exact pt_
             refine pure_ (i := 14) (N := some 50) (v := ?_) (a' := ?_) #[true, true, true, true, true, true, true, true, true, true, true, true, true, true, true, false, false, false, false, false, false, false, false, false, false, false, false, false, false, false, false, false, false, false, false, false, false, false, false] rfl rfl (any_of HT_.out (by kernel_rfl)) (fun _ _ _ h => h) (Or.inl ⟨by rfl, ?_⟩) ?_ ?_
             rotate_left
             ·intro w'
              go_simp
              with_reducible rfl
             rotate_left
             ·exact pt_
             refine pure_ (i := 15) (N := some 51) (v := ?_) (a' := ?_) #[true, true, true, true, true, true, true, true, true, true, true, true, true, true, true, true, false, false, false, false, false, false, false, false, false, false, false, false, false, false, false, false, false, false, false, false, false, false, false] rfl rfl (any_of HT_.out (by kernel_rfl)) (fun _ _ _ h => h) (Or.inl ⟨by rfl, ?_⟩) ?_ ?_
             rotate_left
             ·intro w'
              go_simp
              with_reducible rfl
             rotate_left
             ·exact pt_
             refine pure_ (i := 16) (N := some 52) (v := ?_) (a' := ?_) #[true, true, true, true, true, true, true, true, true, true, true, true, true, true, true, true, true, false, false, false, false, false, false, false, false, false, false, false, false, false, false, false, false, false, false, false, false, false, false] rfl rfl (any_of HT_.out (by kernel_rfl)) (fun _ _ _ h => h) (Or.inl ⟨by rfl, ?_⟩) ?_ ?_
             rotate_left
             ·intro w'
              go_simp
              with_reducible rfl
             rotate_left
             ·exact pt_
             refine take_ (i := 17) (N := some 53) (v := ?_) (a' := ?_) #[true, true, true, true, true, true, true, true, true, true, true, true, true, true, true, true, true, true, false, false, false, false, false, false, false, false, false, false, false, false, false, false, false, false, false, false, false, false, false] rfl rfl (take_ofW HT_.out HW_.out (by kernel_rfl)) (fun _ _ _ h => h) (Or.inl ⟨by rfl, ?_⟩) hHeld ?_ ?_
             rotate_left
             ·rintro w' ⟨s0, s1, s2, s3, s4, s5, s6, s7⟩
              go_simp
              with_reducible rfl
             rotate_left
             ·exact pt_
             refine take_ (i := 18) (N := some 54) (v := ?_) (a' := ?_) #[true, true, true, true, true, true, true, true, true, true, true, true, true, true, true, true, true, true, true, false, false, false, false, false, false, false, false, false, false, false, false, false, false, false, false, false, false, false, false] rfl rfl (take_ofW HT_.out HW_.out (by kernel_rfl)) (fun _ _ _ h => h) (Or.inl ⟨by rfl, ?_⟩) hHeld ?_ ?_
             rotate_left
             ·rintro w' ⟨s0, s1, s2, s3, s4, s5, s6, s7⟩
              go_simp
              with_reducible rfl
             rotate_left
             ·exact pt_
             refine pure_ (i := 19) (N := some 55) (v := ?_) (a' := ?_) #[true, true, true, true, true, true, true, true, true, true, true, true, true, true, true, true, true, true, true, true, false, false, false, false, false, false, false, false, false, false, false, false, false, false, false, false, false, false, false] rfl rfl (any_of HT_.out (by kernel_rfl)) (fun _ _ _ h => h) (Or.inl ⟨by rfl, ?_⟩) ?_ ?_
             rotate_left
             ·intro w'
              go_simp
              with_reducible rfl
             rotate_left
             ·exact pt_
             refine pure_ (i := 20) (N := some 56) (v := ?_) (a' := ?_) #[true, true, true, true, true, true, true, true, true, true, true, true, true, true, true, true, true, true, true, true, true, false, false, false, false, false, false, false, false, false, false, false, false, false, false, false, false, false, false] rfl rfl (any_of HT_.out (by kernel_rfl)) (fun _ _ _ h => h) (Or.inl ⟨by rfl, ?_⟩) ?_ ?_
             rotate_left
             ·intro w'
              go_simp
              with_reducible rfl
             rotate_left
             ·exact pt_
             refine pure_ (i := 21) (N := some 57) (v := ?_) (a' := ?_) #[true, true, true, true, true, true, true, true, true, true, true, true, true, true, true, true, true, true, true, true, true, true, false, false, false, false, false, false, false, false, false, false, false, false, false, false, false, false, false] rfl rfl (any_of HT_.out (by kernel_rfl)) (fun _ _ _ h => h) (Or.inl ⟨by rfl, ?_⟩) ?_ ?_
             rotate_left
             ·intro w'
              go_simp
              with_reducible rfl
             rotate_left
             ·exact pt_
             refine pure_ (i := 22) (N := some 58) (v := ?_) (a' := ?_) #[true, true, true, true, true, true, true, true, true, true, true, true, true, true, true, true, true, true, true, true, true, true, true, false, false, false, false, false, false, false, false, false, false, false, false, false, false, false, false] rfl rfl (any_of HT_.out (by kernel_rfl)) (fun _ _ _ h => h) (Or.inl ⟨by rfl, ?_⟩) ?_ ?_
             rotate_left
             ·intro w'
              go_simp
              with_reducible rfl
             rotate_left
             ·exact pt_
             refine pure_ (i := 23) (N := some 59) (v := ?_) (a' := ?_) #[true, true, true, true, true, true, true, true, true, true, true, true, true, true, true, true, true, true, true, true, true, true, true, true, false, false, false, false, false, false, false, false, false, false, false, false, false, false, false] rfl rfl (any_of HT_.out (by kernel_rfl)) (fun _ _ _ h => h) (Or.inl ⟨by rfl, ?_⟩) ?_ ?_
             rotate_left
             ·intro w'
              go_simp
              with_reducible rfl
             rotate_left
             ·exact pt_
             refine pure_ (i := 24) (N := some 60) (v := ?_) (a' := ?_) #[true, true, true, true, true, true, true, true, true, true, true, true, true, true, true, true, true, true, true, true, true, true, true, true, true, false, false, false, false, false, false, false, false, false, false, false, false, false, false] rfl rfl (any_of HT_.out (by kernel_rfl)) (fun _ _ _ h => h) (Or.inl ⟨by rfl, ?_⟩) ?_ ?_
             rotate_left
             ·intro w'
              go_simp
              with_reducible rfl
             rotate_left
             ·exact pt_
             refine pure_ (i := 25) (N := some 61) (v := ?_) (a' := ?_) #[true, true, true, true, true, true, true, true, true, true, true, true, true, true, true, true, true, true, true, true, true, true, true, true, true, true, false, false, false, false, false, false, false, false, false, false, false, false, false] rfl rfl (any_of HT_.out (by kernel_rfl)) (fun _ _ _ h => h) (Or.inl ⟨by rfl, ?_⟩) ?_ ?_
             rotate_left
             ·intro w'
              go_simp
              with_reducible rfl
             rotate_left
             ·exact pt_
             refine pure_ (i := 26) (N := some 62) (v := ?_) (a' := ?_) #[true, true, true, true, true, true, true, true, true, true, true, true, true, true, true, true, true, true, true, true, true, true, true, true, true, true, true, false, false, false, false, false, false, false, false, false, false, false, false] rfl rfl (any_of HT_.out (by kernel_rfl)) (fun _ _ _ h => h) (Or.inl ⟨by rfl, ?_⟩) ?_ ?_
             rotate_left
             ·intro w'
              go_simp
              with_reducible rfl
             rotate_left
             ·exact pt_
             refine pure_ (i := 27) (N := some 63) (v := ?_) (a' := ?_) #[true, true, true, true, true, true, true, true, true, true, true, true, true, true, true, true, true, true, true, true, true, true, true, true, true, true, true, true, false, false, false, false, false, false, false, false, false, false, false] rfl rfl (any_of HT_.out (by kernel_rfl)) (fun _ _ _ h => h) (Or.inl ⟨by rfl, ?_⟩) ?_ ?_
             rotate_left
             ·intro w'
              go_simp
              with_reducible rfl
             rotate_left
             ·exact pt_
             refine pure_ (i := 28) (N := some 64) (v := ?_) (a' := ?_) #[true, true, true, true, true, true, true, true, true, true, true, true, true, true, true, true, true, true, true, true, true, true, true, true, true, true, true, true, true, false, false, false, false, false, false, false, false, false, false] rfl rfl (any_of HT_.out (by kernel_rfl)) (fun _ _ _ h => h) (Or.inl ⟨by rfl, ?_⟩) ?_ ?_
             rotate_left
             ·intro w'
              go_simp
              with_reducible rfl
             rotate_left
             ·exact pt_
             refine pure_ (i := 29) (N := some 65) (v := ?_) (a' := ?_) #[true, true, true, true, true, true, true, true, true, true, true, true, true, true, true, true, true, true, true, true, true, true, true, true, true, true, true, true, true, true, false, false, false, false, false, false, false, false, false] rfl rfl (any_of HT_.out (by kernel_rfl)) (fun _ _ _ h => h) (Or.inl ⟨by rfl, ?_⟩) ?_ ?_
             rotate_left
             ·intro w'
              go_simp
              with_reducible rfl
             rotate_left
             ·exact pt_
             refine pure_ (i := 30) (N := some 66) (v := ?_) (a' := ?_) #[true, true, true, true, true, true, true, true, true, true, true, true, true, true, true, true, true, true, true, true, true, true, true, true, true, true, true, true, true, true, true, false, false, false, false, false, false, false, false] rfl rfl (any_of HT_.out (by kernel_rfl)) (fun _ _ _ h => h) (Or.inl ⟨by rfl, ?_⟩) ?_ ?_
             rotate_left
             ·intro w'
              go_simp
              with_reducible rfl
             rotate_left
             ·exact pt_
             refine pure_ (i := 31) (N := some 67) (v := ?_) (a' := ?_) #[true, true, true, true, true, true, true, true, true, true, true, true, true, true, true, true, true, true, true, true, true, true, true, true, true, true, true, true, true, true, true, true, false, false, false, false, false, false, false] rfl rfl (any_of HT_.out (by kernel_rfl)) (fun _ _ _ h => h) (Or.inl ⟨by rfl, ?_⟩) ?_ ?_
             rotate_left
             ·intro w'
              go_simp
              with_reducible rfl
             rotate_left
             ·exact pt_
             refine pure_ (i := 32) (N := some 68) (v := ?_) (a' := ?_) #[true, true, true, true, true, true, true, true, true, true, true, true, true, true, true, true, true, true, true, true, true, true, true, true, true, true, true, true, true, true, true, true, true, false, false, false, false, false, false] rfl rfl (any_of HT_.out (by kernel_rfl)) (fun _ _ _ h => h) (Or.inl ⟨by rfl, ?_⟩) ?_ ?_
             rotate_left
             ·intro w'
              go_simp
              with_reducible rfl
             rotate_left
             ·exact pt_
             refine pure_ (i := 33) (N := some 69) (v := undef) (a' := ?_) #[true, true, true, true, true, true, true, true, true, true, true, true, true, true, true, true, true, true, true, true, true, true, true, true, true, true, true, true, true, true, true, true, true, true, false, false, false, false, false] rfl rfl (any_of HT_.out (by kernel_rfl)) (fun _ _ _ h => h) (Or.inr ⟨by rfl, rfl⟩) ?_ ?_
             rotate_left
             ·exact pt_
             refine pure_ (i := 34) (N := some 70) (v := undef) (a' := ?_) #[true, true, true, true, true, true, true, true, true, true, true, true, true, true, true, true, true, true, true, true, true, true, true, true, true, true, true, true, true, true, true, true, true, true, true, false, false, false, false] rfl rfl (any_of HT_.out (by kernel_rfl)) (fun _ _ _ h => h) (Or.inr ⟨by rfl, rfl⟩) ?_ ?_
             rotate_left
             ·exact pt_
             refine pure_ (i := 35) (N := some 71) (v := undef) (a' := ?_) #[true, true, true, true, true, true, true, true, true, true, true, true, true, true, true, true, true, true, true, true, true, true, true, true, true, true, true, true, true, true, true, true, true, true, true, true, false, false, false] rfl rfl (any_of HT_.out (by kernel_rfl)) (fun _ _ _ h => h) (Or.inr ⟨by rfl, rfl⟩) ?_ ?_
             rotate_left
             ·exact pt_
             refine pure_ (i := 36) (N := some 72) (v := undef) (a' := ?_) #[true, true, true, true, true, true, true, true, true, true, true, true, true, true, true, true, true, true, true, true, true, true, true, true, true, true, true, true, true, true, true, true, true, true, true, true, true, false, false] rfl rfl (any_of HT_.out (by kernel_rfl)) (fun _ _ _ h => h) (Or.inr ⟨by rfl, rfl⟩) ?_ ?_
             rotate_left
             ·exact pt_
             refine pure_ (i := 37) (N := some 73) (v := ?_) (a' := ?_) #[true, true, true, true, true, true, true, true, true, true, true, true, true, true, true, true, true, true, true, true, true, true, true, true, true, true, true, true, true, true, true, true, true, true, true, true, true, true, false] rfl rfl (any_of HT_.out (by kernel_rfl)) (fun _ _ _ h => h) (Or.inl ⟨by rfl, ?_⟩) ?_ ?_
             rotate_left
             ·intro w'
              go_simp
              with_reducible rfl
             rotate_left
             ·exact pt_
             refine pure_ (i := 38) (N := some 74) (v := ?_) (a' := ?_) #[true, true, true, true, true, true, true, true, true, true, true, true, true, true, true, true, true, true, true, true, true, true, true, true, true, true, true, true, true, true, true, true, true, true, true, true, true, true, true] rfl rfl (any_of HT_.out (by kernel_rfl)) (fun _ _ _ h => h) (Or.inl ⟨by rfl, ?_⟩) ?_ ?_
             rotate_left
             ·intro w'
              go_simp
              with_reducible rfl
             rotate_left
             ·exact pt_
             refine done_ (done_of HT_.out (by kernel_rfl)) ?_
             try go_wp2
             go_meet
             case rel => exact ⟨_, (false), eq_, H', ⟨by have := HJ2.out; first | omega | exact Nat.le_refl _⟩, ⟨by refine bs_ ?_; exact BK526.out⟩, ⟨by refine bs_ ?_; exact BK535.out⟩, ⟨by refine bs_ ?_; exact BK542.out⟩, ⟨by repeat (first | (with_reducible first | exact HB.out | apply below_alloc | apply pw_below_drewN | apply below_drew1 | refine below_set ?_ GE526.out | refine below_set ?_ GE535.out | refine below_set ?_ GE542.out) | exact HB.out)⟩⟩
          ·rw [if_neg c32] at H
           exact absurd H (by simp)
        ·replace c30 := Bool.eq_false_iff.mpr c30
         subst c30
         have H1 : (none) = some r := by rw [if_neg (show ¬ (false = true) by decide)] at H; exact H
         clear H
         have H := H1
         clear H1
         exact absurd H (by simp)
       ·replace c28 := Bool.eq_false_iff.mpr c28
        subst c28
        have H1 : (none) = some r := by rw [if_neg (show ¬ (false = true) by decide)] at H; exact H
        clear H
        have H := H1
        clear H1
        exact absurd H (by simp)
      ·rw [if_neg c26] at H
       exact absurd H (by simp)
     ·rw [if_neg c25] at H
      exact absurd H (by simp)
    case rest =>
     clear HC14
     try clear c2
     try clear p2
     try clear c3
     try clear c25
     try clear c26
     try clear c28
     try clear c30
     try clear c32
     try clear c33
     try clear c34
     try clear c34b0
     try clear c34b1
     try clear c39
     obtain ⟨kq, x74_13, rfl, HA, HJ13, BK526, BK535, BK542, HB⟩ := hcut
     cases kq with
     | zero => exact absurd HA.out (by simp [clochelaw01_DiscsReached.j1])
     | succ kj13 =>
      have H := HA.out
      clear HA
      simp only [clochelaw01_DiscsReached.j1] at H
      by_cases c45 : x74_13 = true
      ·subst c45
       have H1 : (none) = some r := by rw [if_pos rfl] at H; exact H
       clear H
       have H := H1
       clear H1
       exact absurd H (by simp)
      ·replace c45 := Bool.eq_false_iff.mpr c45
       subst c45
       have H1 : ((discs_Turns.f kj13 a0_0 a0_1 a0_2 a0_3 l1).bind fun bt549 => (if bt549.2.2.2.2 = 0 then ((discs_Root.f kj13 bt549.1 bt549.2.1 bt549.2.2.1 bt549.2.2.2.1).bind fun bt555 => ((discs_Same.f kj13 a0_0 a0_1 a0_2 a0_3 bt549.1 bt549.2.1 bt549.2.2.1 bt549.2.2.2.1).bind fun bt562 => (if bt555.2.2.2.2.2 = 0 then (if bt562.2 = 0 then (if (bt555.1 == t529 && (bt555.2.1 == t530 && (bt555.2.2.1 == t531 && (bt555.2.2.2.1 == t532)))) = true then (if bt562.1 = true then ((clochelaw01_alive.f kj13).bind fun t564 => (some t564)) else (none)) else (none)) else (none)) else (none)))) else (if (bt549.1 == 0 && (bt549.2.1 == 0 && (bt549.2.2.1 == 0 && (bt549.2.2.2.1 == 0)))) = true then ((clochelaw01_alive.f kj13).bind fun t565 => (some t565)) else (none)))) = some r := by rw [if_neg (show ¬ (false = true) by decide)] at H; exact H
       clear H
       have H := H1
       clear H1
       replace H := Option.bind_eq_some_iff.mp H
       obtain ⟨⟨t549, t550, t551, t552, t553⟩, A460, H⟩ := H
       replace H : (if t553 = 0 then ((discs_Root.f kj13 t549 t550 t551 t552).bind fun bt555 => ((discs_Same.f kj13 a0_0 a0_1 a0_2 a0_3 t549 t550 t551 t552).bind fun bt562 => (if bt555.2.2.2.2.2 = 0 then (if bt562.2 = 0 then (if (bt555.1 == t529 && (bt555.2.1 == t530 && (bt555.2.2.1 == t531 && (bt555.2.2.2.1 == t532)))) = true then (if bt562.1 = true then ((clochelaw01_alive.f kj13).bind fun t564 => (some t564)) else (none)) else (none)) else (none)) else (none)))) else (if (t549 == 0 && (t550 == 0 && (t551 == 0 && (t552 == 0)))) = true then ((clochelaw01_alive.f kj13).bind fun t565 => (some t565)) else (none))) = some r := H
       have A46 := Aside0.mk A460
       clear A460
       by_cases c47 : t553 = 0
       ·rw [if_pos c47] at H
        have c47b0 : (t553 == 0) = true := beq_iff_eq.mpr c47
        have c47b1 : (t553 != 0) = false := bne_eq_false_iff_eq.mpr c47
        clear c47
        replace H := Option.bind_eq_some_iff.mp H
        obtain ⟨⟨t555, t556, t557, t558, t559, t560⟩, A480, H⟩ := H
        replace H : ((discs_Same.f kj13 a0_0 a0_1 a0_2 a0_3 t549 t550 t551 t552).bind fun bt562 => (if t560 = 0 then (if bt562.2 = 0 then (if (t555 == t529 && (t556 == t530 && (t557 == t531 && (t558 == t532)))) = true then (if bt562.1 = true then ((clochelaw01_alive.f kj13).bind fun t564 => (some t564)) else (none)) else (none)) else (none)) else (none))) = some r := H
        have A48 := Aside0.mk A480
        clear A480
        replace H := Option.bind_eq_some_iff.mp H
        obtain ⟨⟨t562, t563⟩, A490, H⟩ := H
        replace H : (if t560 = 0 then (if t563 = 0 then (if (t555 == t529 && (t556 == t530 && (t557 == t531 && (t558 == t532)))) = true then (if t562 = true then ((clochelaw01_alive.f kj13).bind fun t564 => (some t564)) else (none)) else (none)) else (none)) else (none)) = some r := H
        have A49 := Aside0.mk A490
        clear A490
        by_cases c50 : t560 = 0
        ·rw [if_pos c50] at H
         have c50b0 : (t560 == 0) = true := beq_iff_eq.mpr c50
         have c50b1 : (t560 != 0) = false := bne_eq_false_iff_eq.mpr c50
         clear c50
         by_cases c51 : t563 = 0
         ·rw [if_pos c51] at H
          have c51b0 : (t563 == 0) = true := beq_iff_eq.mpr c51
          have c51b1 : (t563 != 0) = false := bne_eq_false_iff_eq.mpr c51
          clear c51
          by_cases c52 : (t555 == t529 && (t556 == t530 && (t557 == t531 && (t558 == t532)))) = true
          ·rw [if_pos c52] at H
           have c52b0 : (t555 == t529 && (t556 == t530 && (t557 == t531 && (t558 == t532)))) = true := c52
           (try (have c52b1 : decide (t555 = t529 && (t556 == t530 && (t557 == t531 && (t558 == t532)))) = true := by simpa using c52))
           (try (have c52b2 : (t555 == t529 && (t556 == t530 && (t557 == t531 && (t558 == t532)))) = true := by simpa using c52))
           clear c52
           by_cases c53 : t562 = true
           ·subst c53
            have H1 : ((clochelaw01_alive.f kj13).bind fun t564 => (some t564)) = some r := by rw [if_pos rfl] at H; exact H
            clear H
            have H := H1
            clear H1
            replace H := Option.bind_eq_some_iff.mp H
            obtain ⟨t564, A540, H⟩ := H
            replace H : (some t564) = some r := H
            have A54 := Aside0.mk A540
            clear A540
            obtain rfl := Option.some.inj H
            have hnb55 := NB526_535.out
            have hnc55 := NB535_526.out
            have hnb56 := NB526_542.out
            have hnc56 := NB542_526.out
            have hcz57_0 : wc.cell? ⟨gb526, 0, none⟩ = some (.int .i64 a0_0) := (blk_cell BK526.out 0).trans rfl
            have hcz57_1 : wc.cell? ⟨gb526, 1, none⟩ = some (.int .i64 a0_1) := (blk_cell BK526.out 1).trans rfl
            have hcz57_2 : wc.cell? ⟨gb526, 2, none⟩ = some (.int .i64 a0_2) := (blk_cell BK526.out 2).trans rfl
            have hcz57_3 : wc.cell? ⟨gb526, 3, none⟩ = some (.int .i64 a0_3) := (blk_cell BK526.out 3).trans rfl
            have hfz57_0 := blk_frozen BK526.out 0
            have hfz57_1 := blk_frozen BK526.out 1
            have hfz57_2 := blk_frozen BK526.out 2
            have hfz57_3 := blk_frozen BK526.out 3
            go_wp2_with (first | ((with_reducible refine gate_callee (f := 36) rfl ?_); refine goesL_ (some 78) rfl rfl Try.func36 (by kernel_rfl) rfl #[.agg #[.int .i64 a0_0, .int .i64 a0_1, .int .i64 a0_2, .int .i64 a0_3], .slice A1 l1.length c1] rfl mp_ ?_; (with_reducible refine (discs_Turns.calls kj13 a0_0 a0_1 a0_2 a0_3 _ _ l1 t549 t550 t551 t552 t553 _ ?side1 ?side2 A46.out).mono ?_); (case side1 => repeat (first | exact (Kd.C_below HR1.out HB.out) | (with_reducible refine Kd.C_alloc ?_ _) | (with_reducible refine Kd.C_drewN ?_ _) | (with_reducible refine Kd.C_drew ?_))); (case side2 => exact HC1.out); rintro e w58 ⟨rfl, hb⟩; refine ⟨_, rfl, ?_⟩; have n0_ := Aside0.mk (blk_below (g := gb526) (o := .cells #[.int .i64 a0_0, .int .i64 a0_1, .int .i64 a0_2, .int .i64 a0_3] 23 (0, 0)) (by refine bs_ ?_; exact BK526.out) hb); have n1_ := Aside0.mk (blk_below (g := gb535) (o := .cells #[.int .i64 t529, .int .i64 t530, .int .i64 t531, .int .i64 t532] 23 (0, 0)) (by refine bs_ ?_; exact BK535.out) hb); have n2_ := Aside0.mk (blk_below (g := gb542) (o := .cells #[.int .i64 t536, .int .i64 t537, .int .i64 t538, .int .i64 t539] 23 (0, 0)) (by refine bs_ ?_; exact BK542.out) hb); have n3_ := Aside0.mk (below_step (by repeat (first | (with_reducible first | exact HB.out | apply below_alloc | apply pw_below_drewN | apply below_drew1 | refine below_set ?_ GE526.out | refine below_set ?_ GE535.out | refine below_set ?_ GE542.out) | exact HB.out)) hb); clear BK526; clear BK535; clear BK542; clear HB; have BK526 := n0_; have BK535 := n1_; have BK542 := n2_; have HB := n3_; clear n0_ n1_ n2_ n3_; (try clear hb); (try clear hb2); (try clear hk); (try clear hi)) | ((with_reducible refine gate_dst (N := 11) rfl ?_); refine box_event ?hg (N := 11) ?hd (cs := #[.int .i64 0, .int .i64 0, .int .i64 0, .int .i64 0]) (t := 23) ?hr ?_; (case hd => rfl); (case hg => rfl); (case hr => exact gs_); intro gb554 hg w59 hbox hb; have n0_ := Aside0.mk (blk_below (g := gb526) (o := .cells #[.int .i64 a0_0, .int .i64 a0_1, .int .i64 a0_2, .int .i64 a0_3] 23 (0, 0)) (by refine bs_ ?_; exact BK526.out) hb); have n1_ := Aside0.mk (blk_below (g := gb535) (o := .cells #[.int .i64 t529, .int .i64 t530, .int .i64 t531, .int .i64 t532] 23 (0, 0)) (by refine bs_ ?_; exact BK535.out) hb); have n2_ := Aside0.mk (blk_below (g := gb542) (o := .cells #[.int .i64 t536, .int .i64 t537, .int .i64 t538, .int .i64 t539] 23 (0, 0)) (by refine bs_ ?_; exact BK542.out) hb); have n3_ := Aside0.mk (below_step (by repeat (first | (with_reducible first | exact HB.out | apply below_alloc | apply pw_below_drewN | apply below_drew1 | refine below_set ?_ GE526.out | refine below_set ?_ GE535.out | refine below_set ?_ GE542.out) | exact HB.out)) hb); have n4_ := Aside0.mk (hbox); have n5_ := Aside0.mk ((by rw [hg]; exact (below_size (by repeat (first | (with_reducible first | exact HB.out | apply below_alloc | apply pw_below_drewN | apply below_drew1 | refine below_set ?_ GE526.out | refine below_set ?_ GE535.out | refine below_set ?_ GE542.out) | exact HB.out))) : w.heap.size ≤ gb554)); have n6_ := Aside0.mk ((by rw [hg]; exact (below_size (by repeat (first | (with_reducible first | exact HB.out | apply below_alloc | apply pw_below_drewN | apply below_drew1 | refine below_set ?_ GE526.out | refine below_set ?_ GE535.out | refine below_set ?_ GE542.out) | exact HB.out))) : w.heap.size ≤ gb554)); have n7_ := Aside0.mk ((by rw [hg]; exact Nat.ne_of_lt (blk_lt (g := gb526) (o := .cells #[.int .i64 a0_0, .int .i64 a0_1, .int .i64 a0_2, .int .i64 a0_3] 23 (0, 0)) (by refine bs_ ?_; exact BK526.out)) : gb526 ≠ gb554)); have n8_ := Aside0.mk ((by rw [hg]; exact Nat.ne_of_gt (blk_lt (g := gb526) (o := .cells #[.int .i64 a0_0, .int .i64 a0_1, .int .i64 a0_2, .int .i64 a0_3] 23 (0, 0)) (by refine bs_ ?_; exact BK526.out)) : gb554 ≠ gb526)); have n9_ := Aside0.mk ((by rw [hg]; exact Nat.ne_of_lt (blk_lt (g := gb535) (o := .cells #[.int .i64 t529, .int .i64 t530, .int .i64 t531, .int .i64 t532] 23 (0, 0)) (by refine bs_ ?_; exact BK535.out)) : gb535 ≠ gb554)); have n10_ := Aside0.mk ((by rw [hg]; exact Nat.ne_of_gt (blk_lt (g := gb535) (o := .cells #[.int .i64 t529, .int .i64 t530, .int .i64 t531, .int .i64 t532] 23 (0, 0)) (by refine bs_ ?_; exact BK535.out)) : gb554 ≠ gb535)); have n11_ := Aside0.mk ((by rw [hg]; exact Nat.ne_of_lt (blk_lt (g := gb542) (o := .cells #[.int .i64 t536, .int .i64 t537, .int .i64 t538, .int .i64 t539] 23 (0, 0)) (by refine bs_ ?_; exact BK542.out)) : gb542 ≠ gb554)); have n12_ := Aside0.mk ((by rw [hg]; exact Nat.ne_of_gt (blk_lt (g := gb542) (o := .cells #[.int .i64 t536, .int .i64 t537, .int .i64 t538, .int .i64 t539] 23 (0, 0)) (by refine bs_ ?_; exact BK542.out)) : gb554 ≠ gb542)); clear BK526; clear BK535; clear BK542; clear HB; have BK526 := n0_; have BK535 := n1_; have BK542 := n2_; have HB := n3_; have BK554 := n4_; have GW554 := n5_; have GE554 := n6_; have NB526_554 := n7_; have NB554_526 := n8_; have NB535_554 := n9_; have NB554_535 := n10_; have NB542_554 := n11_; have NB554_542 := n12_; clear n0_ n1_ n2_ n3_ n4_ n5_ n6_ n7_ n8_ n9_ n10_ n11_ n12_; clear hb hbox hg; have hnb60 := NB554_526.out; have hnc60 := NB526_554.out; have hnb61 := NB554_535.out; have hnc61 := NB535_554.out; have hnb62 := NB554_542.out; have hnc62 := NB542_554.out; have hcz63_0 : w59.cell? ⟨gb554, 0, none⟩ = some (.int .i64 0) := (blk_cell BK554.out 0).trans rfl; have hcz63_1 : w59.cell? ⟨gb554, 1, none⟩ = some (.int .i64 0) := (blk_cell BK554.out 1).trans rfl; have hcz63_2 : w59.cell? ⟨gb554, 2, none⟩ = some (.int .i64 0) := (blk_cell BK554.out 2).trans rfl; have hcz63_3 : w59.cell? ⟨gb554, 3, none⟩ = some (.int .i64 0) := (blk_cell BK554.out 3).trans rfl; have hfz63_0 := blk_frozen BK554.out 0; have hfz63_1 := blk_frozen BK554.out 1; have hfz63_2 := blk_frozen BK554.out 2; have hfz63_3 := blk_frozen BK554.out 3) | ((with_reducible refine gate_callee (f := 15) rfl ?_); refine goesL_ (some 91) rfl rfl Try.func15 (by kernel_rfl) rfl #[.agg #[.int .i64 t549, .int .i64 t550, .int .i64 t551, .int .i64 t552]] rfl mp_ ?_; (with_reducible refine (discs_Root.calls kj13 t549 t550 t551 t552 t555 t556 t557 t558 t559 t560 _ A48.out).mono ?_); rintro e w64 ⟨rfl, hb⟩; refine ⟨_, rfl, ?_⟩; have n0_ := Aside0.mk (blk_below (g := gb526) (o := .cells #[.int .i64 a0_0, .int .i64 a0_1, .int .i64 a0_2, .int .i64 a0_3] 23 (0, 0)) (by refine bs_ ?_; refine blk_far ?_ NB526_554.out _; refine bs_ ?_; refine blk_far ?_ NB526_554.out _; refine bs_ ?_; refine blk_far ?_ NB526_554.out _; refine bs_ ?_; refine blk_far ?_ NB526_554.out _; refine bs_ ?_; exact BK526.out) hb); have n1_ := Aside0.mk (blk_below (g := gb535) (o := .cells #[.int .i64 t529, .int .i64 t530, .int .i64 t531, .int .i64 t532] 23 (0, 0)) (by refine bs_ ?_; refine blk_far ?_ NB535_554.out _; refine bs_ ?_; refine blk_far ?_ NB535_554.out _; refine bs_ ?_; refine blk_far ?_ NB535_554.out _; refine bs_ ?_; refine blk_far ?_ NB535_554.out _; refine bs_ ?_; exact BK535.out) hb); have n2_ := Aside0.mk (blk_below (g := gb542) (o := .cells #[.int .i64 t536, .int .i64 t537, .int .i64 t538, .int .i64 t539] 23 (0, 0)) (by refine bs_ ?_; refine blk_far ?_ NB542_554.out _; refine bs_ ?_; refine blk_far ?_ NB542_554.out _; refine bs_ ?_; refine blk_far ?_ NB542_554.out _; refine bs_ ?_; refine blk_far ?_ NB542_554.out _; refine bs_ ?_; exact BK542.out) hb); have n3_ := Aside0.mk (blk_below (g := gb554) (o := .cells #[.int .i64 t549, .int .i64 t550, .int .i64 t551, .int .i64 t552] 23 (0, 0)) (by refine bs_ ?_; refine blk_put (cs := #[.int .i64 t549, .int .i64 t550, .int .i64 t551, .int .i64 0]) ?_ 3 _ rfl; refine bs_ ?_; refine blk_put (cs := #[.int .i64 t549, .int .i64 t550, .int .i64 0, .int .i64 0]) ?_ 2 _ rfl; refine bs_ ?_; refine blk_put (cs := #[.int .i64 t549, .int .i64 0, .int .i64 0, .int .i64 0]) ?_ 1 _ rfl; refine bs_ ?_; refine blk_put (cs := #[.int .i64 0, .int .i64 0, .int .i64 0, .int .i64 0]) ?_ 0 _ rfl; refine bs_ ?_; exact BK554.out) hb); have n4_ := Aside0.mk (below_step (by repeat (first | (with_reducible first | exact HB.out | apply below_alloc | apply pw_below_drewN | apply below_drew1 | refine below_set ?_ GE526.out | refine below_set ?_ GE535.out | refine below_set ?_ GE542.out | refine below_set ?_ GE554.out) | exact HB.out)) hb); clear BK526; clear BK535; clear BK542; clear BK554; clear HB; have BK526 := n0_; have BK535 := n1_; have BK542 := n2_; have BK554 := n3_; have HB := n4_; clear n0_ n1_ n2_ n3_ n4_; (try clear hb); (try clear hb2); (try clear hk); (try clear hi)) | ((with_reducible refine gate_dst (N := 12) rfl ?_); refine box_event ?hg (N := 12) ?hd (cs := #[.int .i64 0, .int .i64 0, .int .i64 0, .int .i64 0]) (t := 23) ?hr ?_; (case hd => rfl); (case hg => rfl); (case hr => exact gs_); intro gb561 hg w65 hbox hb; have n0_ := Aside0.mk (blk_below (g := gb526) (o := .cells #[.int .i64 a0_0, .int .i64 a0_1, .int .i64 a0_2, .int .i64 a0_3] 23 (0, 0)) (by refine bs_ ?_; exact BK526.out) hb); have n1_ := Aside0.mk (blk_below (g := gb535) (o := .cells #[.int .i64 t529, .int .i64 t530, .int .i64 t531, .int .i64 t532] 23 (0, 0)) (by refine bs_ ?_; exact BK535.out) hb); have n2_ := Aside0.mk (blk_below (g := gb542) (o := .cells #[.int .i64 t536, .int .i64 t537, .int .i64 t538, .int .i64 t539] 23 (0, 0)) (by refine bs_ ?_; exact BK542.out) hb); have n3_ := Aside0.mk (blk_below (g := gb554) (o := .cells #[.int .i64 t549, .int .i64 t550, .int .i64 t551, .int .i64 t552] 23 (0, 0)) (by refine bs_ ?_; exact BK554.out) hb); have n4_ := Aside0.mk (below_step (by repeat (first | (with_reducible first | exact HB.out | apply below_alloc | apply pw_below_drewN | apply below_drew1 | refine below_set ?_ GE526.out | refine below_set ?_ GE535.out | refine below_set ?_ GE542.out | refine below_set ?_ GE554.out) | exact HB.out)) hb); have n5_ := Aside0.mk (hbox); have n6_ := Aside0.mk ((by rw [hg]; exact (below_size (by repeat (first | (with_reducible first | exact HB.out | apply below_alloc | apply pw_below_drewN | apply below_drew1 | refine below_set ?_ GE526.out | refine below_set ?_ GE535.out | refine below_set ?_ GE542.out | refine below_set ?_ GE554.out) | exact HB.out))) : w.heap.size ≤ gb561)); have n7_ := Aside0.mk ((by rw [hg]; exact (below_size (by repeat (first | (with_reducible first | exact HB.out | apply below_alloc | apply pw_below_drewN | apply below_drew1 | refine below_set ?_ GE526.out | refine below_set ?_ GE535.out | refine below_set ?_ GE542.out | refine below_set ?_ GE554.out) | exact HB.out))) : w.heap.size ≤ gb561)); have n8_ := Aside0.mk ((by rw [hg]; exact Nat.ne_of_lt (blk_lt (g := gb526) (o := .cells #[.int .i64 a0_0, .int .i64 a0_1, .int .i64 a0_2, .int .i64 a0_3] 23 (0, 0)) (by refine bs_ ?_; exact BK526.out)) : gb526 ≠ gb561)); have n9_ := Aside0.mk ((by rw [hg]; exact Nat.ne_of_gt (blk_lt (g := gb526) (o := .cells #[.int .i64 a0_0, .int .i64 a0_1, .int .i64 a0_2, .int .i64 a0_3] 23 (0, 0)) (by refine bs_ ?_; exact BK526.out)) : gb561 ≠ gb526)); have n10_ := Aside0.mk ((by rw [hg]; exact Nat.ne_of_lt (blk_lt (g := gb535) (o := .cells #[.int .i64 t529, .int .i64 t530, .int .i64 t531, .int .i64 t532] 23 (0, 0)) (by refine bs_ ?_; exact BK535.out)) : gb535 ≠ gb561)); have n11_ := Aside0.mk ((by rw [hg]; exact Nat.ne_of_gt (blk_lt (g := gb535) (o := .cells #[.int .i64 t529, .int .i64 t530, .int .i64 t531, .int .i64 t532] 23 (0, 0)) (by refine bs_ ?_; exact BK535.out)) : gb561 ≠ gb535)); have n12_ := Aside0.mk ((by rw [hg]; exact Nat.ne_of_lt (blk_lt (g := gb542) (o := .cells #[.int .i64 t536, .int .i64 t537, .int .i64 t538, .int .i64 t539] 23 (0, 0)) (by refine bs_ ?_; exact BK542.out)) : gb542 ≠ gb561)); have n13_ := Aside0.mk ((by rw [hg]; exact Nat.ne_of_gt (blk_lt (g := gb542) (o := .cells #[.int .i64 t536, .int .i64 t537, .int .i64 t538, .int .i64 t539] 23 (0, 0)) (by refine bs_ ?_; exact BK542.out)) : gb561 ≠ gb542)); have n14_ := Aside0.mk ((by rw [hg]; exact Nat.ne_of_lt (blk_lt (g := gb554) (o := .cells #[.int .i64 t549, .int .i64 t550, .int .i64 t551, .int .i64 t552] 23 (0, 0)) (by refine bs_ ?_; exact BK554.out)) : gb554 ≠ gb561)); have n15_ := Aside0.mk ((by rw [hg]; exact Nat.ne_of_gt (blk_lt (g := gb554) (o := .cells #[.int .i64 t549, .int .i64 t550, .int .i64 t551, .int .i64 t552] 23 (0, 0)) (by refine bs_ ?_; exact BK554.out)) : gb561 ≠ gb554)); clear BK526; clear BK535; clear BK542; clear BK554; clear HB; have BK526 := n0_; have BK535 := n1_; have BK542 := n2_; have BK554 := n3_; have HB := n4_; have BK561 := n5_; have GW561 := n6_; have GE561 := n7_; have NB526_561 := n8_; have NB561_526 := n9_; have NB535_561 := n10_; have NB561_535 := n11_; have NB542_561 := n12_; have NB561_542 := n13_; have NB554_561 := n14_; have NB561_554 := n15_; clear n0_ n1_ n2_ n3_ n4_ n5_ n6_ n7_ n8_ n9_ n10_ n11_ n12_ n13_ n14_ n15_; clear hb hbox hg; have hnb66 := NB561_526.out; have hnc66 := NB526_561.out; have hnb67 := NB561_535.out; have hnc67 := NB535_561.out; have hnb68 := NB561_542.out; have hnc68 := NB542_561.out; have hnb69 := NB561_554.out; have hnc69 := NB554_561.out; have hcz70_0 : w65.cell? ⟨gb561, 0, none⟩ = some (.int .i64 0) := (blk_cell BK561.out 0).trans rfl; have hcz70_1 : w65.cell? ⟨gb561, 1, none⟩ = some (.int .i64 0) := (blk_cell BK561.out 1).trans rfl; have hcz70_2 : w65.cell? ⟨gb561, 2, none⟩ = some (.int .i64 0) := (blk_cell BK561.out 2).trans rfl; have hcz70_3 : w65.cell? ⟨gb561, 3, none⟩ = some (.int .i64 0) := (blk_cell BK561.out 3).trans rfl; have hfz70_0 := blk_frozen BK561.out 0; have hfz70_1 := blk_frozen BK561.out 1; have hfz70_2 := blk_frozen BK561.out 2; have hfz70_3 := blk_frozen BK561.out 3; have hcz71_0 : w65.cell? ⟨gb526, 0, none⟩ = some (.int .i64 a0_0) := (blk_cell BK526.out 0).trans rfl; have hcz71_1 : w65.cell? ⟨gb526, 1, none⟩ = some (.int .i64 a0_1) := (blk_cell BK526.out 1).trans rfl; have hcz71_2 : w65.cell? ⟨gb526, 2, none⟩ = some (.int .i64 a0_2) := (blk_cell BK526.out 2).trans rfl; have hcz71_3 : w65.cell? ⟨gb526, 3, none⟩ = some (.int .i64 a0_3) := (blk_cell BK526.out 3).trans rfl; have hfz71_0 := blk_frozen BK526.out 0; have hfz71_1 := blk_frozen BK526.out 1; have hfz71_2 := blk_frozen BK526.out 2; have hfz71_3 := blk_frozen BK526.out 3; have hcz72_0 : w65.cell? ⟨gb554, 0, none⟩ = some (.int .i64 t549) := (blk_cell BK554.out 0).trans rfl; have hcz72_1 : w65.cell? ⟨gb554, 1, none⟩ = some (.int .i64 t550) := (blk_cell BK554.out 1).trans rfl; have hcz72_2 : w65.cell? ⟨gb554, 2, none⟩ = some (.int .i64 t551) := (blk_cell BK554.out 2).trans rfl; have hcz72_3 : w65.cell? ⟨gb554, 3, none⟩ = some (.int .i64 t552) := (blk_cell BK554.out 3).trans rfl; have hfz72_0 := blk_frozen BK554.out 0; have hfz72_1 := blk_frozen BK554.out 1; have hfz72_2 := blk_frozen BK554.out 2; have hfz72_3 := blk_frozen BK554.out 3) | ((with_reducible refine gate_callee (f := 40) rfl ?_); refine goesL_ (some 98) rfl rfl Try.func40 (by kernel_rfl) rfl #[.agg #[.int .i64 a0_0, .int .i64 a0_1, .int .i64 a0_2, .int .i64 a0_3], .agg #[.int .i64 t549, .int .i64 t550, .int .i64 t551, .int .i64 t552]] rfl mp_ ?_; (with_reducible refine (discs_Same.calls kj13 a0_0 a0_1 a0_2 a0_3 t549 t550 t551 t552 true t563 _ A49.out).mono ?_); rintro e w73 ⟨rfl, hb⟩; refine ⟨_, rfl, ?_⟩; have n0_ := Aside0.mk (blk_below (g := gb526) (o := .cells #[.int .i64 a0_0, .int .i64 a0_1, .int .i64 a0_2, .int .i64 a0_3] 23 (0, 0)) (by refine bs_ ?_; refine blk_far ?_ NB526_561.out _; refine bs_ ?_; refine blk_far ?_ NB526_561.out _; refine bs_ ?_; refine blk_far ?_ NB526_561.out _; refine bs_ ?_; refine blk_far ?_ NB526_561.out _; refine bs_ ?_; exact BK526.out) hb); have n1_ := Aside0.mk (blk_below (g := gb535) (o := .cells #[.int .i64 t529, .int .i64 t530, .int .i64 t531, .int .i64 t532] 23 (0, 0)) (by refine bs_ ?_; refine blk_far ?_ NB535_561.out _; refine bs_ ?_; refine blk_far ?_ NB535_561.out _; refine bs_ ?_; refine blk_far ?_ NB535_561.out _; refine bs_ ?_; refine blk_far ?_ NB535_561.out _; refine bs_ ?_; exact BK535.out) hb); have n2_ := Aside0.mk (blk_below (g := gb542) (o := .cells #[.int .i64 t536, .int .i64 t537, .int .i64 t538, .int .i64 t539] 23 (0, 0)) (by refine bs_ ?_; refine blk_far ?_ NB542_561.out _; refine bs_ ?_; refine blk_far ?_ NB542_561.out _; refine bs_ ?_; refine blk_far ?_ NB542_561.out _; refine bs_ ?_; refine blk_far ?_ NB542_561.out _; refine bs_ ?_; exact BK542.out) hb); have n3_ := Aside0.mk (blk_below (g := gb554) (o := .cells #[.int .i64 t549, .int .i64 t550, .int .i64 t551, .int .i64 t552] 23 (0, 0)) (by refine bs_ ?_; refine blk_far ?_ NB554_561.out _; refine bs_ ?_; refine blk_far ?_ NB554_561.out _; refine bs_ ?_; refine blk_far ?_ NB554_561.out _; refine bs_ ?_; refine blk_far ?_ NB554_561.out _; refine bs_ ?_; exact BK554.out) hb); have n4_ := Aside0.mk (blk_below (g := gb561) (o := .cells #[.int .i64 t555, .int .i64 t556, .int .i64 t557, .int .i64 t558] 23 (0, 0)) (by refine bs_ ?_; refine blk_put (cs := #[.int .i64 t555, .int .i64 t556, .int .i64 t557, .int .i64 0]) ?_ 3 _ rfl; refine bs_ ?_; refine blk_put (cs := #[.int .i64 t555, .int .i64 t556, .int .i64 0, .int .i64 0]) ?_ 2 _ rfl; refine bs_ ?_; refine blk_put (cs := #[.int .i64 t555, .int .i64 0, .int .i64 0, .int .i64 0]) ?_ 1 _ rfl; refine bs_ ?_; refine blk_put (cs := #[.int .i64 0, .int .i64 0, .int .i64 0, .int .i64 0]) ?_ 0 _ rfl; refine bs_ ?_; exact BK561.out) hb); have n5_ := Aside0.mk (below_step (by repeat (first | (with_reducible first | exact HB.out | apply below_alloc | apply pw_below_drewN | apply below_drew1 | refine below_set ?_ GE526.out | refine below_set ?_ GE535.out | refine below_set ?_ GE542.out | refine below_set ?_ GE554.out | refine below_set ?_ GE561.out) | exact HB.out)) hb); clear BK526; clear BK535; clear BK542; clear BK554; clear BK561; clear HB; have BK526 := n0_; have BK535 := n1_; have BK542 := n2_; have BK554 := n3_; have BK561 := n4_; have HB := n5_; clear n0_ n1_ n2_ n3_ n4_ n5_; (try clear hb); (try clear hb2); (try clear hk); (try clear hi); have hcz74_0 : w73.cell? ⟨gb561, 0, none⟩ = some (.int .i64 t555) := (blk_cell BK561.out 0).trans rfl; have hcz74_1 : w73.cell? ⟨gb561, 1, none⟩ = some (.int .i64 t556) := (blk_cell BK561.out 1).trans rfl; have hcz74_2 : w73.cell? ⟨gb561, 2, none⟩ = some (.int .i64 t557) := (blk_cell BK561.out 2).trans rfl; have hcz74_3 : w73.cell? ⟨gb561, 3, none⟩ = some (.int .i64 t558) := (blk_cell BK561.out 3).trans rfl; have hfz74_0 := blk_frozen BK561.out 0; have hfz74_1 := blk_frozen BK561.out 1; have hfz74_2 := blk_frozen BK561.out 2; have hfz74_3 := blk_frozen BK561.out 3; have hnb75 := NB535_542.out; have hnc75 := NB542_535.out; have hcz76_0 : w73.cell? ⟨gb535, 0, none⟩ = some (.int .i64 t529) := (blk_cell BK535.out 0).trans rfl; have hcz76_1 : w73.cell? ⟨gb535, 1, none⟩ = some (.int .i64 t530) := (blk_cell BK535.out 1).trans rfl; have hcz76_2 : w73.cell? ⟨gb535, 2, none⟩ = some (.int .i64 t531) := (blk_cell BK535.out 2).trans rfl; have hcz76_3 : w73.cell? ⟨gb535, 3, none⟩ = some (.int .i64 t532) := (blk_cell BK535.out 3).trans rfl; have hfz76_0 := blk_frozen BK535.out 0; have hfz76_1 := blk_frozen BK535.out 1; have hfz76_2 := blk_frozen BK535.out 2; have hfz76_3 := blk_frozen BK535.out 3) | (go_at_call 19; (with_reducible refine (clochelaw01_alive.calls kj13  t564 _ A54.out).mono ?_); rintro e w77 ⟨rfl, hb⟩; have n0_ := Aside0.mk (blk_below (g := gb526) (o := .cells #[.int .i64 a0_0, .int .i64 a0_1, .int .i64 a0_2, .int .i64 a0_3] 23 (0, 0)) (by refine bs_ ?_; exact BK526.out) hb); have n1_ := Aside0.mk (blk_below (g := gb535) (o := .cells #[.int .i64 t529, .int .i64 t530, .int .i64 t531, .int .i64 t532] 23 (0, 0)) (by refine bs_ ?_; exact BK535.out) hb); have n2_ := Aside0.mk (blk_below (g := gb542) (o := .cells #[.int .i64 t536, .int .i64 t537, .int .i64 t538, .int .i64 t539] 23 (0, 0)) (by refine bs_ ?_; exact BK542.out) hb); have n3_ := Aside0.mk (blk_below (g := gb554) (o := .cells #[.int .i64 t549, .int .i64 t550, .int .i64 t551, .int .i64 t552] 23 (0, 0)) (by refine bs_ ?_; exact BK554.out) hb); have n4_ := Aside0.mk (blk_below (g := gb561) (o := .cells #[.int .i64 t555, .int .i64 t556, .int .i64 t557, .int .i64 t558] 23 (0, 0)) (by refine bs_ ?_; exact BK561.out) hb); have n5_ := Aside0.mk (below_step (by repeat (first | (with_reducible first | exact HB.out | apply below_alloc | apply pw_below_drewN | apply below_drew1 | refine below_set ?_ GE526.out | refine below_set ?_ GE535.out | refine below_set ?_ GE542.out | refine below_set ?_ GE554.out | refine below_set ?_ GE561.out) | exact HB.out)) hb); clear BK526; clear BK535; clear BK542; clear BK554; clear BK561; clear HB; have BK526 := n0_; have BK535 := n1_; have BK542 := n2_; have BK554 := n3_; have BK561 := n4_; have HB := n5_; clear n0_ n1_ n2_ n3_ n4_ n5_; (try clear hb); (try clear hb2); (try clear hk); (try clear hi)))
            go_ret
            exact ⟨by first | rfl | (simp [errW_none, errW_some] <;> rfl) | (simp [*, errW_none, errW_some] <;> rfl), by repeat (first | (with_reducible first | exact HB.out | apply below_alloc | apply pw_below_drewN | apply below_drew1 | refine below_set ?_ GE526.out | refine below_set ?_ GE535.out | refine below_set ?_ GE542.out | refine below_set ?_ GE554.out | refine below_set ?_ GE561.out) | exact HB.out)⟩
           ·replace c53 := Bool.eq_false_iff.mpr c53
            subst c53
            have H1 : (none) = some r := by rw [if_neg (show ¬ (false = true) by decide)] at H; exact H
            clear H
            have H := H1
            clear H1
            exact absurd H (by simp)
          ·rw [if_neg c52] at H
           exact absurd H (by simp)
         ·rw [if_neg c51] at H
          exact absurd H (by simp)
        ·rw [if_neg c50] at H
         exact absurd H (by simp)
       ·rw [if_neg c47] at H
        have c47b0 : (t553 == 0) = false := beq_eq_false_iff_ne.mpr c47
        have c47b1 : (t553 != 0) = true := bne_iff_ne.mpr c47
        by_cases c78 : (t549 == 0 && (t550 == 0 && (t551 == 0 && (t552 == 0)))) = true
        ·rw [if_pos c78] at H
         have c78b0 : (t549 == 0 && (t550 == 0 && (t551 == 0 && (t552 == 0)))) = true := c78
         (try (have c78b1 : decide (t549 = 0 && (t550 == 0 && (t551 == 0 && (t552 == 0)))) = true := by simpa using c78))
         (try (have c78b2 : (t549 == 0 && (t550 == 0 && (t551 == 0 && (t552 == 0)))) = true := by simpa using c78))
         clear c78
         replace H := Option.bind_eq_some_iff.mp H
         obtain ⟨t565, A790, H⟩ := H
         replace H : (some t565) = some r := H
         have A79 := Aside0.mk A790
         clear A790
         obtain rfl := Option.some.inj H
         have hnb80 := NB526_535.out
         have hnc80 := NB535_526.out
         have hnb81 := NB526_542.out
         have hnc81 := NB542_526.out
         have hcz82_0 : wc.cell? ⟨gb526, 0, none⟩ = some (.int .i64 a0_0) := (blk_cell BK526.out 0).trans rfl
         have hcz82_1 : wc.cell? ⟨gb526, 1, none⟩ = some (.int .i64 a0_1) := (blk_cell BK526.out 1).trans rfl
         have hcz82_2 : wc.cell? ⟨gb526, 2, none⟩ = some (.int .i64 a0_2) := (blk_cell BK526.out 2).trans rfl
         have hcz82_3 : wc.cell? ⟨gb526, 3, none⟩ = some (.int .i64 a0_3) := (blk_cell BK526.out 3).trans rfl
         have hfz82_0 := blk_frozen BK526.out 0
         have hfz82_1 := blk_frozen BK526.out 1
         have hfz82_2 := blk_frozen BK526.out 2
         have hfz82_3 := blk_frozen BK526.out 3
         go_wp2_with (first | ((with_reducible refine gate_callee (f := 36) rfl ?_); refine goesL_ (some 78) rfl rfl Try.func36 (by kernel_rfl) rfl #[.agg #[.int .i64 a0_0, .int .i64 a0_1, .int .i64 a0_2, .int .i64 a0_3], .slice A1 l1.length c1] rfl mp_ ?_; (with_reducible refine (discs_Turns.calls kj13 a0_0 a0_1 a0_2 a0_3 _ _ l1 t549 t550 t551 t552 t553 _ ?side1 ?side2 A46.out).mono ?_); (case side1 => repeat (first | exact (Kd.C_below HR1.out HB.out) | (with_reducible refine Kd.C_alloc ?_ _) | (with_reducible refine Kd.C_drewN ?_ _) | (with_reducible refine Kd.C_drew ?_))); (case side2 => exact HC1.out); rintro e w83 ⟨rfl, hb⟩; refine ⟨_, rfl, ?_⟩; have n0_ := Aside0.mk (blk_below (g := gb526) (o := .cells #[.int .i64 a0_0, .int .i64 a0_1, .int .i64 a0_2, .int .i64 a0_3] 23 (0, 0)) (by refine bs_ ?_; exact BK526.out) hb); have n1_ := Aside0.mk (blk_below (g := gb535) (o := .cells #[.int .i64 t529, .int .i64 t530, .int .i64 t531, .int .i64 t532] 23 (0, 0)) (by refine bs_ ?_; exact BK535.out) hb); have n2_ := Aside0.mk (blk_below (g := gb542) (o := .cells #[.int .i64 t536, .int .i64 t537, .int .i64 t538, .int .i64 t539] 23 (0, 0)) (by refine bs_ ?_; exact BK542.out) hb); have n3_ := Aside0.mk (below_step (by repeat (first | (with_reducible first | exact HB.out | apply below_alloc | apply pw_below_drewN | apply below_drew1 | refine below_set ?_ GE526.out | refine below_set ?_ GE535.out | refine below_set ?_ GE542.out) | exact HB.out)) hb); clear BK526; clear BK535; clear BK542; clear HB; have BK526 := n0_; have BK535 := n1_; have BK542 := n2_; have HB := n3_; clear n0_ n1_ n2_ n3_; (try clear hb); (try clear hb2); (try clear hk); (try clear hi)) | ((with_reducible refine gate_dst (N := 11) rfl ?_); refine box_event ?hg (N := 11) ?hd (cs := #[.int .i64 0, .int .i64 0, .int .i64 0, .int .i64 0]) (t := 23) ?hr ?_; (case hd => rfl); (case hg => rfl); (case hr => exact gs_); intro gb554 hg w84 hbox hb; have n0_ := Aside0.mk (blk_below (g := gb526) (o := .cells #[.int .i64 a0_0, .int .i64 a0_1, .int .i64 a0_2, .int .i64 a0_3] 23 (0, 0)) (by refine bs_ ?_; exact BK526.out) hb); have n1_ := Aside0.mk (blk_below (g := gb535) (o := .cells #[.int .i64 t529, .int .i64 t530, .int .i64 t531, .int .i64 t532] 23 (0, 0)) (by refine bs_ ?_; exact BK535.out) hb); have n2_ := Aside0.mk (blk_below (g := gb542) (o := .cells #[.int .i64 t536, .int .i64 t537, .int .i64 t538, .int .i64 t539] 23 (0, 0)) (by refine bs_ ?_; exact BK542.out) hb); have n3_ := Aside0.mk (below_step (by repeat (first | (with_reducible first | exact HB.out | apply below_alloc | apply pw_below_drewN | apply below_drew1 | refine below_set ?_ GE526.out | refine below_set ?_ GE535.out | refine below_set ?_ GE542.out) | exact HB.out)) hb); have n4_ := Aside0.mk (hbox); have n5_ := Aside0.mk ((by rw [hg]; exact (below_size (by repeat (first | (with_reducible first | exact HB.out | apply below_alloc | apply pw_below_drewN | apply below_drew1 | refine below_set ?_ GE526.out | refine below_set ?_ GE535.out | refine below_set ?_ GE542.out) | exact HB.out))) : w.heap.size ≤ gb554)); have n6_ := Aside0.mk ((by rw [hg]; exact (below_size (by repeat (first | (with_reducible first | exact HB.out | apply below_alloc | apply pw_below_drewN | apply below_drew1 | refine below_set ?_ GE526.out | refine below_set ?_ GE535.out | refine below_set ?_ GE542.out) | exact HB.out))) : w.heap.size ≤ gb554)); have n7_ := Aside0.mk ((by rw [hg]; exact Nat.ne_of_lt (blk_lt (g := gb526) (o := .cells #[.int .i64 a0_0, .int .i64 a0_1, .int .i64 a0_2, .int .i64 a0_3] 23 (0, 0)) (by refine bs_ ?_; exact BK526.out)) : gb526 ≠ gb554)); have n8_ := Aside0.mk ((by rw [hg]; exact Nat.ne_of_gt (blk_lt (g := gb526) (o := .cells #[.int .i64 a0_0, .int .i64 a0_1, .int .i64 a0_2, .int .i64 a0_3] 23 (0, 0)) (by refine bs_ ?_; exact BK526.out)) : gb554 ≠ gb526)); have n9_ := Aside0.mk ((by rw [hg]; exact Nat.ne_of_lt (blk_lt (g := gb535) (o := .cells #[.int .i64 t529, .int .i64 t530, .int .i64 t531, .int .i64 t532] 23 (0, 0)) (by refine bs_ ?_; exact BK535.out)) : gb535 ≠ gb554)); have n10_ := Aside0.mk ((by rw [hg]; exact Nat.ne_of_gt (blk_lt (g := gb535) (o := .cells #[.int .i64 t529, .int .i64 t530, .int .i64 t531, .int .i64 t532] 23 (0, 0)) (by refine bs_ ?_; exact BK535.out)) : gb554 ≠ gb535)); have n11_ := Aside0.mk ((by rw [hg]; exact Nat.ne_of_lt (blk_lt (g := gb542) (o := .cells #[.int .i64 t536, .int .i64 t537, .int .i64 t538, .int .i64 t539] 23 (0, 0)) (by refine bs_ ?_; exact BK542.out)) : gb542 ≠ gb554)); have n12_ := Aside0.mk ((by rw [hg]; exact Nat.ne_of_gt (blk_lt (g := gb542) (o := .cells #[.int .i64 t536, .int .i64 t537, .int .i64 t538, .int .i64 t539] 23 (0, 0)) (by refine bs_ ?_; exact BK542.out)) : gb554 ≠ gb542)); clear BK526; clear BK535; clear BK542; clear HB; have BK526 := n0_; have BK535 := n1_; have BK542 := n2_; have HB := n3_; have BK554 := n4_; have GW554 := n5_; have GE554 := n6_; have NB526_554 := n7_; have NB554_526 := n8_; have NB535_554 := n9_; have NB554_535 := n10_; have NB542_554 := n11_; have NB554_542 := n12_; clear n0_ n1_ n2_ n3_ n4_ n5_ n6_ n7_ n8_ n9_ n10_ n11_ n12_; clear hb hbox hg; have hnb85 := NB554_526.out; have hnc85 := NB526_554.out; have hnb86 := NB554_535.out; have hnc86 := NB535_554.out; have hnb87 := NB554_542.out; have hnc87 := NB542_554.out; have hcz88_0 : w84.cell? ⟨gb554, 0, none⟩ = some (.int .i64 0) := (blk_cell BK554.out 0).trans rfl; have hcz88_1 : w84.cell? ⟨gb554, 1, none⟩ = some (.int .i64 0) := (blk_cell BK554.out 1).trans rfl; have hcz88_2 : w84.cell? ⟨gb554, 2, none⟩ = some (.int .i64 0) := (blk_cell BK554.out 2).trans rfl; have hcz88_3 : w84.cell? ⟨gb554, 3, none⟩ = some (.int .i64 0) := (blk_cell BK554.out 3).trans rfl; have hfz88_0 := blk_frozen BK554.out 0; have hfz88_1 := blk_frozen BK554.out 1; have hfz88_2 := blk_frozen BK554.out 2; have hfz88_3 := blk_frozen BK554.out 3) | (go_at_call 19; (with_reducible refine (clochelaw01_alive.calls kj13  t565 _ A79.out).mono ?_); rintro e w89 ⟨rfl, hb⟩; have n0_ := Aside0.mk (blk_below (g := gb526) (o := .cells #[.int .i64 a0_0, .int .i64 a0_1, .int .i64 a0_2, .int .i64 a0_3] 23 (0, 0)) (by refine bs_ ?_; refine blk_far ?_ NB526_554.out _; refine bs_ ?_; refine blk_far ?_ NB526_554.out _; refine bs_ ?_; refine blk_far ?_ NB526_554.out _; refine bs_ ?_; refine blk_far ?_ NB526_554.out _; refine bs_ ?_; exact BK526.out) hb); have n1_ := Aside0.mk (blk_below (g := gb535) (o := .cells #[.int .i64 t529, .int .i64 t530, .int .i64 t531, .int .i64 t532] 23 (0, 0)) (by refine bs_ ?_; refine blk_far ?_ NB535_554.out _; refine bs_ ?_; refine blk_far ?_ NB535_554.out _; refine bs_ ?_; refine blk_far ?_ NB535_554.out _; refine bs_ ?_; refine blk_far ?_ NB535_554.out _; refine bs_ ?_; exact BK535.out) hb); have n2_ := Aside0.mk (blk_below (g := gb542) (o := .cells #[.int .i64 t536, .int .i64 t537, .int .i64 t538, .int .i64 t539] 23 (0, 0)) (by refine bs_ ?_; refine blk_far ?_ NB542_554.out _; refine bs_ ?_; refine blk_far ?_ NB542_554.out _; refine bs_ ?_; refine blk_far ?_ NB542_554.out _; refine bs_ ?_; refine blk_far ?_ NB542_554.out _; refine bs_ ?_; exact BK542.out) hb); have n3_ := Aside0.mk (blk_below (g := gb554) (o := .cells #[.int .i64 t549, .int .i64 t550, .int .i64 t551, .int .i64 t552] 23 (0, 0)) (by refine bs_ ?_; refine blk_put (cs := #[.int .i64 t549, .int .i64 t550, .int .i64 t551, .int .i64 0]) ?_ 3 _ rfl; refine bs_ ?_; refine blk_put (cs := #[.int .i64 t549, .int .i64 t550, .int .i64 0, .int .i64 0]) ?_ 2 _ rfl; refine bs_ ?_; refine blk_put (cs := #[.int .i64 t549, .int .i64 0, .int .i64 0, .int .i64 0]) ?_ 1 _ rfl; refine bs_ ?_; refine blk_put (cs := #[.int .i64 0, .int .i64 0, .int .i64 0, .int .i64 0]) ?_ 0 _ rfl; refine bs_ ?_; exact BK554.out) hb); have n4_ := Aside0.mk (below_step (by repeat (first | (with_reducible first | exact HB.out | apply below_alloc | apply pw_below_drewN | apply below_drew1 | refine below_set ?_ GE526.out | refine below_set ?_ GE535.out | refine below_set ?_ GE542.out | refine below_set ?_ GE554.out) | exact HB.out)) hb); clear BK526; clear BK535; clear BK542; clear BK554; clear HB; have BK526 := n0_; have BK535 := n1_; have BK542 := n2_; have BK554 := n3_; have HB := n4_; clear n0_ n1_ n2_ n3_ n4_; (try clear hb); (try clear hb2); (try clear hk); (try clear hi)))
         go_ret
         exact ⟨by first | rfl | (simp [errW_none, errW_some] <;> rfl) | (simp [*, errW_none, errW_some] <;> rfl), by repeat (first | (with_reducible first | exact HB.out | apply below_alloc | apply pw_below_drewN | apply below_drew1 | refine below_set ?_ GE526.out | refine below_set ?_ GE535.out | refine below_set ?_ GE542.out | refine below_set ?_ GE554.out) | exact HB.out)⟩
        ·rw [if_neg c78] at H
         exact absurd H (by simp)

end Go.Proofs.Ytlfmafebmnggeaa.Print
