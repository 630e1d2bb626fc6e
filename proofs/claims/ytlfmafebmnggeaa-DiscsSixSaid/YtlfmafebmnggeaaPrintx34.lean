/- What the functions of the discs compute, printed by this repo's hand printer. -/
import Derived.Test.YtlfmafebmnggeaaShort
import Derived.Test.YtlfmafebmnggeaaPrintx0
import Derived.Test.YtlfmafebmnggeaaHandRests
import Derived.Test.YtlfmafebmnggeaaPrintx4
import Derived.Test.YtlfmafebmnggeaaPrintx6
import Derived.Test.YtlfmafebmnggeaaPrintx13
import Derived.Test.YtlfmafebmnggeaaPrintx17
import Derived.Test.YtlfmafebmnggeaaPrintx33g
namespace Go.Proofs.Ytlfmafebmnggeaa.Print
open Go.RowKit Go.Proofs.YtlfmafebmnggeaaW.PrintWords Go.Proofs.YtlfmafebmnggeaaW.PrintLast Go.Proofs.YtlfmafebmnggeaaW.PrintMore
attribute [local go_sem] max2_int min2_int max_two min_two max_three min_three max_four min_four
set_option maxHeartbeats 8000000 -- slim
set_option maxRecDepth 100000
set_option linter.unusedVariables false
set_option linter.unusedSimpArgs false

/-! ### clochelaw01_DiscsSix: function 12 -/
mutual
def clochelaw01_DiscsSix.j0 : Nat → List Int → Bool → Int → Int → Int → Int → Option (Bool)
 | 0, _, _, _, _, _, _ => none
 | k + 1, x1, x19, x649000, x649001, x649002, x649003 => if x19 = true then ((clochelaw01_alive.f k).bind fun t650 => (some t650)) else ((discs_Rests.f k x649000 x649001 x649002 x649003).bind fun bt651 => (if bt651.2 = 0 then ((clochelaw01_gcd.f k x649000 x649001).bind fun t655 => ((clochelaw01_gcd.f k x649002 x649003).bind fun t656 => ((clochelaw01_gcd.f k t655 t656).bind fun t657 => (if t657 = 1 then (if (bt651.1.length : Int) = 6 then (clochelaw01_DiscsSix.j1 k x1 bt651.1 false x649000 x649001 x649002 x649003) else (clochelaw01_DiscsSix.j1 k x1 bt651.1 ((bt651.1.length : Int) != 8) x649000 x649001 x649002 x649003)) else (clochelaw01_DiscsSix.j1 k x1 bt651.1 false x649000 x649001 x649002 x649003))))) else (none)))
def clochelaw01_DiscsSix.j1 : Nat → List Int → List Int → Bool → Int → Int → Int → Int → Option (Bool)
 | 0, _, _, _, _, _, _, _ => none
 | k + 1, x1, x5, x51, x649000, x649001, x649002, x649003 => if x51 = true then (none) else ((discs_Turns.f k x649000 x649001 x649002 x649003 x1).bind fun bt658 => (if bt658.2.2.2.2 = 0 then ((discs_Rests.f k bt658.1 bt658.2.1 bt658.2.2.1 bt658.2.2.2.1).bind fun bt665 => (if bt665.2 = 0 then ((clochelaw01_same.f k x5 bt665.1).bind fun t669 => (clochelaw01_DiscsSix.j2 k x5 (!t669) bt658.1 bt658.2.1 bt658.2.2.1 bt658.2.2.2.1)) else (none))) else ((clochelaw01_alive.f k).bind fun t664 => (some t664))))
def clochelaw01_DiscsSix.j2 : Nat → List Int → Bool → Int → Int → Int → Int → Option (Bool)
 | 0, _, _, _, _, _, _ => none
 | k + 1, x5, x73, x664000, x664001, x664002, x664003 => if x73 = true then (none) else (clochelaw01_DiscsSix.l0 k x5 0 x664000 x664001 x664002 x664003)
def clochelaw01_DiscsSix.l0 : Nat → List Int → Int → Int → Int → Int → Int → Option (Bool)
 | 0, _, _, _, _, _, _ => none
 | k + 1, x5, x9, x664000, x664001, x664002, x664003 => if x9 < 4 then (clochelaw01_DiscsSix.l1 k x5 x9 false 0 x664000 x664001 x664002 x664003) else ((clochelaw01_alive.f k).bind fun t670 => (some t670))
def clochelaw01_DiscsSix.l1 : Nat → List Int → Int → Bool → Int → Int → Int → Int → Int → Option (Bool)
 | 0, _, _, _, _, _, _, _, _ => none
 | k + 1, x5, x9, x10, x11, x664000, x664001, x664002, x664003 => if x11 < (x5.length : Int) then (if x10 = true then (clochelaw01_DiscsSix.l1 k x5 x9 true (wrap64 (x11 + 1)) x664000 x664001 x664002 x664003) else (if 0 ≤ x11 then (if 0 ≤ x9 then (if x9 < 4 then (clochelaw01_DiscsSix.l1 k x5 x9 ((rd x5 x11) == (Int.tmod (wrap64 ((Int.tmod (at4 x664000 x664001 x664002 x664003 x9) 24) + 24)) 24)) (wrap64 (x11 + 1)) x664000 x664001 x664002 x664003) else (none)) else (none)) else (none))) else (if x10 = true then (clochelaw01_DiscsSix.l0 k x5 (wrap64 (x9 + 1)) x664000 x664001 x664002 x664003) else (none))
end
def clochelaw01_DiscsSix.f (k : Nat) (a0_0 : Int) (a0_1 : Int) (a0_2 : Int) (a0_3 : Int) (l1 : List Int) : Option (Bool) := if (l1.length : Int) > 200 then (clochelaw01_DiscsSix.j0 k l1 true a0_0 a0_1 a0_2 a0_3) else ((clocheref01_IsQuad.f k a0_0 a0_1 a0_2 a0_3).bind fun t649 => (clochelaw01_DiscsSix.j0 k l1 (!t649) a0_0 a0_1 a0_2 a0_3))
theorem clochelaw01_DiscsSix.mono_l : ∀ k, (∀ y0 y1 y2 y3 y4 y5, LeO (clochelaw01_DiscsSix.j0 k y0 y1 y2 y3 y4 y5) (clochelaw01_DiscsSix.j0 (k + 1) y0 y1 y2 y3 y4 y5)) ∧ (∀ y0 y1 y2 y3 y4 y5 y6, LeO (clochelaw01_DiscsSix.j1 k y0 y1 y2 y3 y4 y5 y6) (clochelaw01_DiscsSix.j1 (k + 1) y0 y1 y2 y3 y4 y5 y6)) ∧ (∀ y0 y1 y2 y3 y4 y5, LeO (clochelaw01_DiscsSix.j2 k y0 y1 y2 y3 y4 y5) (clochelaw01_DiscsSix.j2 (k + 1) y0 y1 y2 y3 y4 y5)) ∧ (∀ y0 y1 y2 y3 y4 y5, LeO (clochelaw01_DiscsSix.l0 k y0 y1 y2 y3 y4 y5) (clochelaw01_DiscsSix.l0 (k + 1) y0 y1 y2 y3 y4 y5)) ∧ (∀ y0 y1 y2 y3 y4 y5 y6 y7, LeO (clochelaw01_DiscsSix.l1 k y0 y1 y2 y3 y4 y5 y6 y7) (clochelaw01_DiscsSix.l1 (k + 1) y0 y1 y2 y3 y4 y5 y6 y7))
 | 0 => ⟨fun _ _ _ _ _ _ r h => by simp [clochelaw01_DiscsSix.j0] at h, fun _ _ _ _ _ _ _ r h => by simp [clochelaw01_DiscsSix.j1] at h, fun _ _ _ _ _ _ r h => by simp [clochelaw01_DiscsSix.j2] at h, fun _ _ _ _ _ _ r h => by simp [clochelaw01_DiscsSix.l0] at h, fun _ _ _ _ _ _ _ _ r h => by simp [clochelaw01_DiscsSix.l1] at h⟩
 | k + 1 => by
  obtain ⟨ih0, ih1, ih2, ih3, ih4⟩ := clochelaw01_DiscsSix.mono_l k
  refine ⟨?_, ?_, ?_, ?_, ?_⟩
  ·intro y0 y1 y2 y3 y4 y5
   unfold clochelaw01_DiscsSix.j0
   repeat' first
   | (with_reducible exact ih0 _ _ _ _ _ _)
   | (with_reducible exact ih1 _ _ _ _ _ _ _)
   | (with_reducible exact ih2 _ _ _ _ _ _)
   | (with_reducible exact ih3 _ _ _ _ _ _)
   | (with_reducible exact ih4 _ _ _ _ _ _ _ _)
   | (with_reducible exact clochelaw01_alive.mono _)
   | (with_reducible exact clochelaw01_gcd.mono _ _ _)
   | (with_reducible exact clochelaw01_same.mono _ _ _)
   | (with_reducible exact clocheref01_IsQuad.mono _ _ _ _ _)
   | (with_reducible exact discs_Rests.mono _ _ _ _ _)
   | (with_reducible exact discs_Turns.mono _ _ _ _ _ _)
   | (with_reducible exact LeO.refl _)
   | (with_reducible exact LeO.none _)
   | (with_reducible refine LeO.ite ?_ ?_)
   | (with_reducible refine LeO.bind ?_ (fun _ => ?_))
   | exact ih0 _ _ _ _ _ _
   | exact ih1 _ _ _ _ _ _ _
   | exact ih2 _ _ _ _ _ _
   | exact ih3 _ _ _ _ _ _
   | exact ih4 _ _ _ _ _ _ _ _
   | exact clochelaw01_alive.mono _
   | exact clochelaw01_gcd.mono _ _ _
   | exact clochelaw01_same.mono _ _ _
   | exact clocheref01_IsQuad.mono _ _ _ _ _
   | exact discs_Rests.mono _ _ _ _ _
   | exact discs_Turns.mono _ _ _ _ _ _
   | exact LeO.none _
   | refine LeO.ite ?_ ?_
   | refine LeO.bind ?_ (fun _ => ?_)
  ·intro y0 y1 y2 y3 y4 y5 y6
   unfold clochelaw01_DiscsSix.j1
   repeat' first
   | (with_reducible exact ih0 _ _ _ _ _ _)
   | (with_reducible exact ih1 _ _ _ _ _ _ _)
   | (with_reducible exact ih2 _ _ _ _ _ _)
   | (with_reducible exact ih3 _ _ _ _ _ _)
   | (with_reducible exact ih4 _ _ _ _ _ _ _ _)
   | (with_reducible exact clochelaw01_alive.mono _)
   | (with_reducible exact clochelaw01_gcd.mono _ _ _)
   | (with_reducible exact clochelaw01_same.mono _ _ _)
   | (with_reducible exact clocheref01_IsQuad.mono _ _ _ _ _)
   | (with_reducible exact discs_Rests.mono _ _ _ _ _)
   | (with_reducible exact discs_Turns.mono _ _ _ _ _ _)
   | (with_reducible exact LeO.refl _)
   | (with_reducible exact LeO.none _)
   | (with_reducible refine LeO.ite ?_ ?_)
   | (with_reducible refine LeO.bind ?_ (fun _ => ?_))
   | exact ih0 _ _ _ _ _ _
   | exact ih1 _ _ _ _ _ _ _
   | exact ih2 _ _ _ _ _ _
   | exact ih3 _ _ _ _ _ _
   | exact ih4 _ _ _ _ _ _ _ _
   | exact clochelaw01_alive.mono _
   | exact clochelaw01_gcd.mono _ _ _
   | exact clochelaw01_same.mono _ _ _
   | exact clocheref01_IsQuad.mono _ _ _ _ _
   | exact discs_Rests.mono _ _ _ _ _
   | exact discs_Turns.mono _ _ _ _ _ _
   | exact LeO.none _
   | refine LeO.ite ?_ ?_
   | refine LeO.bind ?_ (fun _ => ?_)
  ·intro y0 y1 y2 y3 y4 y5
   unfold clochelaw01_DiscsSix.j2
   repeat' first
   | (with_reducible exact ih0 _ _ _ _ _ _)
   | (with_reducible exact ih1 _ _ _ _ _ _ _)
   | (with_reducible exact ih2 _ _ _ _ _ _)
   | (with_reducible exact ih3 _ _ _ _ _ _)
   | (with_reducible exact ih4 _ _ _ _ _ _ _ _)
   | (with_reducible exact clochelaw01_alive.mono _)
   | (with_reducible exact clochelaw01_gcd.mono _ _ _)
   | (with_reducible exact clochelaw01_same.mono _ _ _)
   | (with_reducible exact clocheref01_IsQuad.mono _ _ _ _ _)
   | (with_reducible exact discs_Rests.mono _ _ _ _ _)
   | (with_reducible exact discs_Turns.mono _ _ _ _ _ _)
   | (with_reducible exact LeO.refl _)
   | (with_reducible exact LeO.none _)
   | (with_reducible refine LeO.ite ?_ ?_)
   | (with_reducible refine LeO.bind ?_ (fun _ => ?_))
   | exact ih0 _ _ _ _ _ _
   | exact ih1 _ _ _ _ _ _ _
   | exact ih2 _ _ _ _ _ _
   | exact ih3 _ _ _ _ _ _
   | exact ih4 _ _ _ _ _ _ _ _
   | exact clochelaw01_alive.mono _
   | exact clochelaw01_gcd.mono _ _ _
   | exact clochelaw01_same.mono _ _ _
   | exact clocheref01_IsQuad.mono _ _ _ _ _
   | exact discs_Rests.mono _ _ _ _ _
   | exact discs_Turns.mono _ _ _ _ _ _
   | exact LeO.none _
   | refine LeO.ite ?_ ?_
   | refine LeO.bind ?_ (fun _ => ?_)
  ·intro y0 y1 y2 y3 y4 y5
   unfold clochelaw01_DiscsSix.l0
   repeat' first
   | (with_reducible exact ih0 _ _ _ _ _ _)
   | (with_reducible exact ih1 _ _ _ _ _ _ _)
   | (with_reducible exact ih2 _ _ _ _ _ _)
   | (with_reducible exact ih3 _ _ _ _ _ _)
   | (with_reducible exact ih4 _ _ _ _ _ _ _ _)
   | (with_reducible exact clochelaw01_alive.mono _)
   | (with_reducible exact clochelaw01_gcd.mono _ _ _)
   | (with_reducible exact clochelaw01_same.mono _ _ _)
   | (with_reducible exact clocheref01_IsQuad.mono _ _ _ _ _)
   | (with_reducible exact discs_Rests.mono _ _ _ _ _)
   | (with_reducible exact discs_Turns.mono _ _ _ _ _ _)
   | (with_reducible exact LeO.refl _)
   | (with_reducible exact LeO.none _)
   | (with_reducible refine LeO.ite ?_ ?_)
   | (with_reducible refine LeO.bind ?_ (fun _ => ?_))
   | exact ih0 _ _ _ _ _ _
   | exact ih1 _ _ _ _ _ _ _
   | exact ih2 _ _ _ _ _ _
   | exact ih3 _ _ _ _ _ _
   | exact ih4 _ _ _ _ _ _ _ _
   | exact clochelaw01_alive.mono _
   | exact clochelaw01_gcd.mono _ _ _
   | exact clochelaw01_same.mono _ _ _
   | exact clocheref01_IsQuad.mono _ _ _ _ _
   | exact discs_Rests.mono _ _ _ _ _
   | exact discs_Turns.mono _ _ _ _ _ _
   | exact LeO.none _
   | refine LeO.ite ?_ ?_
   | refine LeO.bind ?_ (fun _ => ?_)
  ·intro y0 y1 y2 y3 y4 y5 y6 y7
   unfold clochelaw01_DiscsSix.l1
   repeat' first
   | (with_reducible exact ih0 _ _ _ _ _ _)
   | (with_reducible exact ih1 _ _ _ _ _ _ _)
   | (with_reducible exact ih2 _ _ _ _ _ _)
   | (with_reducible exact ih3 _ _ _ _ _ _)
   | (with_reducible exact ih4 _ _ _ _ _ _ _ _)
   | (with_reducible exact clochelaw01_alive.mono _)
   | (with_reducible exact clochelaw01_gcd.mono _ _ _)
   | (with_reducible exact clochelaw01_same.mono _ _ _)
   | (with_reducible exact clocheref01_IsQuad.mono _ _ _ _ _)
   | (with_reducible exact discs_Rests.mono _ _ _ _ _)
   | (with_reducible exact discs_Turns.mono _ _ _ _ _ _)
   | (with_reducible exact LeO.refl _)
   | (with_reducible exact LeO.none _)
   | (with_reducible refine LeO.ite ?_ ?_)
   | (with_reducible refine LeO.bind ?_ (fun _ => ?_))
   | exact ih0 _ _ _ _ _ _
   | exact ih1 _ _ _ _ _ _ _
   | exact ih2 _ _ _ _ _ _
   | exact ih3 _ _ _ _ _ _
   | exact ih4 _ _ _ _ _ _ _ _
   | exact clochelaw01_alive.mono _
   | exact clochelaw01_gcd.mono _ _ _
   | exact clochelaw01_same.mono _ _ _
   | exact clocheref01_IsQuad.mono _ _ _ _ _
   | exact discs_Rests.mono _ _ _ _ _
   | exact discs_Turns.mono _ _ _ _ _ _
   | exact LeO.none _
   | refine LeO.ite ?_ ?_
   | refine LeO.bind ?_ (fun _ => ?_)
theorem clochelaw01_DiscsSix.mono : ∀ a0 a1 a2 a3 a4 k, LeO (clochelaw01_DiscsSix.f k a0 a1 a2 a3 a4) (clochelaw01_DiscsSix.f (k + 1) a0 a1 a2 a3 a4) := by
 intro a0 a1 a2 a3 a4 k
 obtain ⟨ih0, ih1, ih2, ih3, ih4⟩ := clochelaw01_DiscsSix.mono_l k
 unfold clochelaw01_DiscsSix.f
 repeat' first
   | (with_reducible exact ih0 _ _ _ _ _ _)
   | (with_reducible exact ih1 _ _ _ _ _ _ _)
   | (with_reducible exact ih2 _ _ _ _ _ _)
   | (with_reducible exact ih3 _ _ _ _ _ _)
   | (with_reducible exact ih4 _ _ _ _ _ _ _ _)
   | (with_reducible exact clochelaw01_alive.mono _)
   | (with_reducible exact clochelaw01_gcd.mono _ _ _)
   | (with_reducible exact clochelaw01_same.mono _ _ _)
   | (with_reducible exact clocheref01_IsQuad.mono _ _ _ _ _)
   | (with_reducible exact discs_Rests.mono _ _ _ _ _)
   | (with_reducible exact discs_Turns.mono _ _ _ _ _ _)
   | (with_reducible exact LeO.refl _)
   | (with_reducible exact LeO.none _)
   | (with_reducible refine LeO.ite ?_ ?_)
   | (with_reducible refine LeO.bind ?_ (fun _ => ?_))
   | exact ih0 _ _ _ _ _ _
   | exact ih1 _ _ _ _ _ _ _
   | exact ih2 _ _ _ _ _ _
   | exact ih3 _ _ _ _ _ _
   | exact ih4 _ _ _ _ _ _ _ _
   | exact clochelaw01_alive.mono _
   | exact clochelaw01_gcd.mono _ _ _
   | exact clochelaw01_same.mono _ _ _
   | exact clocheref01_IsQuad.mono _ _ _ _ _
   | exact discs_Rests.mono _ _ _ _ _
   | exact discs_Turns.mono _ _ _ _ _ _
   | exact LeO.none _
   | refine LeO.ite ?_ ?_
   | refine LeO.bind ?_ (fun _ => ?_)
def clochelaw01_DiscsSix.T4 : Bool × List (List Nat × List Nat) := (true, [([], []), ([0], [0]), ([1], [1]), ([2], [2]), ([3, 2], [2, 3]), ([2], [2]), ([5, 2], [2, 5]), ([4, 6, 2, 2], [2, 4, 6]), ([2], [2]), ([8, 2], [2, 8]), ([2], [2]), ([10, 2], [2, 10]), ([9, 11, 7, 2], [2, 9, 11]), ([7, 12, 12, 2], [2, 7, 12]), ([13, 2], [2, 13]), ([14, 13, 2], [2, 14]), ([15], [15]), ([16, 15], [15, 16]), ([17, 15], [15, 17]), ([15, 18, 2], [2, 15, 18]), ([19, 15, 2], [2, 19]), ([20], [20]), ([21, 20], [20, 21]), ([22, 20], [20, 22]), ([20, 23, 2], [2, 20, 23]), ([2, 24], [2, 24])])
def clochelaw01_DiscsSix.B4 : List Nat := [0, 1, 3, 7, 15, 7, 39, 127, 7, 263, 7, 1031, 4095, 8191, 16383, 32767, 65535, 131071, 262143, 524287, 1048575, 2097151, 4194303, 8388607, 16777215, 33554431]
theorem clochelaw01_DiscsSix.tab4 : rtab .any (opsOf Try.f12 4) = clochelaw01_DiscsSix.T4 := by kernel_rfl
theorem clochelaw01_DiscsSix.bits4 : waitsOk clochelaw01_DiscsSix.T4.2 clochelaw01_DiscsSix.B4 = true := by kernel_rfl
def clochelaw01_DiscsSix.T19 : Bool × List (List Nat × List Nat) := (true, [([], []), ([0], [0]), ([1], [1]), ([1], [1]), ([2, 3, 1], [1, 2, 3]), ([4, 1], [1, 4]), ([1], [1]), ([6, 1], [1, 6]), ([7, 1], [1, 7]), ([8, 1], [1, 8]), ([9, 1], [1, 9]), ([10, 1], [1, 10]), ([5, 11, 1], [1, 5, 11]), ([1, 12], [1, 12]), ([13, 1, 0, 1, 2, 3, 4, 5, 6, 7, 8, 9, 10, 11, 12, 13], [0, 13])])
def clochelaw01_DiscsSix.B19 : List Nat := [0, 1, 3, 3, 15, 31, 3, 67, 195, 451, 963, 1987, 4095, 8191, 16383]
theorem clochelaw01_DiscsSix.tab19 : rtab .any (opsOf Try.f12 19) = clochelaw01_DiscsSix.T19 := by kernel_rfl
theorem clochelaw01_DiscsSix.bits19 : waitsOk clochelaw01_DiscsSix.T19.2 clochelaw01_DiscsSix.B19 = true := by kernel_rfl
theorem clochelaw01_DiscsSix.calls (k : Nat) (a0_0 : Int) (a0_1 : Int) (a0_2 : Int) (a0_3 : Int) (A1 : Option Addr) (c1 : Nat) (l1 : List Int) (r : Bool) (w : World) (hr1 : Kd.C (Kd.int .i64) w A1 l1.length l1) (hc1 : l1.length ≤ c1) (h : clochelaw01_DiscsSix.f k a0_0 a0_1 a0_2 a0_3 l1 = some r) :
  Calls Try.prog 12 #[.agg #[.int .i64 a0_0, .int .i64 a0_1, .int .i64 a0_2, .int .i64 a0_3], .slice A1 l1.length c1] w fun e w' => e = .returned (.bool r) ∧ Below w.heap.size w w' := by
 have hu23 := Try.underlying23
 have HR1 := Aside0.mk hr1
 have HC1 := Aside0.mk hc1
 clear hr1 hc1
 have HB := Aside0.mk (Below.refl w.heap.size w)
 have H : (if (l1.length : Int) > 200 then (clochelaw01_DiscsSix.j0 k l1 true a0_0 a0_1 a0_2 a0_3) else ((clocheref01_IsQuad.f k a0_0 a0_1 a0_2 a0_3).bind fun t649 => (clochelaw01_DiscsSix.j0 k l1 (!t649) a0_0 a0_1 a0_2 a0_3))) = some r := h
 clear h
 have HC3 := Aside0.mk H
 clear H
 go_enter Try.func12, Try.ntmps12
 go_upto_region 1 with (first | ((with_reducible refine gate_dst (N := 2) rfl ?_); (try (refine gate_guard (by rfl) ?_; dsimp only)); refine box_event ?hg (N := 2) ?hd (cs := #[.int .i64 a0_0, .int .i64 a0_1, .int .i64 a0_2, .int .i64 a0_3]) (t := 23) ?hr ?_; (case hd => rfl); (case hg => rfl); (case hr => exact gs_); intro gb648 hg w4 hbox hb; have n0_ := Aside0.mk (below_step (lw_ HB.out) hb); have n1_ := Aside0.mk (hbox); have n2_ := Aside0.mk ((by rw [hg]; exact (below_size (lw_ HB.out)) : w.heap.size ≤ gb648)); have n3_ := Aside0.mk ((by rw [hg]; exact (below_size (lw_ HB.out)) : w.heap.size ≤ gb648)); clear HB; have HB := n0_; have BK648 := n1_; have GW648 := n2_; have GE648 := n3_; clear n0_ n1_ n2_ n3_; clear hb hbox hg))
 (try simp only [Act.put, List.setIfInBounds_toArray, List.set_cons_zero, List.set_cons_succ])
 go_cut [19] (fun v19 wc => ∃ (kq : Nat) (x19_2 : Bool), v19 = .bool x19_2 ∧ Aside0 (clochelaw01_DiscsSix.j0 kq l1 x19_2 a0_0 a0_1 a0_2 a0_3 = some r) ∧ Aside0 (kq ≤ k) ∧ Aside0 (wc.heap[gb648]? = some (.cells #[.int .i64 a0_0, .int .i64 a0_1, .int .i64 a0_2, .int .i64 a0_3] 23 (0, 0))) ∧ Aside0 (Below w.heap.size w wc))
 case first =>
  have H := HC3.out
  clear HC3
  by_cases c5 : (l1.length : Int) > 200
  ·rw [if_pos c5] at H
   have c5b0 : decide (200 < (l1.length : Int)) = true := decide_eq_true c5
   have c5b1 : decide (200 < l1.length) = true := decide_eq_true (by omega)
   clear c5
   (first | rw [c5b0] | (simp only [i64_w, i32_w]; rw [c5b0]) | skip)
   have H' := Aside0.mk H
   clear H
   go_wp2
   go_meet
   case rel => exact ⟨_, (true), eq_, H', ⟨by first | omega | exact Nat.le_refl _⟩, ⟨by refine bs_ ?_; exact BK648.out⟩, ⟨by repeat (first | (with_reducible first | exact HB.out | apply below_alloc | apply pw_below_drewN | apply below_drew1 | refine below_set ?_ GE648.out) | exact HB.out)⟩⟩
  ·rw [if_neg c5] at H
   have c5b0 : decide (200 < (l1.length : Int)) = false := decide_eq_false c5
   have c5b1 : decide (200 < l1.length) = false := decide_eq_false (by omega)
   clear c5
   (first | rw [c5b0] | (simp only [i64_w, i32_w]; rw [c5b0]) | skip)
   replace H := Option.bind_eq_some_iff.mp H
   obtain ⟨t649, A60, H⟩ := H
   replace H : (clochelaw01_DiscsSix.j0 k l1 (!t649) a0_0 a0_1 a0_2 a0_3) = some r := H
   have A6 := Aside0.mk A60
   clear A60
   have H' := Aside0.mk H
   clear H
   have hcz7_0 : w4.cell? ⟨gb648, 0, none⟩ = some (.int .i64 a0_0) := (blk_cell BK648.out 0).trans rfl
   have hcz7_1 : w4.cell? ⟨gb648, 1, none⟩ = some (.int .i64 a0_1) := (blk_cell BK648.out 1).trans rfl
   have hcz7_2 : w4.cell? ⟨gb648, 2, none⟩ = some (.int .i64 a0_2) := (blk_cell BK648.out 2).trans rfl
   have hcz7_3 : w4.cell? ⟨gb648, 3, none⟩ = some (.int .i64 a0_3) := (blk_cell BK648.out 3).trans rfl
   have hfz7_0 := blk_frozen BK648.out 0
   have hfz7_1 := blk_frozen BK648.out 1
   have hfz7_2 := blk_frozen BK648.out 2
   have hfz7_3 := blk_frozen BK648.out 3
   go_wp2_with (first | (go_at_call 27; (with_reducible refine (clocheref01_IsQuad.calls k a0_0 a0_1 a0_2 a0_3 t649 _ A6.out).mono ?_); rintro e w8 ⟨rfl, hb⟩; have n0_ := Aside0.mk (blk_below (g := gb648) (o := .cells #[.int .i64 a0_0, .int .i64 a0_1, .int .i64 a0_2, .int .i64 a0_3] 23 (0, 0)) (by refine bs_ ?_; exact BK648.out) hb); have n1_ := Aside0.mk (below_step (by repeat (first | (with_reducible first | exact HB.out | apply below_alloc | apply pw_below_drewN | apply below_drew1 | refine below_set ?_ GE648.out) | exact HB.out)) hb); clear BK648; clear HB; have BK648 := n0_; have HB := n1_; clear n0_ n1_; (try clear hb); (try clear hb2); (try clear hk); (try clear hi)))
   go_meet
   case rel => exact ⟨_, (!t649), eq_, H', ⟨by first | omega | exact Nat.le_refl _⟩, ⟨by refine bs_ ?_; exact BK648.out⟩, ⟨by repeat (first | (with_reducible first | exact HB.out | apply below_alloc | apply pw_below_drewN | apply below_drew1 | refine below_set ?_ GE648.out) | exact HB.out)⟩⟩
 case rest =>
  clear HC3
  try clear c1
  try clear p2
  try clear c5
  try clear c5b0
  try clear c5b1
  try clear hcz7_0
  try clear hcz7_1
  try clear hcz7_2
  try clear hcz7_3
  try clear hfz7_0
  try clear hfz7_1
  try clear hfz7_2
  try clear hfz7_3
  obtain ⟨kq, x19_2, rfl, HA, HJ2, BK648, HB⟩ := hcut
  cases kq with
  | zero => exact absurd HA.out (by simp [clochelaw01_DiscsSix.j0])
  | succ kj2 =>
   have H := HA.out
   clear HA
   simp only [clochelaw01_DiscsSix.j0] at H
   by_cases c9 : x19_2 = true
   ·subst c9
    have H1 : ((clochelaw01_alive.f kj2).bind fun t650 => (some t650)) = some r := by rw [if_pos rfl] at H; exact H
    clear H
    have H := H1
    clear H1
    replace H := Option.bind_eq_some_iff.mp H
    obtain ⟨t650, A100, H⟩ := H
    replace H : (some t650) = some r := H
    have A10 := Aside0.mk A100
    clear A100
    obtain rfl := Option.some.inj H
    go_wp2_with (first | ((with_reducible refine gate_callee (f := 19) rfl ?_); refine goesL_ (some 20) rfl rfl Try.func19 (by kernel_rfl) rfl #[] rfl mp_ ?_; (with_reducible refine (clochelaw01_alive.calls kj2  t650 _ A10.out).mono ?_); rintro e w11 ⟨rfl, hb⟩; refine ⟨_, rfl, ?_⟩; have n0_ := Aside0.mk (blk_below (g := gb648) (o := .cells #[.int .i64 a0_0, .int .i64 a0_1, .int .i64 a0_2, .int .i64 a0_3] 23 (0, 0)) (by refine bs_ ?_; exact BK648.out) hb); have n1_ := Aside0.mk (below_step (by repeat (first | (with_reducible first | exact HB.out | apply below_alloc | apply pw_below_drewN | apply below_drew1 | refine below_set ?_ GE648.out) | exact HB.out)) hb); clear BK648; clear HB; have BK648 := n0_; have HB := n1_; clear n0_ n1_; (try clear hb); (try clear hb2); (try clear hk); (try clear hi)))
    go_ret
    exact ⟨by first | rfl | (simp [errW_none, errW_some] <;> rfl) | (simp [*, errW_none, errW_some] <;> rfl), by repeat (first | (with_reducible first | exact HB.out | apply below_alloc | apply pw_below_drewN | apply below_drew1 | refine below_set ?_ GE648.out) | exact HB.out)⟩
   ·replace c9 := Bool.eq_false_iff.mpr c9
    subst c9
    have H1 : ((discs_Rests.f kj2 a0_0 a0_1 a0_2 a0_3).bind fun bt651 => (if bt651.2 = 0 then ((clochelaw01_gcd.f kj2 a0_0 a0_1).bind fun t655 => ((clochelaw01_gcd.f kj2 a0_2 a0_3).bind fun t656 => ((clochelaw01_gcd.f kj2 t655 t656).bind fun t657 => (if t657 = 1 then (if (bt651.1.length : Int) = 6 then (clochelaw01_DiscsSix.j1 kj2 l1 bt651.1 false a0_0 a0_1 a0_2 a0_3) else (clochelaw01_DiscsSix.j1 kj2 l1 bt651.1 ((bt651.1.length : Int) != 8) a0_0 a0_1 a0_2 a0_3)) else (clochelaw01_DiscsSix.j1 kj2 l1 bt651.1 false a0_0 a0_1 a0_2 a0_3))))) else (none))) = some r := by rw [if_neg (show ¬ (false = true) by decide)] at H; exact H
    clear H
    have H := H1
    clear H1
    replace H := Option.bind_eq_some_iff.mp H
    obtain ⟨⟨t651, t654⟩, A120, H⟩ := H
    replace H : (if t654 = 0 then ((clochelaw01_gcd.f kj2 a0_0 a0_1).bind fun t655 => ((clochelaw01_gcd.f kj2 a0_2 a0_3).bind fun t656 => ((clochelaw01_gcd.f kj2 t655 t656).bind fun t657 => (if t657 = 1 then (if (t651.length : Int) = 6 then (clochelaw01_DiscsSix.j1 kj2 l1 t651 false a0_0 a0_1 a0_2 a0_3) else (clochelaw01_DiscsSix.j1 kj2 l1 t651 ((t651.length : Int) != 8) a0_0 a0_1 a0_2 a0_3)) else (clochelaw01_DiscsSix.j1 kj2 l1 t651 false a0_0 a0_1 a0_2 a0_3))))) else (none)) = some r := H
    have A12 := Aside0.mk A120
    clear A120
    have HC13 := Aside0.mk H
    clear H
    have hcz14_0 : wc.cell? ⟨gb648, 0, none⟩ = some (.int .i64 a0_0) := (blk_cell BK648.out 0).trans rfl
    have hcz14_1 : wc.cell? ⟨gb648, 1, none⟩ = some (.int .i64 a0_1) := (blk_cell BK648.out 1).trans rfl
    have hcz14_2 : wc.cell? ⟨gb648, 2, none⟩ = some (.int .i64 a0_2) := (blk_cell BK648.out 2).trans rfl
    have hcz14_3 : wc.cell? ⟨gb648, 3, none⟩ = some (.int .i64 a0_3) := (blk_cell BK648.out 3).trans rfl
    have hfz14_0 := blk_frozen BK648.out 0
    have hfz14_1 := blk_frozen BK648.out 1
    have hfz14_2 := blk_frozen BK648.out 2
    have hfz14_3 := blk_frozen BK648.out 3
    go_upto_region 4 with (first | ((with_reducible refine gate_callee (f := 25) rfl ?_); refine goesL_ (some 23) rfl rfl Try.func25 (by kernel_rfl) rfl #[.agg #[.int .i64 a0_0, .int .i64 a0_1, .int .i64 a0_2, .int .i64 a0_3]] rfl mp_ ?_; (with_reducible refine (discs_Rests.calls kj2 a0_0 a0_1 a0_2 a0_3 t651 t654 _ A12.out).mono ?_); rintro e w15 ⟨v652, rfl, ho0, hb⟩; refine ⟨_, rfl, ?_⟩; have n0_ := Aside0.mk (Kd.R_lower ho0 (below_size (by repeat (first | (with_reducible first | exact HB.out | apply below_alloc | apply pw_below_drewN | apply below_drew1 | refine below_set ?_ GE648.out) | exact HB.out)))); have n1_ := Aside0.mk (blk_below (g := gb648) (o := .cells #[.int .i64 a0_0, .int .i64 a0_1, .int .i64 a0_2, .int .i64 a0_3] 23 (0, 0)) (by refine bs_ ?_; exact BK648.out) hb); have n2_ := Aside0.mk (below_step (by repeat (first | (with_reducible first | exact HB.out | apply below_alloc | apply pw_below_drewN | apply below_drew1 | refine below_set ?_ GE648.out) | exact HB.out)) hb); clear BK648; clear HB; have HO653 := n0_; have BK648 := n1_; have HB := n2_; clear n0_ n1_ n2_; (try clear hb); (try clear hb2); (try clear hk); (try clear hi); (try clear ho0)))
    (try simp only [Act.put, List.setIfInBounds_toArray, List.set_cons_zero, List.set_cons_succ])
    go_cut [51] (fun v51 wc => ∃ (kq : Nat) (x51_12 : Bool), v51 = .bool x51_12 ∧ Aside0 (clochelaw01_DiscsSix.j1 kq l1 t651 x51_12 a0_0 a0_1 a0_2 a0_3 = some r) ∧ Aside0 (kq ≤ kj2) ∧ Aside0 (Kd.R (Kd.int .i64) 3 wc w.heap.size (fun _ => True) v652 t651) ∧ Aside0 (wc.heap[gb648]? = some (.cells #[.int .i64 a0_0, .int .i64 a0_1, .int .i64 a0_2, .int .i64 a0_3] 23 (0, 0))) ∧ Aside0 (Below w.heap.size w wc))
    case first =>
     have H := HC13.out
     clear HC13
     by_cases c16 : t654 = 0
     ·rw [if_pos c16] at H
      have c16b0 : (t654 == 0) = true := beq_iff_eq.mpr c16
      have c16b1 : (t654 != 0) = false := bne_eq_false_iff_eq.mpr c16
      clear c16
      (first | rw [c16b0] | (simp only [i64_w, i32_w]; rw [c16b0]) | skip)
      replace H := Option.bind_eq_some_iff.mp H
      obtain ⟨t655, A170, H⟩ := H
      replace H : ((clochelaw01_gcd.f kj2 a0_2 a0_3).bind fun t656 => ((clochelaw01_gcd.f kj2 t655 t656).bind fun t657 => (if t657 = 1 then (if (t651.length : Int) = 6 then (clochelaw01_DiscsSix.j1 kj2 l1 t651 false a0_0 a0_1 a0_2 a0_3) else (clochelaw01_DiscsSix.j1 kj2 l1 t651 ((t651.length : Int) != 8) a0_0 a0_1 a0_2 a0_3)) else (clochelaw01_DiscsSix.j1 kj2 l1 t651 false a0_0 a0_1 a0_2 a0_3)))) = some r := H
      have A17 := Aside0.mk A170
      clear A170
      replace H := Option.bind_eq_some_iff.mp H
      obtain ⟨t656, A180, H⟩ := H
      replace H : ((clochelaw01_gcd.f kj2 t655 t656).bind fun t657 => (if t657 = 1 then (if (t651.length : Int) = 6 then (clochelaw01_DiscsSix.j1 kj2 l1 t651 false a0_0 a0_1 a0_2 a0_3) else (clochelaw01_DiscsSix.j1 kj2 l1 t651 ((t651.length : Int) != 8) a0_0 a0_1 a0_2 a0_3)) else (clochelaw01_DiscsSix.j1 kj2 l1 t651 false a0_0 a0_1 a0_2 a0_3))) = some r := H
      have A18 := Aside0.mk A180
      clear A180
      replace H := Option.bind_eq_some_iff.mp H
      obtain ⟨t657, A190, H⟩ := H
      replace H : (if t657 = 1 then (if (t651.length : Int) = 6 then (clochelaw01_DiscsSix.j1 kj2 l1 t651 false a0_0 a0_1 a0_2 a0_3) else (clochelaw01_DiscsSix.j1 kj2 l1 t651 ((t651.length : Int) != 8) a0_0 a0_1 a0_2 a0_3)) else (clochelaw01_DiscsSix.j1 kj2 l1 t651 false a0_0 a0_1 a0_2 a0_3)) = some r := H
      have A19 := Aside0.mk A190
      clear A190
      by_cases c20 : t657 = 1
      ·rw [if_pos c20] at H
       have c20b0 : (t657 == 1) = true := beq_iff_eq.mpr c20
       have c20b1 : (t657 != 1) = false := bne_eq_false_iff_eq.mpr c20
       clear c20
       by_cases c21 : (t651.length : Int) = 6
       ·rw [if_pos c21] at H
        have c21b0 : ((t651.length : Int) == 6) = true := beq_iff_eq.mpr c21
        have c21b1 : ((t651.length : Int) != 6) = false := bne_eq_false_iff_eq.mpr c21
        clear c21
        have H' := Aside0.mk H
        clear H
        try go_wp2
        have n0_ := Aside0.mk (Kd.R_drew HO653.out)
        have n1_ := Aside0.mk (blk_drew BK648.out)
        have n2_ := Aside0.mk (below_drew1 HB.out)
        clear HO653
        clear BK648
        clear HB
        have HO653 := n0_
        have BK648 := n1_
        have HB := n2_
        clear n0_ n1_ n2_
        refine start_ (n := 26) (S := fun w' => w'.cell? ⟨gb648, 0, none⟩ = some (.int .i64 a0_0) ∧ w'.cell? ⟨gb648, 1, none⟩ = some (.int .i64 a0_1) ∧ w'.cell? ⟨gb648, 2, none⟩ = some (.int .i64 a0_2) ∧ w'.cell? ⟨gb648, 3, none⟩ = some (.int .i64 a0_3)) (ds := []) #[false, false, false, false, false, false, false, false, false, false, false, false, false, false, false, false, false, false, false, false, false, false, false, false, false, false] (by kernel_rfl) rfl rfl ⟨(blk_cell BK648.out 0).trans rfl, (blk_cell BK648.out 1).trans rfl, (blk_cell BK648.out 2).trans rfl, (blk_cell BK648.out 3).trans rfl⟩ (fun hHeld => ?_); refine with_tabW clochelaw01_DiscsSix.tab4 clochelaw01_DiscsSix.bits4 (fun HT_ HW_ => ?_)
        generalize w15.drew = w22 at HO653 BK648 HB hHeld ⊢
        refine pure_ (i := 0) (N := some 26) (v := ?_) (a' := ?_) #[true, false, false, false, false, false, false, false, false, false, false, false, false, false, false, false, false, false, false, false, false, false, false, false, false, false] rfl rfl (any_of HT_.out (by kernel_rfl)) (fun _ _ _ h => h) (Or.inl ⟨by rfl, ?_⟩) ?_ ?_
        rotate_left
        ·intro w'
         go_simp
         with_reducible rfl
        rotate_left
        ·exact pt_
        refine pure_ (i := 1) (N := some 27) (v := ?_) (a' := ?_) #[true, true, false, false, false, false, false, false, false, false, false, false, false, false, false, false, false, false, false, false, false, false, false, false, false, false] rfl rfl (any_of HT_.out (by kernel_rfl)) (fun _ _ _ h => h) (Or.inl ⟨by rfl, ?_⟩) ?_ ?_
        rotate_left
        ·intro w'
         go_simp
         with_reducible rfl
        rotate_left
        ·exact pt_
        refine pure_ (i := 2) (N := some 28) (v := ?_) (a' := ?_) #[true, true, true, false, false, false, false, false, false, false, false, false, false, false, false, false, false, false, false, false, false, false, false, false, false, false] rfl rfl (any_of HT_.out (by kernel_rfl)) (fun _ _ _ h => h) (Or.inl ⟨by rfl, ?_⟩) ?_ ?_
        rotate_left
        ·intro w'
         go_simp
         with_reducible rfl
        rotate_left
        ·exact pt_
        refine pure_ (i := 3) (N := some 29) (v := ?_) (a' := ?_) #[true, true, true, true, false, false, false, false, false, false, false, false, false, false, false, false, false, false, false, false, false, false, false, false, false, false] rfl rfl (any_of HT_.out (by kernel_rfl)) (fun _ _ _ h => h) (Or.inl ⟨by rfl, ?_⟩) ?_ ?_
        rotate_left
        ·intro w'
         go_simp
         with_reducible rfl
        rotate_left
        ·exact pt_
        refine pure_ (i := 5) (N := some 31) (v := ?_) (a' := ?_) #[true, true, true, true, false, true, false, false, false, false, false, false, false, false, false, false, false, false, false, false, false, false, false, false, false, false] rfl rfl (any_of HT_.out (by kernel_rfl)) (fun _ _ _ h => h) (Or.inl ⟨by rfl, ?_⟩) ?_ ?_
        rotate_left
        ·intro w'
         go_simp
         with_reducible rfl
        rotate_left
        ·exact pt_
        refine pure_ (i := 8) (N := some 34) (v := ?_) (a' := ?_) #[true, true, true, true, false, true, false, false, true, false, false, false, false, false, false, false, false, false, false, false, false, false, false, false, false, false] rfl rfl (any_of HT_.out (by kernel_rfl)) (fun _ _ _ h => h) (Or.inl ⟨by rfl, ?_⟩) ?_ ?_
        rotate_left
        ·intro w'
         go_simp
         with_reducible rfl
        rotate_left
        ·exact pt_
        refine pure_ (i := 10) (N := some 36) (v := ?_) (a' := ?_) #[true, true, true, true, false, true, false, false, true, false, true, false, false, false, false, false, false, false, false, false, false, false, false, false, false, false] rfl rfl (any_of HT_.out (by kernel_rfl)) (fun _ _ _ h => h) (Or.inl ⟨by rfl, ?_⟩) ?_ ?_
        rotate_left
        ·intro w'
         go_simp
         with_reducible rfl
        rotate_left
        ·exact pt_
        refine take_ (i := 4) (N := some 30) (v := ?_) (a' := ?_) #[true, true, true, true, true, true, false, false, true, false, true, false, false, false, false, false, false, false, false, false, false, false, false, false, false, false] rfl rfl (take_ofW HT_.out HW_.out (by kernel_rfl)) (fun _ _ _ h => h) (Or.inl ⟨by rfl, ?_⟩) hHeld ?_ ?_
        rotate_left
        ·rintro w' ⟨s0, s1, s2, s3⟩
         go_simp
         with_reducible rfl
        rotate_left
        ·exact pt_
        refine take_ (i := 6) (N := some 32) (v := ?_) (a' := ?_) #[true, true, true, true, true, true, true, false, true, false, true, false, false, false, false, false, false, false, false, false, false, false, false, false, false, false] rfl rfl (take_ofW HT_.out HW_.out (by kernel_rfl)) (fun _ _ _ h => h) (Or.inl ⟨by rfl, ?_⟩) hHeld ?_ ?_
        rotate_left
        ·rintro w' ⟨s0, s1, s2, s3⟩
         go_simp
         with_reducible rfl
        rotate_left
        ·exact pt_
        refine take_ (i := 9) (N := some 35) (v := ?_) (a' := ?_) #[true, true, true, true, true, true, true, false, true, true, true, false, false, false, false, false, false, false, false, false, false, false, false, false, false, false] rfl rfl (take_ofW HT_.out HW_.out (by kernel_rfl)) (fun _ _ _ h => h) (Or.inl ⟨by rfl, ?_⟩) hHeld ?_ ?_
        rotate_left
        ·rintro w' ⟨s0, s1, s2, s3⟩
         go_simp
         with_reducible rfl
        rotate_left
        ·exact pt_
        refine take_ (i := 11) (N := some 37) (v := ?_) (a' := ?_) #[true, true, true, true, true, true, true, false, true, true, true, true, false, false, false, false, false, false, false, false, false, false, false, false, false, false] rfl rfl (take_ofW HT_.out HW_.out (by kernel_rfl)) (fun _ _ _ h => h) (Or.inl ⟨by rfl, ?_⟩) hHeld ?_ ?_
        rotate_left
        ·rintro w' ⟨s0, s1, s2, s3⟩
         go_simp
         with_reducible rfl
        rotate_left
        ·exact pt_
        refine one_ (i := 7) (N := some 33) #[true, true, true, true, true, true, true, true, true, true, true, true, false, false, false, false, false, false, false, false, false, false, false, false, false, false] rfl rfl (one_of HT_.out (by kernel_rfl)) (by decide) (fun K hK => ?_)
        refine goes_ Try.func38 (by kernel_rfl) rfl #[.int .i64 a0_0, .int .i64 a0_1] (by rfl) rfl rfl mp_ ?_
        with_reducible refine (clochelaw01_gcd.calls kj2 a0_0 a0_1 t655 _ A17.out).mono ?_
        rintro e w23 ⟨rfl, hb⟩
        refine ⟨_, rfl, ?_⟩
        have n0_ := Aside0.mk (Kd.R_below (by refine kr_ ?_; exact HO653.out) hb)
        have n1_ := Aside0.mk (blk_below (g := gb648) (o := .cells #[.int .i64 a0_0, .int .i64 a0_1, .int .i64 a0_2, .int .i64 a0_3] 23 (0, 0)) (by refine bs_ ?_; exact BK648.out) hb)
        have n2_ := Aside0.mk (below_step (by repeat (first | (with_reducible first | exact HB.out | apply below_alloc | apply pw_below_drewN | apply below_drew1 | refine below_set ?_ GE648.out) | exact HB.out)) hb)
        clear HO653
        clear BK648
        clear HB
        have HO653 := n0_
        have BK648 := n1_
        have HB := n2_
        clear n0_ n1_ n2_
        (try clear hb)
        (try clear hb2)
        (try clear hk)
        (try clear hi)
        refine hK.out _ _ ⟨(blk_cell BK648.out 0).trans rfl, (blk_cell BK648.out 1).trans rfl, (blk_cell BK648.out 2).trans rfl, (blk_cell BK648.out 3).trans rfl⟩ (fun hHeld => ?_)
        clear hK K
        refine norm_ (a' := ?_) ?_ ?_
        rotate_left
        ·show Act.put _ (some 33) _ = _
         exact pt_
        refine one_ (i := 12) (N := some 38) #[true, true, true, true, true, true, true, true, true, true, true, true, true, false, false, false, false, false, false, false, false, false, false, false, false, false] rfl rfl (one_of HT_.out (by kernel_rfl)) (by decide) (fun K hK => ?_)
        refine goes_ Try.func38 (by kernel_rfl) rfl #[.int .i64 a0_2, .int .i64 a0_3] (by rfl) rfl rfl mp_ ?_
        with_reducible refine (clochelaw01_gcd.calls kj2 a0_2 a0_3 t656 _ A18.out).mono ?_
        rintro e w24 ⟨rfl, hb⟩
        refine ⟨_, rfl, ?_⟩
        have n0_ := Aside0.mk (Kd.R_below (by refine kr_ ?_; exact HO653.out) hb)
        have n1_ := Aside0.mk (blk_below (g := gb648) (o := .cells #[.int .i64 a0_0, .int .i64 a0_1, .int .i64 a0_2, .int .i64 a0_3] 23 (0, 0)) (by refine bs_ ?_; exact BK648.out) hb)
        have n2_ := Aside0.mk (below_step (by repeat (first | (with_reducible first | exact HB.out | apply below_alloc | apply pw_below_drewN | apply below_drew1 | refine below_set ?_ GE648.out) | exact HB.out)) hb)
        clear HO653
        clear BK648
        clear HB
        have HO653 := n0_
        have BK648 := n1_
        have HB := n2_
        clear n0_ n1_ n2_
        (try clear hb)
        (try clear hb2)
        (try clear hk)
        (try clear hi)
        refine hK.out _ _ ⟨(blk_cell BK648.out 0).trans rfl, (blk_cell BK648.out 1).trans rfl, (blk_cell BK648.out 2).trans rfl, (blk_cell BK648.out 3).trans rfl⟩ (fun hHeld => ?_)
        clear hK K
        refine norm_ (a' := ?_) ?_ ?_
        rotate_left
        ·show Act.put _ (some 38) _ = _
         exact pt_
        refine one_ (i := 13) (N := some 39) #[true, true, true, true, true, true, true, true, true, true, true, true, true, true, false, false, false, false, false, false, false, false, false, false, false, false] rfl rfl (one_of HT_.out (by kernel_rfl)) (by decide) (fun K hK => ?_)
        refine goes_ Try.func38 (by kernel_rfl) rfl #[.int .i64 t655, .int .i64 t656] (by rfl) rfl rfl mp_ ?_
        with_reducible refine (clochelaw01_gcd.calls kj2 t655 t656 t657 _ A19.out).mono ?_
        rintro e w25 ⟨rfl, hb⟩
        refine ⟨_, rfl, ?_⟩
        have n0_ := Aside0.mk (Kd.R_below (by refine kr_ ?_; exact HO653.out) hb)
        have n1_ := Aside0.mk (blk_below (g := gb648) (o := .cells #[.int .i64 a0_0, .int .i64 a0_1, .int .i64 a0_2, .int .i64 a0_3] 23 (0, 0)) (by refine bs_ ?_; exact BK648.out) hb)
        have n2_ := Aside0.mk (below_step (by repeat (first | (with_reducible first | exact HB.out | apply below_alloc | apply pw_below_drewN | apply below_drew1 | refine below_set ?_ GE648.out) | exact HB.out)) hb)
        clear HO653
        clear BK648
        clear HB
        have HO653 := n0_
        have BK648 := n1_
        have HB := n2_
        clear n0_ n1_ n2_
        (try clear hb)
        (try clear hb2)
        (try clear hk)
        (try clear hi)
        obtain ⟨Ao26, co26, eo26⟩ := Kd.R_slice HO653.out
        (first | subst eo26 | (injection eo26 with f1_ f2_ f3_; have f4_ := f1_.symm; have f5_ := f3_.symm; clear f1_ f2_ f3_; subst f4_; subst f5_))
        refine hK.out _ _ ⟨(blk_cell BK648.out 0).trans rfl, (blk_cell BK648.out 1).trans rfl, (blk_cell BK648.out 2).trans rfl, (blk_cell BK648.out 3).trans rfl⟩ (fun hHeld => ?_)
        clear hK K
        refine norm_ (a' := ?_) ?_ ?_
        rotate_left
        ·show Act.put _ (some 39) _ = _
         exact pt_
        refine pure_ (i := 14) (N := some 40) (v := ?_) (a' := ?_) #[true, true, true, true, true, true, true, true, true, true, true, true, true, true, true, false, false, false, false, false, false, false, false, false, false, false] rfl rfl (any_of HT_.out (by kernel_rfl)) (fun _ _ _ h => h) (Or.inl ⟨by rfl, ?_⟩) ?_ ?_
        rotate_left
        ·intro w'
         go_simp
         with_reducible rfl
        rotate_left
        ·exact pt_
        refine pure_ (i := 15) (N := some 41) (v := ?_) (a' := ?_) #[true, true, true, true, true, true, true, true, true, true, true, true, true, true, true, true, false, false, false, false, false, false, false, false, false, false] rfl rfl (any_of HT_.out (by kernel_rfl)) (fun _ _ _ h => h) (Or.inl ⟨by rfl, ?_⟩) ?_ ?_
        rotate_left
        ·intro w'
         go_simp
         with_reducible rfl
        rotate_left
        ·exact pt_
        refine pure_ (i := 16) (N := some 42) (v := ?_) (a' := ?_) #[true, true, true, true, true, true, true, true, true, true, true, true, true, true, true, true, true, false, false, false, false, false, false, false, false, false] rfl rfl (any_of HT_.out (by kernel_rfl)) (fun _ _ _ h => h) (Or.inl ⟨by rfl, ?_⟩) ?_ ?_
        rotate_left
        ·intro w'
         go_simp
         with_reducible rfl
        rotate_left
        ·exact pt_
        refine pure_ (i := 17) (N := some 43) (v := ?_) (a' := ?_) #[true, true, true, true, true, true, true, true, true, true, true, true, true, true, true, true, true, true, false, false, false, false, false, false, false, false] rfl rfl (any_of HT_.out (by kernel_rfl)) (fun _ _ _ h => h) (Or.inl ⟨by rfl, ?_⟩) ?_ ?_
        rotate_left
        ·intro w'
         go_simp
         with_reducible rfl
        rotate_left
        ·exact pt_
        refine pure_ (i := 18) (N := some 44) (v := ?_) (a' := ?_) #[true, true, true, true, true, true, true, true, true, true, true, true, true, true, true, true, true, true, true, false, false, false, false, false, false, false] rfl rfl (any_of HT_.out (by kernel_rfl)) (fun _ _ _ h => h) (Or.inl ⟨by rfl, ?_⟩) ?_ ?_
        rotate_left
        ·intro w'
         go_simp
         with_reducible rfl
        rotate_left
        ·exact pt_
        refine pure_ (i := 19) (N := some 45) (v := ?_) (a' := ?_) #[true, true, true, true, true, true, true, true, true, true, true, true, true, true, true, true, true, true, true, true, false, false, false, false, false, false] rfl rfl (any_of HT_.out (by kernel_rfl)) (fun _ _ _ h => h) (Or.inl ⟨by rfl, ?_⟩) ?_ ?_
        rotate_left
        ·intro w'
         go_simp
         with_reducible rfl
        rotate_left
        ·exact pt_
        refine pure_ (i := 20) (N := some 46) (v := ?_) (a' := ?_) #[true, true, true, true, true, true, true, true, true, true, true, true, true, true, true, true, true, true, true, true, true, false, false, false, false, false] rfl rfl (any_of HT_.out (by kernel_rfl)) (fun _ _ _ h => h) (Or.inl ⟨by rfl, ?_⟩) ?_ ?_
        rotate_left
        ·intro w'
         go_simp
         with_reducible rfl
        rotate_left
        ·exact pt_
        refine pure_ (i := 21) (N := some 47) (v := undef) (a' := ?_) #[true, true, true, true, true, true, true, true, true, true, true, true, true, true, true, true, true, true, true, true, true, true, false, false, false, false] rfl rfl (any_of HT_.out (by kernel_rfl)) (fun _ _ _ h => h) (Or.inr ⟨by rfl, rfl⟩) ?_ ?_
        rotate_left
        ·exact pt_
        refine pure_ (i := 22) (N := some 48) (v := undef) (a' := ?_) #[true, true, true, true, true, true, true, true, true, true, true, true, true, true, true, true, true, true, true, true, true, true, true, false, false, false] rfl rfl (any_of HT_.out (by kernel_rfl)) (fun _ _ _ h => h) (Or.inr ⟨by rfl, rfl⟩) ?_ ?_
        rotate_left
        ·exact pt_
        refine pure_ (i := 23) (N := some 49) (v := undef) (a' := ?_) #[true, true, true, true, true, true, true, true, true, true, true, true, true, true, true, true, true, true, true, true, true, true, true, true, false, false] rfl rfl (any_of HT_.out (by kernel_rfl)) (fun _ _ _ h => h) (Or.inr ⟨by rfl, rfl⟩) ?_ ?_
        rotate_left
        ·exact pt_
        refine pure_ (i := 24) (N := some 50) (v := ?_) (a' := ?_) #[true, true, true, true, true, true, true, true, true, true, true, true, true, true, true, true, true, true, true, true, true, true, true, true, true, false] rfl rfl (any_of HT_.out (by kernel_rfl)) (fun _ _ _ h => h) (Or.inl ⟨by rfl, ?_⟩) ?_ ?_
        rotate_left
        ·intro w'
         go_simp
         with_reducible rfl
        rotate_left
        ·exact pt_
        refine pure_ (i := 25) (N := some 51) (v := ?_) (a' := ?_) #[true, true, true, true, true, true, true, true, true, true, true, true, true, true, true, true, true, true, true, true, true, true, true, true, true, true] rfl rfl (any_of HT_.out (by kernel_rfl)) (fun _ _ _ h => h) (Or.inl ⟨by rfl, ?_⟩) ?_ ?_
        rotate_left
        ·intro w'
         go_simp
         with_reducible rfl
        rotate_left
        ·exact pt_
        refine done_ (done_of HT_.out (by kernel_rfl)) ?_
        try go_wp2
        go_meet
        case rel => exact ⟨_, (false), eq_, H', ⟨by have := HJ2.out; first | omega | exact Nat.le_refl _⟩, ⟨by refine kr_ ?_; exact HO653.out⟩, ⟨by refine bs_ ?_; exact BK648.out⟩, ⟨by repeat (first | (with_reducible first | exact HB.out | apply below_alloc | apply pw_below_drewN | apply below_drew1 | refine below_set ?_ GE648.out) | exact HB.out)⟩⟩
       ·rw [if_neg c21] at H
        have c21b0 : ((t651.length : Int) == 6) = false := beq_eq_false_iff_ne.mpr c21
        have c21b1 : ((t651.length : Int) != 6) = true := bne_iff_ne.mpr c21
        have H' := Aside0.mk H
        clear H
        try go_wp2
        have n0_ := Aside0.mk (Kd.R_drew HO653.out)
        have n1_ := Aside0.mk (blk_drew BK648.out)
        have n2_ := Aside0.mk (below_drew1 HB.out)
        clear HO653
        clear BK648
        clear HB
        have HO653 := n0_
        have BK648 := n1_
        have HB := n2_
        clear n0_ n1_ n2_
        refine start_ (n := 26) (S := fun w' => w'.cell? ⟨gb648, 0, none⟩ = some (.int .i64 a0_0) ∧ w'.cell? ⟨gb648, 1, none⟩ = some (.int .i64 a0_1) ∧ w'.cell? ⟨gb648, 2, none⟩ = some (.int .i64 a0_2) ∧ w'.cell? ⟨gb648, 3, none⟩ = some (.int .i64 a0_3)) (ds := []) #[false, false, false, false, false, false, false, false, false, false, false, false, false, false, false, false, false, false, false, false, false, false, false, false, false, false] (by kernel_rfl) rfl rfl ⟨(blk_cell BK648.out 0).trans rfl, (blk_cell BK648.out 1).trans rfl, (blk_cell BK648.out 2).trans rfl, (blk_cell BK648.out 3).trans rfl⟩ (fun hHeld => ?_); refine with_tabW clochelaw01_DiscsSix.tab4 clochelaw01_DiscsSix.bits4 (fun HT_ HW_ => ?_)
        generalize w15.drew = w27 at HO653 BK648 HB hHeld ⊢
        refine pure_ (i := 0) (N := some 26) (v := ?_) (a' := ?_) #[true, false, false, false, false, false, false, false, false, false, false, false, false, false, false, false, false, false, false, false, false, false, false, false, false, false] rfl rfl (any_of HT_.out (by kernel_rfl)) (fun _ _ _ h => h) (Or.inl ⟨by rfl, ?_⟩) ?_ ?_
        rotate_left
        ·intro w'
         go_simp
         with_reducible rfl
        rotate_left
        ·exact pt_
        refine pure_ (i := 1) (N := some 27) (v := ?_) (a' := ?_) #[true, true, false, false, false, false, false, false, false, false, false, false, false, false, false, false, false, false, false, false, false, false, false, false, false, false] rfl rfl (any_of HT_.out (by kernel_rfl)) (fun _ _ _ h => h) (Or.inl ⟨by rfl, ?_⟩) ?_ ?_
        rotate_left
        ·intro w'
         go_simp
         with_reducible rfl
        rotate_left
        ·exact pt_
        refine pure_ (i := 2) (N := some 28) (v := ?_) (a' := ?_) #[true, true, true, false, false, false, false, false, false, false, false, false, false, false, false, false, false, false, false, false, false, false, false, false, false, false] rfl rfl (any_of HT_.out (by kernel_rfl)) (fun _ _ _ h => h) (Or.inl ⟨by rfl, ?_⟩) ?_ ?_
        rotate_left
        ·intro w'
         go_simp
         with_reducible rfl
        rotate_left
        ·exact pt_
        refine pure_ (i := 3) (N := some 29) (v := ?_) (a' := ?_) #[true, true, true, true, false, false, false, false, false, false, false, false, false, false, false, false, false, false, false, false, false, false, false, false, false, false] rfl rfl (any_of HT_.out (by kernel_rfl)) (fun _ _ _ h => h) (Or.inl ⟨by rfl, ?_⟩) ?_ ?_
        rotate_left
        ·intro w'
         go_simp
         with_reducible rfl
        rotate_left
        ·exact pt_
        refine pure_ (i := 5) (N := some 31) (v := ?_) (a' := ?_) #[true, true, true, true, false, true, false, false, false, false, false, false, false, false, false, false, false, false, false, false, false, false, false, false, false, false] rfl rfl (any_of HT_.out (by kernel_rfl)) (fun _ _ _ h => h) (Or.inl ⟨by rfl, ?_⟩) ?_ ?_
        rotate_left
        ·intro w'
         go_simp
         with_reducible rfl
        rotate_left
        ·exact pt_
        refine pure_ (i := 8) (N := some 34) (v := ?_) (a' := ?_) #[true, true, true, true, false, true, false, false, true, false, false, false, false, false, false, false, false, false, false, false, false, false, false, false, false, false] rfl rfl (any_of HT_.out (by kernel_rfl)) (fun _ _ _ h => h) (Or.inl ⟨by rfl, ?_⟩) ?_ ?_
        rotate_left
        ·intro w'
         go_simp
         with_reducible rfl
        rotate_left
        ·exact pt_
        refine pure_ (i := 10) (N := some 36) (v := ?_) (a' := ?_) #[true, true, true, true, false, true, false, false, true, false, true, false, false, false, false, false, false, false, false, false, false, false, false, false, false, false] rfl rfl (any_of HT_.out (by kernel_rfl)) (fun _ _ _ h => h) (Or.inl ⟨by rfl, ?_⟩) ?_ ?_
        rotate_left
        ·intro w'
         go_simp
         with_reducible rfl
        rotate_left
        ·exact pt_
        refine take_ (i := 4) (N := some 30) (v := ?_) (a' := ?_) #[true, true, true, true, true, true, false, false, true, false, true, false, false, false, false, false, false, false, false, false, false, false, false, false, false, false] rfl rfl (take_ofW HT_.out HW_.out (by kernel_rfl)) (fun _ _ _ h => h) (Or.inl ⟨by rfl, ?_⟩) hHeld ?_ ?_
        rotate_left
        ·rintro w' ⟨s0, s1, s2, s3⟩
         go_simp
         with_reducible rfl
        rotate_left
        ·exact pt_
        refine take_ (i := 6) (N := some 32) (v := ?_) (a' := ?_) #[true, true, true, true, true, true, true, false, true, false, true, false, false, false, false, false, false, false, false, false, false, false, false, false, false, false] rfl rfl (take_ofW HT_.out HW_.out (by kernel_rfl)) (fun _ _ _ h => h) (Or.inl ⟨by rfl, ?_⟩) hHeld ?_ ?_
        rotate_left
        ·rintro w' ⟨s0, s1, s2, s3⟩
         go_simp
         with_reducible rfl
        rotate_left
        ·exact pt_
        refine take_ (i := 9) (N := some 35) (v := ?_) (a' := ?_) #[true, true, true, true, true, true, true, false, true, true, true, false, false, false, false, false, false, false, false, false, false, false, false, false, false, false] rfl rfl (take_ofW HT_.out HW_.out (by kernel_rfl)) (fun _ _ _ h => h) (Or.inl ⟨by rfl, ?_⟩) hHeld ?_ ?_
        rotate_left
        ·rintro w' ⟨s0, s1, s2, s3⟩
         go_simp
         with_reducible rfl
        rotate_left
        ·exact pt_
        refine take_ (i := 11) (N := some 37) (v := ?_) (a' := ?_) #[true, true, true, true, true, true, true, false, true, true, true, true, false, false, false, false, false, false, false, false, false, false, false, false, false, false] rfl rfl (take_ofW HT_.out HW_.out (by kernel_rfl)) (fun _ _ _ h => h) (Or.inl ⟨by rfl, ?_⟩) hHeld ?_ ?_
        rotate_left
        ·rintro w' ⟨s0, s1, s2, s3⟩
         go_simp
         with_reducible rfl
        rotate_left
        ·exact pt_
        refine one_ (i := 7) (N := some 33) #[true, true, true, true, true, true, true, true, true, true, true, true, false, false, false, false, false, false, false, false, false, false, false, false, false, false] rfl rfl (one_of HT_.out (by kernel_rfl)) (by decide) (fun K hK => ?_)
        refine goes_ Try.func38 (by kernel_rfl) rfl #[.int .i64 a0_0, .int .i64 a0_1] (by rfl) rfl rfl mp_ ?_
        with_reducible refine (clochelaw01_gcd.calls kj2 a0_0 a0_1 t655 _ A17.out).mono ?_
        rintro e w28 ⟨rfl, hb⟩
        refine ⟨_, rfl, ?_⟩
        have n0_ := Aside0.mk (Kd.R_below (by refine kr_ ?_; exact HO653.out) hb)
        have n1_ := Aside0.mk (blk_below (g := gb648) (o := .cells #[.int .i64 a0_0, .int .i64 a0_1, .int .i64 a0_2, .int .i64 a0_3] 23 (0, 0)) (by refine bs_ ?_; exact BK648.out) hb)
        have n2_ := Aside0.mk (below_step (by repeat (first | (with_reducible first | exact HB.out | apply below_alloc | apply pw_below_drewN | apply below_drew1 | refine below_set ?_ GE648.out) | exact HB.out)) hb)
        clear HO653
        clear BK648
        clear HB
        have HO653 := n0_
        have BK648 := n1_
        have HB := n2_
        clear n0_ n1_ n2_
        (try clear hb)
        (try clear hb2)
        (try clear hk)
        (try clear hi)
        refine hK.out _ _ ⟨(blk_cell BK648.out 0).trans rfl, (blk_cell BK648.out 1).trans rfl, (blk_cell BK648.out 2).trans rfl, (blk_cell BK648.out 3).trans rfl⟩ (fun hHeld => ?_)
        clear hK K
        refine norm_ (a' := ?_) ?_ ?_
        rotate_left
        ·show Act.put _ (some 33) _ = _
         exact pt_
        refine one_ (i := 12) (N := some 38) #[true, true, true, true, true, true, true, true, true, true, true, true, true, false, false, false, false, false, false, false, false, false, false, false, false, false] rfl rfl (one_of HT_.out (by kernel_rfl)) (by decide) (fun K hK => ?_)
        refine goes_ Try.func38 (by kernel_rfl) rfl #[.int .i64 a0_2, .int .i64 a0_3] (by rfl) rfl rfl mp_ ?_
        with_reducible refine (clochelaw01_gcd.calls kj2 a0_2 a0_3 t656 _ A18.out).mono ?_
        rintro e w29 ⟨rfl, hb⟩
        refine ⟨_, rfl, ?_⟩
        have n0_ := Aside0.mk (Kd.R_below (by refine kr_ ?_; exact HO653.out) hb)
        have n1_ := Aside0.mk (blk_below (g := gb648) (o := .cells #[.int .i64 a0_0, .int .i64 a0_1, .int .i64 a0_2, .int .i64 a0_3] 23 (0, 0)) (by refine bs_ ?_; exact BK648.out) hb)
        have n2_ := Aside0.mk (below_step (by repeat (first | (with_reducible first | exact HB.out | apply below_alloc | apply pw_below_drewN | apply below_drew1 | refine below_set ?_ GE648.out) | exact HB.out)) hb)
        clear HO653
        clear BK648
        clear HB
        have HO653 := n0_
        have BK648 := n1_
        have HB := n2_
        clear n0_ n1_ n2_
        (try clear hb)
        (try clear hb2)
        (try clear hk)
        (try clear hi)
        refine hK.out _ _ ⟨(blk_cell BK648.out 0).trans rfl, (blk_cell BK648.out 1).trans rfl, (blk_cell BK648.out 2).trans rfl, (blk_cell BK648.out 3).trans rfl⟩ (fun hHeld => ?_)
        clear hK K
        refine norm_ (a' := ?_) ?_ ?_
        rotate_left
        ·show Act.put _ (some 38) _ = _
         exact pt_
        refine one_ (i := 13) (N := some 39) #[true, true, true, true, true, true, true, true, true, true, true, true, true, true, false, false, false, false, false, false, false, false, false, false, false, false] rfl rfl (one_of HT_.out (by kernel_rfl)) (by decide) (fun K hK => ?_)
        refine goes_ Try.func38 (by kernel_rfl) rfl #[.int .i64 t655, .int .i64 t656] (by rfl) rfl rfl mp_ ?_
        with_reducible refine (clochelaw01_gcd.calls kj2 t655 t656 t657 _ A19.out).mono ?_
        rintro e w30 ⟨rfl, hb⟩
        refine ⟨_, rfl, ?_⟩
        have n0_ := Aside0.mk (Kd.R_below (by refine kr_ ?_; exact HO653.out) hb)
        have n1_ := Aside0.mk (blk_below (g := gb648) (o := .cells #[.int .i64 a0_0, .int .i64 a0_1, .int .i64 a0_2, .int .i64 a0_3] 23 (0, 0)) (by refine bs_ ?_; exact BK648.out) hb)
        have n2_ := Aside0.mk (below_step (by repeat (first | (with_reducible first | exact HB.out | apply below_alloc | apply pw_below_drewN | apply below_drew1 | refine below_set ?_ GE648.out) | exact HB.out)) hb)
        clear HO653
        clear BK648
        clear HB
        have HO653 := n0_
        have BK648 := n1_
        have HB := n2_
        clear n0_ n1_ n2_
        (try clear hb)
        (try clear hb2)
        (try clear hk)
        (try clear hi)
        obtain ⟨Ao31, co31, eo31⟩ := Kd.R_slice HO653.out
        (first | subst eo31 | (injection eo31 with f1_ f2_ f3_; have f4_ := f1_.symm; have f5_ := f3_.symm; clear f1_ f2_ f3_; subst f4_; subst f5_))
        refine hK.out _ _ ⟨(blk_cell BK648.out 0).trans rfl, (blk_cell BK648.out 1).trans rfl, (blk_cell BK648.out 2).trans rfl, (blk_cell BK648.out 3).trans rfl⟩ (fun hHeld => ?_)
        clear hK K
        refine norm_ (a' := ?_) ?_ ?_
        rotate_left
        ·show Act.put _ (some 39) _ = _
         exact pt_
        refine pure_ (i := 14) (N := some 40) (v := ?_) (a' := ?_) #[true, true, true, true, true, true, true, true, true, true, true, true, true, true, true, false, false, false, false, false, false, false, false, false, false, false] rfl rfl (any_of HT_.out (by kernel_rfl)) (fun _ _ _ h => h) (Or.inl ⟨by rfl, ?_⟩) ?_ ?_
        rotate_left
        ·intro w'
         go_simp
         with_reducible rfl
        rotate_left
        ·exact pt_
        refine pure_ (i := 15) (N := some 41) (v := ?_) (a' := ?_) #[true, true, true, true, true, true, true, true, true, true, true, true, true, true, true, true, false, false, false, false, false, false, false, false, false, false] rfl rfl (any_of HT_.out (by kernel_rfl)) (fun _ _ _ h => h) (Or.inl ⟨by rfl, ?_⟩) ?_ ?_
        rotate_left
        ·intro w'
         go_simp
         with_reducible rfl
        rotate_left
        ·exact pt_
        refine pure_ (i := 16) (N := some 42) (v := ?_) (a' := ?_) #[true, true, true, true, true, true, true, true, true, true, true, true, true, true, true, true, true, false, false, false, false, false, false, false, false, false] rfl rfl (any_of HT_.out (by kernel_rfl)) (fun _ _ _ h => h) (Or.inl ⟨by rfl, ?_⟩) ?_ ?_
        rotate_left
        ·intro w'
         go_simp
         with_reducible rfl
        rotate_left
        ·exact pt_
        refine pure_ (i := 17) (N := some 43) (v := ?_) (a' := ?_) #[true, true, true, true, true, true, true, true, true, true, true, true, true, true, true, true, true, true, false, false, false, false, false, false, false, false] rfl rfl (any_of HT_.out (by kernel_rfl)) (fun _ _ _ h => h) (Or.inl ⟨by rfl, ?_⟩) ?_ ?_
        rotate_left
        ·intro w'
         go_simp
         with_reducible rfl
        rotate_left
        ·exact pt_
        refine pure_ (i := 18) (N := some 44) (v := ?_) (a' := ?_) #[true, true, true, true, true, true, true, true, true, true, true, true, true, true, true, true, true, true, true, false, false, false, false, false, false, false] rfl rfl (any_of HT_.out (by kernel_rfl)) (fun _ _ _ h => h) (Or.inl ⟨by rfl, ?_⟩) ?_ ?_
        rotate_left
        ·intro w'
         go_simp
         with_reducible rfl
        rotate_left
        ·exact pt_
        refine pure_ (i := 19) (N := some 45) (v := ?_) (a' := ?_) #[true, true, true, true, true, true, true, true, true, true, true, true, true, true, true, true, true, true, true, true, false, false, false, false, false, false] rfl rfl (any_of HT_.out (by kernel_rfl)) (fun _ _ _ h => h) (Or.inl ⟨by rfl, ?_⟩) ?_ ?_
        rotate_left
        ·intro w'
         go_simp
         with_reducible rfl
        rotate_left
        ·exact pt_
        refine pure_ (i := 20) (N := some 46) (v := ?_) (a' := ?_) #[true, true, true, true, true, true, true, true, true, true, true, true, true, true, true, true, true, true, true, true, true, false, false, false, false, false] rfl rfl (any_of HT_.out (by kernel_rfl)) (fun _ _ _ h => h) (Or.inl ⟨by rfl, ?_⟩) ?_ ?_
        rotate_left
        ·intro w'
         go_simp
         with_reducible rfl
        rotate_left
        ·exact pt_
        refine pure_ (i := 21) (N := some 47) (v := ?_) (a' := ?_) #[true, true, true, true, true, true, true, true, true, true, true, true, true, true, true, true, true, true, true, true, true, true, false, false, false, false] rfl rfl (any_of HT_.out (by kernel_rfl)) (fun _ _ _ h => h) (Or.inl ⟨by rfl, ?_⟩) ?_ ?_
        rotate_left
        ·intro w'
         go_simp
         with_reducible rfl
        rotate_left
        ·exact pt_
        refine pure_ (i := 22) (N := some 48) (v := ?_) (a' := ?_) #[true, true, true, true, true, true, true, true, true, true, true, true, true, true, true, true, true, true, true, true, true, true, true, false, false, false] rfl rfl (any_of HT_.out (by kernel_rfl)) (fun _ _ _ h => h) (Or.inl ⟨by rfl, ?_⟩) ?_ ?_
        rotate_left
        ·intro w'
         go_simp
         with_reducible rfl
        rotate_left
        ·exact pt_
        refine pure_ (i := 23) (N := some 49) (v := ?_) (a' := ?_) #[true, true, true, true, true, true, true, true, true, true, true, true, true, true, true, true, true, true, true, true, true, true, true, true, false, false] rfl rfl (any_of HT_.out (by kernel_rfl)) (fun _ _ _ h => h) (Or.inl ⟨by rfl, ?_⟩) ?_ ?_
        rotate_left
        ·intro w'
         go_simp
         with_reducible rfl
        rotate_left
        ·exact pt_
        refine pure_ (i := 24) (N := some 50) (v := ?_) (a' := ?_) #[true, true, true, true, true, true, true, true, true, true, true, true, true, true, true, true, true, true, true, true, true, true, true, true, true, false] rfl rfl (any_of HT_.out (by kernel_rfl)) (fun _ _ _ h => h) (Or.inl ⟨by rfl, ?_⟩) ?_ ?_
        rotate_left
        ·intro w'
         go_simp
         with_reducible rfl
        rotate_left
        ·exact pt_
        refine pure_ (i := 25) (N := some 51) (v := ?_) (a' := ?_) #[true, true, true, true, true, true, true, true, true, true, true, true, true, true, true, true, true, true, true, true, true, true, true, true, true, true] rfl rfl (any_of HT_.out (by kernel_rfl)) (fun _ _ _ h => h) (Or.inl ⟨by rfl, ?_⟩) ?_ ?_
        rotate_left
        ·intro w'
         go_simp
         with_reducible rfl
        rotate_left
        ·exact pt_
        refine done_ (done_of HT_.out (by kernel_rfl)) ?_
        try go_wp2
        go_meet
        case rel => exact ⟨_, (((t651.length : Int) != 8)), eq_, H', ⟨by have := HJ2.out; first | omega | exact Nat.le_refl _⟩, ⟨by refine kr_ ?_; exact HO653.out⟩, ⟨by refine bs_ ?_; exact BK648.out⟩, ⟨by repeat (first | (with_reducible first | exact HB.out | apply below_alloc | apply pw_below_drewN | apply below_drew1 | refine below_set ?_ GE648.out) | exact HB.out)⟩⟩
      ·rw [if_neg c20] at H
       have c20b0 : (t657 == 1) = false := beq_eq_false_iff_ne.mpr c20
       have c20b1 : (t657 != 1) = true := bne_iff_ne.mpr c20
       have H' := Aside0.mk H
       clear H
       try go_wp2
       have n0_ := Aside0.mk (Kd.R_drew HO653.out)
       have n1_ := Aside0.mk (blk_drew BK648.out)
       have n2_ := Aside0.mk (below_drew1 HB.out)
       clear HO653
       clear BK648
       clear HB
       have HO653 := n0_
       have BK648 := n1_
       have HB := n2_
       clear n0_ n1_ n2_
       refine start_ (n := 26) (S := fun w' => w'.cell? ⟨gb648, 0, none⟩ = some (.int .i64 a0_0) ∧ w'.cell? ⟨gb648, 1, none⟩ = some (.int .i64 a0_1) ∧ w'.cell? ⟨gb648, 2, none⟩ = some (.int .i64 a0_2) ∧ w'.cell? ⟨gb648, 3, none⟩ = some (.int .i64 a0_3)) (ds := []) #[false, false, false, false, false, false, false, false, false, false, false, false, false, false, false, false, false, false, false, false, false, false, false, false, false, false] (by kernel_rfl) rfl rfl ⟨(blk_cell BK648.out 0).trans rfl, (blk_cell BK648.out 1).trans rfl, (blk_cell BK648.out 2).trans rfl, (blk_cell BK648.out 3).trans rfl⟩ (fun hHeld => ?_); refine with_tabW clochelaw01_DiscsSix.tab4 clochelaw01_DiscsSix.bits4 (fun HT_ HW_ => ?_)
       generalize w15.drew = w32 at HO653 BK648 HB hHeld ⊢
       refine pure_ (i := 0) (N := some 26) (v := ?_) (a' := ?_) #[true, false, false, false, false, false, false, false, false, false, false, false, false, false, false, false, false, false, false, false, false, false, false, false, false, false] rfl rfl (any_of HT_.out (by kernel_rfl)) (fun _ _ _ h => h) (Or.inl ⟨by rfl, ?_⟩) ?_ ?_
       rotate_left
       ·intro w'
        go_simp
        with_reducible rfl
       rotate_left
       ·exact pt_
       refine pure_ (i := 1) (N := some 27) (v := ?_) (a' := ?_) #[true, true, false, false, false, false, false, false, false, false, false, false, false, false, false, false, false, false, false, false, false, false, false, false, false, false] rfl rfl (any_of HT_.out (by kernel_rfl)) (fun _ _ _ h => h) (Or.inl ⟨by rfl, ?_⟩) ?_ ?_
       rotate_left
       ·intro w'
        go_simp
        with_reducible rfl
       rotate_left
       ·exact pt_
       refine pure_ (i := 2) (N := some 28) (v := ?_) (a' := ?_) #[true, true, true, false, false, false, false, false, false, false, false, false, false, false, false, false, false, false, false, false, false, false, false, false, false, false] rfl rfl (any_of HT_.out (by kernel_rfl)) (fun _ _ _ h => h) (Or.inl ⟨by rfl, ?_⟩) ?_ ?_
       rotate_left
       ·intro w'
        go_simp
        with_reducible rfl
       rotate_left
       ·exact pt_
       refine pure_ (i := 3) (N := some 29) (v := ?_) (a' := ?_) #[true, true, true, true, false, false, false, false, false, false, false, false, false, false, false, false, false, false, false, false, false, false, false, false, false, false] rfl rfl (any_of HT_.out (by kernel_rfl)) (fun _ _ _ h => h) (Or.inl ⟨by rfl, ?_⟩) ?_ ?_
       rotate_left
       ·intro w'
        go_simp
        with_reducible rfl
       rotate_left
       ·exact pt_
       refine pure_ (i := 5) (N := some 31) (v := ?_) (a' := ?_) #[true, true, true, true, false, true, false, false, false, false, false, false, false, false, false, false, false, false, false, false, false, false, false, false, false, false] rfl rfl (any_of HT_.out (by kernel_rfl)) (fun _ _ _ h => h) (Or.inl ⟨by rfl, ?_⟩) ?_ ?_
       rotate_left
       ·intro w'
        go_simp
        with_reducible rfl
       rotate_left
       ·exact pt_
       refine pure_ (i := 8) (N := some 34) (v := ?_) (a' := ?_) #[true, true, true, true, false, true, false, false, true, false, false, false, false, false, false, false, false, false, false, false, false, false, false, false, false, false] rfl rfl (any_of HT_.out (by kernel_rfl)) (fun _ _ _ h => h) (Or.inl ⟨by rfl, ?_⟩) ?_ ?_
       rotate_left
       ·intro w'
        go_simp
        with_reducible rfl
       rotate_left
       ·exact pt_
       refine pure_ (i := 10) (N := some 36) (v := ?_) (a' := ?_) #[true, true, true, true, false, true, false, false, true, false, true, false, false, false, false, false, false, false, false, false, false, false, false, false, false, false] rfl rfl (any_of HT_.out (by kernel_rfl)) (fun _ _ _ h => h) (Or.inl ⟨by rfl, ?_⟩) ?_ ?_
       rotate_left
       ·intro w'
        go_simp
        with_reducible rfl
       rotate_left
       ·exact pt_
       refine take_ (i := 4) (N := some 30) (v := ?_) (a' := ?_) #[true, true, true, true, true, true, false, false, true, false, true, false, false, false, false, false, false, false, false, false, false, false, false, false, false, false] rfl rfl (take_ofW HT_.out HW_.out (by kernel_rfl)) (fun _ _ _ h => h) (Or.inl ⟨by rfl, ?_⟩) hHeld ?_ ?_
       rotate_left
       ·rintro w' ⟨s0, s1, s2, s3⟩
        go_simp
        with_reducible rfl
       rotate_left
       ·exact pt_
       refine take_ (i := 6) (N := some 32) (v := ?_) (a' := ?_) #[true, true, true, true, true, true, true, false, true, false, true, false, false, false, false, false, false, false, false, false, false, false, false, false, false, false] rfl rfl (take_ofW HT_.out HW_.out (by kernel_rfl)) (fun _ _ _ h => h) (Or.inl ⟨by rfl, ?_⟩) hHeld ?_ ?_
       rotate_left
       ·rintro w' ⟨s0, s1, s2, s3⟩
        go_simp
        with_reducible rfl
       rotate_left
       ·exact pt_
       refine take_ (i := 9) (N := some 35) (v := ?_) (a' := ?_) #[true, true, true, true, true, true, true, false, true, true, true, false, false, false, false, false, false, false, false, false, false, false, false, false, false, false] rfl rfl (take_ofW HT_.out HW_.out (by kernel_rfl)) (fun _ _ _ h => h) (Or.inl ⟨by rfl, ?_⟩) hHeld ?_ ?_
       rotate_left
       ·rintro w' ⟨s0, s1, s2, s3⟩
        go_simp
        with_reducible rfl
       rotate_left
       ·exact pt_
       refine take_ (i := 11) (N := some 37) (v := ?_) (a' := ?_) #[true, true, true, true, true, true, true, false, true, true, true, true, false, false, false, false, false, false, false, false, false, false, false, false, false, false] rfl rfl (take_ofW HT_.out HW_.out (by kernel_rfl)) (fun _ _ _ h => h) (Or.inl ⟨by rfl, ?_⟩) hHeld ?_ ?_
       rotate_left
       ·rintro w' ⟨s0, s1, s2, s3⟩
        go_simp
        with_reducible rfl
       rotate_left
       ·exact pt_
       refine one_ (i := 7) (N := some 33) #[true, true, true, true, true, true, true, true, true, true, true, true, false, false, false, false, false, false, false, false, false, false, false, false, false, false] rfl rfl (one_of HT_.out (by kernel_rfl)) (by decide) (fun K hK => ?_)
       refine goes_ Try.func38 (by kernel_rfl) rfl #[.int .i64 a0_0, .int .i64 a0_1] (by rfl) rfl rfl mp_ ?_
       with_reducible refine (clochelaw01_gcd.calls kj2 a0_0 a0_1 t655 _ A17.out).mono ?_
       rintro e w33 ⟨rfl, hb⟩
       refine ⟨_, rfl, ?_⟩
       have n0_ := Aside0.mk (Kd.R_below (by refine kr_ ?_; exact HO653.out) hb)
       have n1_ := Aside0.mk (blk_below (g := gb648) (o := .cells #[.int .i64 a0_0, .int .i64 a0_1, .int .i64 a0_2, .int .i64 a0_3] 23 (0, 0)) (by refine bs_ ?_; exact BK648.out) hb)
       have n2_ := Aside0.mk (below_step (by repeat (first | (with_reducible first | exact HB.out | apply below_alloc | apply pw_below_drewN | apply below_drew1 | refine below_set ?_ GE648.out) | exact HB.out)) hb)
       clear HO653
       clear BK648
       clear HB
       have HO653 := n0_
       have BK648 := n1_
       have HB := n2_
       clear n0_ n1_ n2_
       (try clear hb)
       (try clear hb2)
       (try clear hk)
       (try clear hi)
       refine hK.out _ _ ⟨(blk_cell BK648.out 0).trans rfl, (blk_cell BK648.out 1).trans rfl, (blk_cell BK648.out 2).trans rfl, (blk_cell BK648.out 3).trans rfl⟩ (fun hHeld => ?_)
       clear hK K
       refine norm_ (a' := ?_) ?_ ?_
       rotate_left
       ·show Act.put _ (some 33) _ = _
        exact pt_
       refine one_ (i := 12) (N := some 38) #[true, true, true, true, true, true, true, true, true, true, true, true, true, false, false, false, false, false, false, false, false, false, false, false, false, false] rfl rfl (one_of HT_.out (by kernel_rfl)) (by decide) (fun K hK => ?_)
       refine goes_ Try.func38 (by kernel_rfl) rfl #[.int .i64 a0_2, .int .i64 a0_3] (by rfl) rfl rfl mp_ ?_
       with_reducible refine (clochelaw01_gcd.calls kj2 a0_2 a0_3 t656 _ A18.out).mono ?_
       rintro e w34 ⟨rfl, hb⟩
       refine ⟨_, rfl, ?_⟩
       have n0_ := Aside0.mk (Kd.R_below (by refine kr_ ?_; exact HO653.out) hb)
       have n1_ := Aside0.mk (blk_below (g := gb648) (o := .cells #[.int .i64 a0_0, .int .i64 a0_1, .int .i64 a0_2, .int .i64 a0_3] 23 (0, 0)) (by refine bs_ ?_; exact BK648.out) hb)
       have n2_ := Aside0.mk (below_step (by repeat (first | (with_reducible first | exact HB.out | apply below_alloc | apply pw_below_drewN | apply below_drew1 | refine below_set ?_ GE648.out) | exact HB.out)) hb)
       clear HO653
       clear BK648
       clear HB
       have HO653 := n0_
       have BK648 := n1_
       have HB := n2_
       clear n0_ n1_ n2_
       (try clear hb)
       (try clear hb2)
       (try clear hk)
       (try clear hi)
       refine hK.out _ _ ⟨(blk_cell BK648.out 0).trans rfl, (blk_cell BK648.out 1).trans rfl, (blk_cell BK648.out 2).trans rfl, (blk_cell BK648.out 3).trans rfl⟩ (fun hHeld => ?_)
       clear hK K
       refine norm_ (a' := ?_) ?_ ?_
       rotate_left
       ·show Act.put _ (some 38) _ = _
        exact pt_
       refine one_ (i := 13) (N := some 39) #[true, true, true, true, true, true, true, true, true, true, true, true, true, true, false, false, false, false, false, false, false, false, false, false, false, false] rfl rfl (one_of HT_.out (by kernel_rfl)) (by decide) (fun K hK => ?_)
       refine goes_ Try.func38 (by kernel_rfl) rfl #[.int .i64 t655, .int .i64 t656] (by rfl) rfl rfl mp_ ?_
       with_reducible refine (clochelaw01_gcd.calls kj2 t655 t656 t657 _ A19.out).mono ?_
       rintro e w35 ⟨rfl, hb⟩
       refine ⟨_, rfl, ?_⟩
       have n0_ := Aside0.mk (Kd.R_below (by refine kr_ ?_; exact HO653.out) hb)
       have n1_ := Aside0.mk (blk_below (g := gb648) (o := .cells #[.int .i64 a0_0, .int .i64 a0_1, .int .i64 a0_2, .int .i64 a0_3] 23 (0, 0)) (by refine bs_ ?_; exact BK648.out) hb)
       have n2_ := Aside0.mk (below_step (by repeat (first | (with_reducible first | exact HB.out | apply below_alloc | apply pw_below_drewN | apply below_drew1 | refine below_set ?_ GE648.out) | exact HB.out)) hb)
       clear HO653
       clear BK648
       clear HB
       have HO653 := n0_
       have BK648 := n1_
       have HB := n2_
       clear n0_ n1_ n2_
       (try clear hb)
       (try clear hb2)
       (try clear hk)
       (try clear hi)
       refine hK.out _ _ ⟨(blk_cell BK648.out 0).trans rfl, (blk_cell BK648.out 1).trans rfl, (blk_cell BK648.out 2).trans rfl, (blk_cell BK648.out 3).trans rfl⟩ (fun hHeld => ?_)
       clear hK K
       refine norm_ (a' := ?_) ?_ ?_
       rotate_left
       ·show Act.put _ (some 39) _ = _
        exact pt_
       refine pure_ (i := 14) (N := some 40) (v := ?_) (a' := ?_) #[true, true, true, true, true, true, true, true, true, true, true, true, true, true, true, false, false, false, false, false, false, false, false, false, false, false] rfl rfl (any_of HT_.out (by kernel_rfl)) (fun _ _ _ h => h) (Or.inl ⟨by rfl, ?_⟩) ?_ ?_
       rotate_left
       ·intro w'
        go_simp
        with_reducible rfl
       rotate_left
       ·exact pt_
       refine pure_ (i := 15) (N := some 41) (v := ?_) (a' := ?_) #[true, true, true, true, true, true, true, true, true, true, true, true, true, true, true, true, false, false, false, false, false, false, false, false, false, false] rfl rfl (any_of HT_.out (by kernel_rfl)) (fun _ _ _ h => h) (Or.inl ⟨by rfl, ?_⟩) ?_ ?_
       rotate_left
       ·intro w'
        go_simp
        with_reducible rfl
       rotate_left
       ·exact pt_
       refine pure_ (i := 16) (N := some 42) (v := undef) (a' := ?_) #[true, true, true, true, true, true, true, true, true, true, true, true, true, true, true, true, true, false, false, false, false, false, false, false, false, false] rfl rfl (any_of HT_.out (by kernel_rfl)) (fun _ _ _ h => h) (Or.inr ⟨by rfl, rfl⟩) ?_ ?_
       rotate_left
       ·exact pt_
       refine pure_ (i := 17) (N := some 43) (v := undef) (a' := ?_) #[true, true, true, true, true, true, true, true, true, true, true, true, true, true, true, true, true, true, false, false, false, false, false, false, false, false] rfl rfl (any_of HT_.out (by kernel_rfl)) (fun _ _ _ h => h) (Or.inr ⟨by rfl, rfl⟩) ?_ ?_
       rotate_left
       ·exact pt_
       refine pure_ (i := 18) (N := some 44) (v := undef) (a' := ?_) #[true, true, true, true, true, true, true, true, true, true, true, true, true, true, true, true, true, true, true, false, false, false, false, false, false, false] rfl rfl (any_of HT_.out (by kernel_rfl)) (fun _ _ _ h => h) (Or.inr ⟨by rfl, rfl⟩) ?_ ?_
       rotate_left
       ·exact pt_
       refine pure_ (i := 19) (N := some 45) (v := ?_) (a' := ?_) #[true, true, true, true, true, true, true, true, true, true, true, true, true, true, true, true, true, true, true, true, false, false, false, false, false, false] rfl rfl (any_of HT_.out (by kernel_rfl)) (fun _ _ _ h => h) (Or.inl ⟨by rfl, ?_⟩) ?_ ?_
       rotate_left
       ·intro w'
        go_simp
        with_reducible rfl
       rotate_left
       ·exact pt_
       refine pure_ (i := 20) (N := some 46) (v := ?_) (a' := ?_) #[true, true, true, true, true, true, true, true, true, true, true, true, true, true, true, true, true, true, true, true, true, false, false, false, false, false] rfl rfl (any_of HT_.out (by kernel_rfl)) (fun _ _ _ h => h) (Or.inl ⟨by rfl, ?_⟩) ?_ ?_
       rotate_left
       ·intro w'
        go_simp
        with_reducible rfl
       rotate_left
       ·exact pt_
       refine pure_ (i := 21) (N := some 47) (v := undef) (a' := ?_) #[true, true, true, true, true, true, true, true, true, true, true, true, true, true, true, true, true, true, true, true, true, true, false, false, false, false] rfl rfl (any_of HT_.out (by kernel_rfl)) (fun _ _ _ h => h) (Or.inr ⟨by rfl, rfl⟩) ?_ ?_
       rotate_left
       ·exact pt_
       refine pure_ (i := 22) (N := some 48) (v := undef) (a' := ?_) #[true, true, true, true, true, true, true, true, true, true, true, true, true, true, true, true, true, true, true, true, true, true, true, false, false, false] rfl rfl (any_of HT_.out (by kernel_rfl)) (fun _ _ _ h => h) (Or.inr ⟨by rfl, rfl⟩) ?_ ?_
       rotate_left
       ·exact pt_
       refine pure_ (i := 23) (N := some 49) (v := undef) (a' := ?_) #[true, true, true, true, true, true, true, true, true, true, true, true, true, true, true, true, true, true, true, true, true, true, true, true, false, false] rfl rfl (any_of HT_.out (by kernel_rfl)) (fun _ _ _ h => h) (Or.inr ⟨by rfl, rfl⟩) ?_ ?_
       rotate_left
       ·exact pt_
       refine pure_ (i := 24) (N := some 50) (v := ?_) (a' := ?_) #[true, true, true, true, true, true, true, true, true, true, true, true, true, true, true, true, true, true, true, true, true, true, true, true, true, false] rfl rfl (any_of HT_.out (by kernel_rfl)) (fun _ _ _ h => h) (Or.inl ⟨by rfl, ?_⟩) ?_ ?_
       rotate_left
       ·intro w'
        go_simp
        with_reducible rfl
       rotate_left
       ·exact pt_
       refine pure_ (i := 25) (N := some 51) (v := ?_) (a' := ?_) #[true, true, true, true, true, true, true, true, true, true, true, true, true, true, true, true, true, true, true, true, true, true, true, true, true, true] rfl rfl (any_of HT_.out (by kernel_rfl)) (fun _ _ _ h => h) (Or.inl ⟨by rfl, ?_⟩) ?_ ?_
       rotate_left
       ·intro w'
        go_simp
        with_reducible rfl
       rotate_left
       ·exact pt_
       refine done_ (done_of HT_.out (by kernel_rfl)) ?_
       try go_wp2
       go_meet
       case rel => exact ⟨_, (false), eq_, H', ⟨by have := HJ2.out; first | omega | exact Nat.le_refl _⟩, ⟨by refine kr_ ?_; exact HO653.out⟩, ⟨by refine bs_ ?_; exact BK648.out⟩, ⟨by repeat (first | (with_reducible first | exact HB.out | apply below_alloc | apply pw_below_drewN | apply below_drew1 | refine below_set ?_ GE648.out) | exact HB.out)⟩⟩
     ·rw [if_neg c16] at H
      exact absurd H (by simp)
    case rest =>
     clear HC13
     try clear c1
     try clear c2
     try clear p2
     try clear c3
     try clear c16
     try clear c20
     try clear c20b0
     try clear c20b1
     try clear c21
     try clear c21b0
     try clear c21b1
     obtain ⟨kq, x51_12, rfl, HA, HJ12, HO_5, BK648, HB⟩ := hcut
     cases kq with
     | zero => exact absurd HA.out (by simp [clochelaw01_DiscsSix.j1])
     | succ kj12 =>
      have H := HA.out
      clear HA
      simp only [clochelaw01_DiscsSix.j1] at H
      by_cases c36 : x51_12 = true
      ·subst c36
       have H1 : (none) = some r := by rw [if_pos rfl] at H; exact H
       clear H
       have H := H1
       clear H1
       exact absurd H (by simp)
      ·replace c36 := Bool.eq_false_iff.mpr c36
       subst c36
       have H1 : ((discs_Turns.f kj12 a0_0 a0_1 a0_2 a0_3 l1).bind fun bt658 => (if bt658.2.2.2.2 = 0 then ((discs_Rests.f kj12 bt658.1 bt658.2.1 bt658.2.2.1 bt658.2.2.2.1).bind fun bt665 => (if bt665.2 = 0 then ((clochelaw01_same.f kj12 t651 bt665.1).bind fun t669 => (clochelaw01_DiscsSix.j2 kj12 t651 (!t669) bt658.1 bt658.2.1 bt658.2.2.1 bt658.2.2.2.1)) else (none))) else ((clochelaw01_alive.f kj12).bind fun t664 => (some t664)))) = some r := by rw [if_neg (show ¬ (false = true) by decide)] at H; exact H
       clear H
       have H := H1
       clear H1
       replace H := Option.bind_eq_some_iff.mp H
       obtain ⟨⟨t658, t659, t660, t661, t662⟩, A370, H⟩ := H
       replace H : (if t662 = 0 then ((discs_Rests.f kj12 t658 t659 t660 t661).bind fun bt665 => (if bt665.2 = 0 then ((clochelaw01_same.f kj12 t651 bt665.1).bind fun t669 => (clochelaw01_DiscsSix.j2 kj12 t651 (!t669) t658 t659 t660 t661)) else (none))) else ((clochelaw01_alive.f kj12).bind fun t664 => (some t664))) = some r := H
       have A37 := Aside0.mk A370
       clear A370
       by_cases c38 : t662 = 0
       ·rw [if_pos c38] at H
        have c38b0 : (t662 == 0) = true := beq_iff_eq.mpr c38
        have c38b1 : (t662 != 0) = false := bne_eq_false_iff_eq.mpr c38
        clear c38
        replace H := Option.bind_eq_some_iff.mp H
        obtain ⟨⟨t665, t668⟩, A390, H⟩ := H
        replace H : (if t668 = 0 then ((clochelaw01_same.f kj12 t651 t665).bind fun t669 => (clochelaw01_DiscsSix.j2 kj12 t651 (!t669) t658 t659 t660 t661)) else (none)) = some r := H
        have A39 := Aside0.mk A390
        clear A390
        have HC40 := Aside0.mk H
        clear H
        have hcz41_0 : wc.cell? ⟨gb648, 0, none⟩ = some (.int .i64 a0_0) := (blk_cell BK648.out 0).trans rfl
        have hcz41_1 : wc.cell? ⟨gb648, 1, none⟩ = some (.int .i64 a0_1) := (blk_cell BK648.out 1).trans rfl
        have hcz41_2 : wc.cell? ⟨gb648, 2, none⟩ = some (.int .i64 a0_2) := (blk_cell BK648.out 2).trans rfl
        have hcz41_3 : wc.cell? ⟨gb648, 3, none⟩ = some (.int .i64 a0_3) := (blk_cell BK648.out 3).trans rfl
        have hfz41_0 := blk_frozen BK648.out 0
        have hfz41_1 := blk_frozen BK648.out 1
        have hfz41_2 := blk_frozen BK648.out 2
        have hfz41_3 := blk_frozen BK648.out 3
        go_upto_region 10 with (first | ((with_reducible refine gate_callee (f := 36) rfl ?_); refine goesL_ (some 55) rfl rfl Try.func36 (by kernel_rfl) rfl #[.agg #[.int .i64 a0_0, .int .i64 a0_1, .int .i64 a0_2, .int .i64 a0_3], .slice A1 l1.length c1] rfl mp_ ?_; (with_reducible refine (discs_Turns.calls kj12 a0_0 a0_1 a0_2 a0_3 _ _ l1 t658 t659 t660 t661 t662 _ ?side1 ?side2 A37.out).mono ?_); (case side1 => repeat (first | exact (Kd.C_below HR1.out HB.out) | (with_reducible refine Kd.C_alloc ?_ _) | (with_reducible refine Kd.C_drewN ?_ _) | (with_reducible refine Kd.C_drew ?_))); (case side2 => exact HC1.out); rintro e w42 ⟨rfl, hb⟩; refine ⟨_, rfl, ?_⟩; have n0_ := Aside0.mk (Kd.R_below (by refine kr_ ?_; exact HO_5.out) hb); have n1_ := Aside0.mk (blk_below (g := gb648) (o := .cells #[.int .i64 a0_0, .int .i64 a0_1, .int .i64 a0_2, .int .i64 a0_3] 23 (0, 0)) (by refine bs_ ?_; exact BK648.out) hb); have n2_ := Aside0.mk (below_step (by repeat (first | (with_reducible first | exact HB.out | apply below_alloc | apply pw_below_drewN | apply below_drew1 | refine below_set ?_ GE648.out) | exact HB.out)) hb); clear HO_5; clear BK648; clear HB; have HO_5 := n0_; have BK648 := n1_; have HB := n2_; clear n0_ n1_ n2_; (try clear hb); (try clear hb2); (try clear hk); (try clear hi)) | ((with_reducible refine gate_dst (N := 7) rfl ?_); (try (refine gate_guard (by rfl) ?_; dsimp only)); refine box_event ?hg (N := 7) ?hd (cs := #[.int .i64 0, .int .i64 0, .int .i64 0, .int .i64 0]) (t := 23) ?hr ?_; (case hd => rfl); (case hg => rfl); (case hr => exact gs_); intro gb663 hg w43 hbox hb; have n0_ := Aside0.mk (Kd.R_below (by refine kr_ ?_; exact HO_5.out) hb); have n1_ := Aside0.mk (blk_below (g := gb648) (o := .cells #[.int .i64 a0_0, .int .i64 a0_1, .int .i64 a0_2, .int .i64 a0_3] 23 (0, 0)) (by refine bs_ ?_; exact BK648.out) hb); have n2_ := Aside0.mk (below_step (by repeat (first | (with_reducible first | exact HB.out | apply below_alloc | apply pw_below_drewN | apply below_drew1 | refine below_set ?_ GE648.out) | exact HB.out)) hb); have n3_ := Aside0.mk (hbox); have n4_ := Aside0.mk ((by rw [hg]; exact (below_size (by repeat (first | (with_reducible first | exact HB.out | apply below_alloc | apply pw_below_drewN | apply below_drew1 | refine below_set ?_ GE648.out) | exact HB.out))) : w.heap.size ≤ gb663)); have n5_ := Aside0.mk ((by rw [hg]; exact (below_size (by repeat (first | (with_reducible first | exact HB.out | apply below_alloc | apply pw_below_drewN | apply below_drew1 | refine below_set ?_ GE648.out) | exact HB.out))) : w.heap.size ≤ gb663)); have n6_ := Aside0.mk ((by rw [hg]; exact Nat.ne_of_lt (blk_lt (g := gb648) (o := .cells #[.int .i64 a0_0, .int .i64 a0_1, .int .i64 a0_2, .int .i64 a0_3] 23 (0, 0)) (by refine bs_ ?_; exact BK648.out)) : gb648 ≠ gb663)); have n7_ := Aside0.mk ((by rw [hg]; exact Nat.ne_of_gt (blk_lt (g := gb648) (o := .cells #[.int .i64 a0_0, .int .i64 a0_1, .int .i64 a0_2, .int .i64 a0_3] 23 (0, 0)) (by refine bs_ ?_; exact BK648.out)) : gb663 ≠ gb648)); clear HO_5; clear BK648; clear HB; have HO_5 := n0_; have BK648 := n1_; have HB := n2_; have BK663 := n3_; have GW663 := n4_; have GE663 := n5_; have NB648_663 := n6_; have NB663_648 := n7_; clear n0_ n1_ n2_ n3_ n4_ n5_ n6_ n7_; clear hb hbox hg; have hnb44 := NB663_648.out; have hnc44 := NB648_663.out; have hcz45_0 : w43.cell? ⟨gb663, 0, none⟩ = some (.int .i64 0) := (blk_cell BK663.out 0).trans rfl; have hcz45_1 : w43.cell? ⟨gb663, 1, none⟩ = some (.int .i64 0) := (blk_cell BK663.out 1).trans rfl; have hcz45_2 : w43.cell? ⟨gb663, 2, none⟩ = some (.int .i64 0) := (blk_cell BK663.out 2).trans rfl; have hcz45_3 : w43.cell? ⟨gb663, 3, none⟩ = some (.int .i64 0) := (blk_cell BK663.out 3).trans rfl; have hfz45_0 := blk_frozen BK663.out 0; have hfz45_1 := blk_frozen BK663.out 1; have hfz45_2 := blk_frozen BK663.out 2; have hfz45_3 := blk_frozen BK663.out 3) | ((with_reducible refine gate_callee (f := 25) rfl ?_); refine goesL_ (some 63) rfl rfl Try.func25 (by kernel_rfl) rfl #[.agg #[.int .i64 t658, .int .i64 t659, .int .i64 t660, .int .i64 t661]] rfl mp_ ?_; (with_reducible refine (discs_Rests.calls kj12 t658 t659 t660 t661 t665 t668 _ A39.out).mono ?_); rintro e w46 ⟨v666, rfl, ho0, hb⟩; refine ⟨_, rfl, ?_⟩; have n0_ := Aside0.mk (Kd.R_elder' (by refine kr_ ?_; exact (Kd.R_mono (Kd.R_far (p := ⟨gb663, 3, none⟩) (Kd.R_far (p := ⟨gb663, 2, none⟩) (Kd.R_far (p := ⟨gb663, 1, none⟩) (Kd.R_far (p := ⟨gb663, 0, none⟩) (Kd.R_types HO_5.out BK663.out (by decide)) (fun _ hk => hk.2) (.int .i64 t658)) (fun _ hk => hk.2) (.int .i64 t659)) (fun _ hk => hk.2) (.int .i64 t660)) (fun _ hk => hk.2) (.int .i64 t661)) (fun _ h_ => h_.1))) (Kd.R_base ho0) hb); have n1_ := Aside0.mk (Kd.R_lower (Kd.R_new' ho0 (Kd.R_lt (by refine kr_ ?_; exact (Kd.R_mono (Kd.R_far (p := ⟨gb663, 3, none⟩) (Kd.R_far (p := ⟨gb663, 2, none⟩) (Kd.R_far (p := ⟨gb663, 1, none⟩) (Kd.R_far (p := ⟨gb663, 0, none⟩) (Kd.R_types HO_5.out BK663.out (by decide)) (fun _ hk => hk.2) (.int .i64 t658)) (fun _ hk => hk.2) (.int .i64 t659)) (fun _ hk => hk.2) (.int .i64 t660)) (fun _ hk => hk.2) (.int .i64 t661)) (fun _ h_ => h_.1))))) (below_size (by repeat (first | (with_reducible first | exact HB.out | apply below_alloc | apply pw_below_drewN | apply below_drew1 | refine below_set ?_ GE648.out | refine below_set ?_ GE663.out) | exact HB.out)))); have n2_ := Aside0.mk (blk_below (g := gb648) (o := .cells #[.int .i64 a0_0, .int .i64 a0_1, .int .i64 a0_2, .int .i64 a0_3] 23 (0, 0)) (by refine bs_ ?_; refine blk_far ?_ NB648_663.out _; refine bs_ ?_; refine blk_far ?_ NB648_663.out _; refine bs_ ?_; refine blk_far ?_ NB648_663.out _; refine bs_ ?_; refine blk_far ?_ NB648_663.out _; refine bs_ ?_; exact BK648.out) hb); have n3_ := Aside0.mk (blk_below (g := gb663) (o := .cells #[.int .i64 t658, .int .i64 t659, .int .i64 t660, .int .i64 t661] 23 (0, 0)) (by refine bs_ ?_; refine blk_put (cs := #[.int .i64 t658, .int .i64 t659, .int .i64 t660, .int .i64 0]) ?_ 3 _ rfl; refine bs_ ?_; refine blk_put (cs := #[.int .i64 t658, .int .i64 t659, .int .i64 0, .int .i64 0]) ?_ 2 _ rfl; refine bs_ ?_; refine blk_put (cs := #[.int .i64 t658, .int .i64 0, .int .i64 0, .int .i64 0]) ?_ 1 _ rfl; refine bs_ ?_; refine blk_put (cs := #[.int .i64 0, .int .i64 0, .int .i64 0, .int .i64 0]) ?_ 0 _ rfl; refine bs_ ?_; exact BK663.out) hb); have n4_ := Aside0.mk (below_step (by repeat (first | (with_reducible first | exact HB.out | apply below_alloc | apply pw_below_drewN | apply below_drew1 | refine below_set ?_ GE648.out | refine below_set ?_ GE663.out) | exact HB.out)) hb); clear HO_5; clear BK648; clear BK663; clear HB; have HO_5 := n0_; have HO667 := n1_; have BK648 := n2_; have BK663 := n3_; have HB := n4_; clear n0_ n1_ n2_ n3_ n4_; (try clear hb); (try clear hb2); (try clear hk); (try clear hi); (try clear ho0)))
        (try simp only [Act.put, List.setIfInBounds_toArray, List.set_cons_zero, List.set_cons_succ])
        go_cut [73] (fun v73 wc => ∃ (kq : Nat) (x73_39 : Bool), v73 = .bool x73_39 ∧ Aside0 (clochelaw01_DiscsSix.j2 kq t651 x73_39 t658 t659 t660 t661 = some r) ∧ Aside0 (kq ≤ kj12) ∧ Aside0 (Kd.R (Kd.int .i64) 3 wc w.heap.size (fun _ => True) v652 t651) ∧ Aside0 (wc.heap[gb648]? = some (.cells #[.int .i64 a0_0, .int .i64 a0_1, .int .i64 a0_2, .int .i64 a0_3] 23 (0, 0))) ∧ Aside0 (wc.heap[gb663]? = some (.cells #[.int .i64 t658, .int .i64 t659, .int .i64 t660, .int .i64 t661] 23 (0, 0))) ∧ Aside0 (Below w.heap.size w wc))
        case first =>
         have H := HC40.out
         clear HC40
         by_cases c47 : t668 = 0
         ·rw [if_pos c47] at H
          have c47b0 : (t668 == 0) = true := beq_iff_eq.mpr c47
          have c47b1 : (t668 != 0) = false := bne_eq_false_iff_eq.mpr c47
          clear c47
          (first | rw [c47b0] | (simp only [i64_w, i32_w]; rw [c47b0]) | skip)
          replace H := Option.bind_eq_some_iff.mp H
          obtain ⟨t669, A480, H⟩ := H
          replace H : (clochelaw01_DiscsSix.j2 kj12 t651 (!t669) t658 t659 t660 t661) = some r := H
          have A48 := Aside0.mk A480
          clear A480
          have H' := Aside0.mk H
          clear H
          obtain ⟨Ao49, co49, eo49⟩ := Kd.R_slice HO_5.out
          subst eo49
          obtain ⟨Ao50, co50, eo50⟩ := Kd.R_slice HO667.out
          subst eo50
          go_wp2_with (first | (go_at_call 24; (with_reducible refine (clochelaw01_same.calls kj12 _ _ t651 _ _ t665 t669 _ ?side1 ?side2 ?side3 ?side4 A48.out).mono ?_); (case side1 => repeat (first | exact (Kd.R_reads' HO_5.out).2.2 | (with_reducible refine Kd.C_alloc ?_ _) | (with_reducible refine Kd.C_drewN ?_ _) | (with_reducible refine Kd.C_drew ?_))); (case side2 => exact (Kd.R_reads' HO_5.out).2.1); (case side3 => repeat (first | exact (Kd.R_reads' HO667.out).2.2 | (with_reducible refine Kd.C_alloc ?_ _) | (with_reducible refine Kd.C_drewN ?_ _) | (with_reducible refine Kd.C_drew ?_))); (case side4 => exact (Kd.R_reads' HO667.out).2.1); rintro e w' ⟨rfl, ⟨nd, rfl⟩⟩))
          go_meet
          case rel => exact ⟨_, (!t669), eq_, H', ⟨by have := HJ2.out; have := HJ12.out; first | omega | exact Nat.le_refl _⟩, ⟨by refine kr_ ?_; exact Kd.R_mono HO_5.out (fun _ hk => trivial)⟩, ⟨by refine bs_ ?_; exact BK648.out⟩, ⟨by refine bs_ ?_; exact BK663.out⟩, ⟨by repeat (first | (with_reducible first | exact HB.out | apply below_alloc | apply pw_below_drewN | apply below_drew1 | refine below_set ?_ GE648.out | refine below_set ?_ GE663.out) | exact HB.out)⟩⟩
         ·rw [if_neg c47] at H
          exact absurd H (by simp)
        case rest =>
         clear HC40
         try clear c1
         try clear c2
         try clear p2
         try clear c3
         try clear c4
         try clear c16
         try clear c20
         try clear c20b0
         try clear c20b1
         try clear c21
         try clear c21b0
         try clear c21b1
         try clear c25
         try clear c36
         try clear c38
         try clear c38b0
         try clear c38b1
         try clear c44
         try clear c47
         try clear c47b0
         try clear c47b1
         try clear hcz41_0
         try clear hcz41_1
         try clear hcz41_2
         try clear hcz41_3
         try clear hcz45_0
         try clear hcz45_1
         try clear hcz45_2
         try clear hcz45_3
         try clear hfz41_0
         try clear hfz41_1
         try clear hfz41_2
         try clear hfz41_3
         try clear hfz45_0
         try clear hfz45_1
         try clear hfz45_2
         try clear hfz45_3
         try clear p2
         obtain ⟨kq, x73_39, rfl, HA, HJ39, HO_5, BK648, BK663, HB⟩ := hcut
         cases kq with
         | zero => exact absurd HA.out (by simp [clochelaw01_DiscsSix.j2])
         | succ kj39 =>
          have H := HA.out
          clear HA
          simp only [clochelaw01_DiscsSix.j2] at H
          by_cases c51 : x73_39 = true
          ·subst c51
           have H1 : (none) = some r := by rw [if_pos rfl] at H; exact H
           clear H
           have H := H1
           clear H1
           exact absurd H (by simp)
          ·replace c51 := Bool.eq_false_iff.mpr c51
           subst c51
           have H1 : (clochelaw01_DiscsSix.l0 kj39 t651 0 t658 t659 t660 t661) = some r := by rw [if_neg (show ¬ (false = true) by decide)] at H; exact H
           clear H
           have H := H1
           clear H1
           have H' := Aside0.mk H
           clear H
           go_wp2
           go_loopg [9] kj39 (fun kq v9 w' => ∃ (x9_4 : Int), v9 = .int .i64 x9_4 ∧ Aside0 (clochelaw01_DiscsSix.l0 kq t651 x9_4 t658 t659 t660 t661 = some r) ∧ Aside0 (kq ≤ kj39) ∧ Aside0 (Kd.R (Kd.int .i64) 3 w' w.heap.size (fun _ => True) v652 t651) ∧ Aside0 (w'.heap[gb648]? = some (.cells #[.int .i64 a0_0, .int .i64 a0_1, .int .i64 a0_2, .int .i64 a0_3] 23 (0, 0))) ∧ Aside0 (w'.heap[gb663]? = some (.cells #[.int .i64 t658, .int .i64 t659, .int .i64 t660, .int .i64 t661] 23 (0, 0))) ∧ Aside0 (Below w.heap.size w w'))
           case atStart => exact ⟨(0), eq_, H', ⟨Nat.le_refl _⟩, ⟨by refine kr_ ?_; exact HO_5.out⟩, ⟨by refine bs_ ?_; exact BK648.out⟩, ⟨by refine bs_ ?_; exact BK663.out⟩, ⟨by repeat (first | (with_reducible first | exact HB.out | apply below_alloc | apply pw_below_drewN | apply below_drew1 | refine below_set ?_ GE648.out | refine below_set ?_ GE663.out) | exact HB.out)⟩⟩
           case round =>
            clear H'
            try clear c1
            try clear c2
            try clear p2
            try clear c3
            try clear c4
            try clear c5
            try clear c16
            try clear c20
            try clear c20b0
            try clear c20b1
            try clear c21
            try clear c21b0
            try clear c21b1
            try clear c25
            try clear c36
            try clear c38
            try clear c38b0
            try clear c38b1
            try clear c44
            try clear c47
            try clear c47b0
            try clear c47b1
            try clear c51
            try clear hcz41_0
            try clear hcz41_1
            try clear hcz41_2
            try clear hcz41_3
            try clear hcz45_0
            try clear hcz45_1
            try clear hcz45_2
            try clear hcz45_3
            try clear hfz41_0
            try clear hfz41_1
            try clear hfz41_2
            try clear hfz41_3
            try clear hfz45_0
            try clear hfz45_1
            try clear hfz45_2
            try clear hfz45_3
            try clear p2
            obtain ⟨x9_4, rfl, HA, HK4, HO_5, BK648, BK663, HB⟩ := hrel
            cases gk with
            | zero => exact absurd HA.out (by simp [clochelaw01_DiscsSix.l0])
            | succ k4 =>
             have H := HA.out
             clear HA
             simp only [clochelaw01_DiscsSix.l0] at H
             by_cases c52 : x9_4 < 4
             ·rw [if_pos c52] at H
              have c52b0 : decide (x9_4 < 4) = true := decide_eq_true c52
              clear c52
              have H' := Aside0.mk H
              clear H
              go_wp2
              go_loopg [10, 11] k4 (fun kq v10 v11 w' => ∃ (x10_5 : Bool) (x11_5 : Int), v10 = .bool x10_5 ∧ v11 = .int .i64 x11_5 ∧ Aside0 (clochelaw01_DiscsSix.l1 kq t651 x9_4 x10_5 x11_5 t658 t659 t660 t661 = some r) ∧ Aside0 (kq ≤ k4) ∧ Aside0 (Kd.R (Kd.int .i64) 3 w' w.heap.size (fun _ => True) v652 t651) ∧ Aside0 (w'.heap[gb648]? = some (.cells #[.int .i64 a0_0, .int .i64 a0_1, .int .i64 a0_2, .int .i64 a0_3] 23 (0, 0))) ∧ Aside0 (w'.heap[gb663]? = some (.cells #[.int .i64 t658, .int .i64 t659, .int .i64 t660, .int .i64 t661] 23 (0, 0))) ∧ Aside0 (Below w.heap.size w w'))
              case atStart => exact ⟨(false), (0), eq_, eq_, H', ⟨Nat.le_refl _⟩, ⟨by refine kr_ ?_; exact HO_5.out⟩, ⟨by refine bs_ ?_; exact BK648.out⟩, ⟨by refine bs_ ?_; exact BK663.out⟩, ⟨by repeat (first | (with_reducible first | exact HB.out | apply below_alloc | apply pw_below_drewN | apply below_drew1 | refine below_set ?_ GE648.out | refine below_set ?_ GE663.out) | exact HB.out)⟩⟩
              case round =>
               clear H'
               try clear c1
               try clear c2
               try clear p2
               try clear c3
               try clear c4
               try clear c5
               try clear c16
               try clear c20
               try clear c20b0
               try clear c20b1
               try clear c21
               try clear c21b0
               try clear c21b1
               try clear c25
               try clear c36
               try clear c38
               try clear c38b0
               try clear c38b1
               try clear c44
               try clear c47
               try clear c47b0
               try clear c47b1
               try clear c51
               try clear c52
               try clear c52b0
               try clear hcz41_0
               try clear hcz41_1
               try clear hcz41_2
               try clear hcz41_3
               try clear hcz45_0
               try clear hcz45_1
               try clear hcz45_2
               try clear hcz45_3
               try clear hfz41_0
               try clear hfz41_1
               try clear hfz41_2
               try clear hfz41_3
               try clear hfz45_0
               try clear hfz45_1
               try clear hfz45_2
               try clear hfz45_3
               try clear p2
               obtain ⟨x10_5, x11_5, rfl, rfl, HA, HK5, HO_5, BK648, BK663, HB⟩ := hrel
               cases gk with
               | zero => exact absurd HA.out (by simp [clochelaw01_DiscsSix.l1])
               | succ k5 =>
                have H := HA.out
                clear HA
                simp only [clochelaw01_DiscsSix.l1] at H
                by_cases c53 : x11_5 < (t651.length : Int)
                ·rw [if_pos c53] at H
                 have c53b0 : decide (x11_5 < (t651.length : Int)) = true := decide_eq_true c53
                 clear c53
                 by_cases c54 : x10_5 = true
                 ·subst c54
                  have H1 : (clochelaw01_DiscsSix.l1 k5 t651 x9_4 true (wrap64 (x11_5 + 1)) t658 t659 t660 t661) = some r := by rw [if_pos rfl] at H; exact H
                  clear H
                  have H := H1
                  clear H1
                  have H' := Aside0.mk H
                  clear H
                  obtain ⟨Ao55, co55, eo55⟩ := Kd.R_slice HO_5.out
                  subst eo55
                  try go_wp2
                  have n0_ := Aside0.mk (Kd.R_drew HO_5.out)
                  have n1_ := Aside0.mk (blk_drew BK648.out)
                  have n2_ := Aside0.mk (blk_drew BK663.out)
                  have n3_ := Aside0.mk (below_drew1 HB.out)
                  clear HO_5
                  clear BK648
                  clear BK663
                  clear HB
                  have HO_5 := n0_
                  have BK648 := n1_
                  have BK663 := n2_
                  have HB := n3_
                  clear n0_ n1_ n2_ n3_
                  refine start_ (n := 15) (S := fun w' => True) (ds := []) #[false, false, false, false, false, false, false, false, false, false, false, false, false, false, false] (by kernel_rfl) rfl rfl trivial (fun hHeld => ?_); refine with_tabW clochelaw01_DiscsSix.tab19 clochelaw01_DiscsSix.bits19 (fun HT_ HW_ => ?_)
                  generalize wr.drew = w56 at HO_5 BK648 BK663 HB hHeld ⊢
                  refine pure_ (i := 0) (N := some 84) (v := ?_) (a' := ?_) #[true, false, false, false, false, false, false, false, false, false, false, false, false, false, false] rfl rfl (any_of HT_.out (by kernel_rfl)) (fun _ _ _ h => h) (Or.inl ⟨by rfl, ?_⟩) ?_ ?_
                  rotate_left
                  ·intro w'
                   go_simp
                   with_reducible rfl
                  rotate_left
                  ·exact pt_
                  refine pure_ (i := 1) (N := some 85) (v := ?_) (a' := ?_) #[true, true, false, false, false, false, false, false, false, false, false, false, false, false, false] rfl rfl (any_of HT_.out (by kernel_rfl)) (fun _ _ _ h => h) (Or.inl ⟨by rfl, ?_⟩) ?_ ?_
                  rotate_left
                  ·intro w'
                   go_simp
                   with_reducible rfl
                  rotate_left
                  ·exact pt_
                  refine pure_ (i := 2) (N := some 86) (v := undef) (a' := ?_) #[true, true, true, false, false, false, false, false, false, false, false, false, false, false, false] rfl rfl (any_of HT_.out (by kernel_rfl)) (fun _ _ _ h => h) (Or.inr ⟨by rfl, rfl⟩) ?_ ?_
                  rotate_left
                  ·exact pt_
                  refine pure_ (i := 3) (N := some 87) (v := undef) (a' := ?_) #[true, true, true, true, false, false, false, false, false, false, false, false, false, false, false] rfl rfl (any_of HT_.out (by kernel_rfl)) (fun _ _ _ h => h) (Or.inr ⟨by rfl, rfl⟩) ?_ ?_
                  rotate_left
                  ·exact pt_
                  refine pure_ (i := 4) (N := some 88) (v := undef) (a' := ?_) #[true, true, true, true, true, false, false, false, false, false, false, false, false, false, false] rfl rfl (any_of HT_.out (by kernel_rfl)) (fun _ _ _ h => h) (Or.inr ⟨by rfl, rfl⟩) ?_ ?_
                  rotate_left
                  ·exact pt_
                  refine pure_ (i := 5) (N := some 89) (v := undef) (a' := ?_) #[true, true, true, true, true, true, false, false, false, false, false, false, false, false, false] rfl rfl (any_of HT_.out (by kernel_rfl)) (fun _ _ _ h => h) (Or.inr ⟨by rfl, rfl⟩) ?_ ?_
                  rotate_left
                  ·exact pt_
                  refine pure_ (i := 6) (N := some 90) (v := undef) (a' := ?_) #[true, true, true, true, true, true, true, false, false, false, false, false, false, false, false] rfl rfl (any_of HT_.out (by kernel_rfl)) (fun _ _ _ h => h) (Or.inr ⟨by rfl, rfl⟩) ?_ ?_
                  rotate_left
                  ·exact pt_
                  refine pure_ (i := 7) (N := some 91) (v := undef) (a' := ?_) #[true, true, true, true, true, true, true, true, false, false, false, false, false, false, false] rfl rfl (any_of HT_.out (by kernel_rfl)) (fun _ _ _ h => h) (Or.inr ⟨by rfl, rfl⟩) ?_ ?_
                  rotate_left
                  ·exact pt_
                  refine pure_ (i := 8) (N := some 92) (v := undef) (a' := ?_) #[true, true, true, true, true, true, true, true, true, false, false, false, false, false, false] rfl rfl (any_of HT_.out (by kernel_rfl)) (fun _ _ _ h => h) (Or.inr ⟨by rfl, rfl⟩) ?_ ?_
                  rotate_left
                  ·exact pt_
                  refine pure_ (i := 9) (N := some 93) (v := undef) (a' := ?_) #[true, true, true, true, true, true, true, true, true, true, false, false, false, false, false] rfl rfl (any_of HT_.out (by kernel_rfl)) (fun _ _ _ h => h) (Or.inr ⟨by rfl, rfl⟩) ?_ ?_
                  rotate_left
                  ·exact pt_
                  refine pure_ (i := 10) (N := some 94) (v := undef) (a' := ?_) #[true, true, true, true, true, true, true, true, true, true, true, false, false, false, false] rfl rfl (any_of HT_.out (by kernel_rfl)) (fun _ _ _ h => h) (Or.inr ⟨by rfl, rfl⟩) ?_ ?_
                  rotate_left
                  ·exact pt_
                  refine pure_ (i := 11) (N := some 95) (v := undef) (a' := ?_) #[true, true, true, true, true, true, true, true, true, true, true, true, false, false, false] rfl rfl (any_of HT_.out (by kernel_rfl)) (fun _ _ _ h => h) (Or.inr ⟨by rfl, rfl⟩) ?_ ?_
                  rotate_left
                  ·exact pt_
                  refine pure_ (i := 12) (N := some 96) (v := undef) (a' := ?_) #[true, true, true, true, true, true, true, true, true, true, true, true, true, false, false] rfl rfl (any_of HT_.out (by kernel_rfl)) (fun _ _ _ h => h) (Or.inr ⟨by rfl, rfl⟩) ?_ ?_
                  rotate_left
                  ·exact pt_
                  refine pure_ (i := 13) (N := some 97) (v := ?_) (a' := ?_) #[true, true, true, true, true, true, true, true, true, true, true, true, true, true, false] rfl rfl (any_of HT_.out (by kernel_rfl)) (fun _ _ _ h => h) (Or.inl ⟨by rfl, ?_⟩) ?_ ?_
                  rotate_left
                  ·intro w'
                   go_simp
                   with_reducible rfl
                  rotate_left
                  ·exact pt_
                  refine pure_ (i := 14) (N := some 10) (v := ?_) (a' := ?_) #[true, true, true, true, true, true, true, true, true, true, true, true, true, true, true] rfl rfl (any_of HT_.out (by kernel_rfl)) (fun _ _ _ h => h) (Or.inl ⟨by rfl, ?_⟩) ?_ ?_
                  rotate_left
                  ·intro w'
                   go_simp
                   with_reducible rfl
                  rotate_left
                  ·exact pt_
                  refine done_ (done_of HT_.out (by kernel_rfl)) ?_
                  try go_wp2
                  go_roundg k5
                  case measure => have := HJ2.out; have := HJ12.out; have := HJ39.out; have := HK4.out; have := HK5.out; omega
                  case rel => exact ⟨(true), (wrap64 (x11_5 + 1)), eq_, eq_, H', ⟨by have := HJ2.out; have := HJ12.out; have := HJ39.out; have := HK4.out; have := HK5.out; omega⟩, ⟨by refine kr_ ?_; exact HO_5.out⟩, ⟨by refine bs_ ?_; exact BK648.out⟩, ⟨by refine bs_ ?_; exact BK663.out⟩, ⟨by repeat (first | (with_reducible first | exact HB.out | apply below_alloc | apply pw_below_drewN | apply below_drew1 | refine below_set ?_ GE648.out | refine below_set ?_ GE663.out) | exact HB.out)⟩⟩
                 ·replace c54 := Bool.eq_false_iff.mpr c54
                  subst c54
                  have H1 : (if 0 ≤ x11_5 then (if 0 ≤ x9_4 then (if x9_4 < 4 then (clochelaw01_DiscsSix.l1 k5 t651 x9_4 ((rd t651 x11_5) == (Int.tmod (wrap64 ((Int.tmod (at4 t658 t659 t660 t661 x9_4) 24) + 24)) 24)) (wrap64 (x11_5 + 1)) t658 t659 t660 t661) else (none)) else (none)) else (none)) = some r := by rw [if_neg (show ¬ (false = true) by decide)] at H; exact H
                  clear H
                  have H := H1
                  clear H1
                  by_cases c57 : 0 ≤ x11_5
                  ·rw [if_pos c57] at H
                   have c57b0 : decide (0 ≤ x11_5) = true := decide_eq_true c57
                   clear c57
                   by_cases c58 : 0 ≤ x9_4
                   ·rw [if_pos c58] at H
                    have c58b0 : decide (0 ≤ x9_4) = true := decide_eq_true c58
                    clear c58
                    by_cases c59 : x9_4 < 4
                    ·rw [if_pos c59] at H
                     have c59b0 : decide (x9_4 < 4) = true := decide_eq_true c59
                     clear c59
                     have H' := Aside0.mk H
                     clear H
                     obtain ⟨Ao60, co60, eo60⟩ := Kd.R_slice HO_5.out
                     subst eo60
                     try go_wp2
                     have n0_ := Aside0.mk (Kd.R_drew HO_5.out)
                     have n1_ := Aside0.mk (blk_drew BK648.out)
                     have n2_ := Aside0.mk (blk_drew BK663.out)
                     have n3_ := Aside0.mk (below_drew1 HB.out)
                     clear HO_5
                     clear BK648
                     clear BK663
                     clear HB
                     have HO_5 := n0_
                     have BK648 := n1_
                     have BK663 := n2_
                     have HB := n3_
                     clear n0_ n1_ n2_ n3_
                     have p671 : 0 ≤ (x11_5 : Int) := of_decide_eq_true as_
                     have q671 : x11_5 < (t651.length : Int) := of_decide_eq_true as_
                     obtain ⟨ad671, e671, hx671_0⟩ := Kd.at_int (Kd.R_reads' HO_5.out).2.2 x11_5 p671 q671
                     cases e671
                     replace p671 := eq_true p671
                     replace q671 := eq_true q671
                     have pdy62 : 0 ≤ (x9_4 : Int) := of_decide_eq_true as_
                     have qdy62 : (x9_4 : Int) < 4 := of_decide_eq_true as_
                     replace pdy62 := eq_true pdy62
                     replace qdy62 := eq_true qdy62
                     refine start_ (n := 15) (S := fun w' => w'.cell? ⟨gb663, 0, none⟩ = some (.int .i64 t658) ∧ w'.cell? ⟨gb663, 1, none⟩ = some (.int .i64 t659) ∧ w'.cell? ⟨gb663, 2, none⟩ = some (.int .i64 t660) ∧ w'.cell? ⟨gb663, 3, none⟩ = some (.int .i64 t661) ∧ w'.cell? ⟨gb663, (x9_4 : Int).toNat, none⟩ = some (.int .i64 (at4 t658 t659 t660 t661 x9_4)) ∧ w'.cell? (ad671.add (x11_5).toNat) = some (.int .i64 (rd t651 x11_5))) (ds := []) #[false, false, false, false, false, false, false, false, false, false, false, false, false, false, false] (by kernel_rfl) rfl rfl ⟨(blk_cell BK663.out 0).trans rfl, (blk_cell BK663.out 1).trans rfl, (blk_cell BK663.out 2).trans rfl, (blk_cell BK663.out 3).trans rfl, blk_at4 BK663.out (of_eq_true pdy62) (of_eq_true qdy62), hx671_0⟩ (fun hHeld => ?_); refine with_tabW clochelaw01_DiscsSix.tab19 clochelaw01_DiscsSix.bits19 (fun HT_ HW_ => ?_)
                     generalize wr.drew = w61 at HO_5 BK648 BK663 HB hx671_0 hHeld ⊢
                     refine pure_ (i := 0) (N := some 84) (v := ?_) (a' := ?_) #[true, false, false, false, false, false, false, false, false, false, false, false, false, false, false] rfl rfl (any_of HT_.out (by kernel_rfl)) (fun _ _ _ h => h) (Or.inl ⟨by rfl, ?_⟩) ?_ ?_
                     rotate_left
                     ·intro w'
                      go_simp
                      with_reducible rfl
                     rotate_left
                     ·exact pt_
                     refine pure_ (i := 1) (N := some 85) (v := ?_) (a' := ?_) #[true, true, false, false, false, false, false, false, false, false, false, false, false, false, false] rfl rfl (any_of HT_.out (by kernel_rfl)) (fun _ _ _ h => h) (Or.inl ⟨by rfl, ?_⟩) ?_ ?_
                     rotate_left
                     ·intro w'
                      go_simp
                      with_reducible rfl
                     rotate_left
                     ·exact pt_
                     refine pure_ (i := 2) (N := some 86) (v := ?_) (a' := ?_) #[true, true, true, false, false, false, false, false, false, false, false, false, false, false, false] rfl rfl (any_of HT_.out (by kernel_rfl)) (fun _ _ _ h => h) (Or.inl ⟨by rfl, ?_⟩) ?_ ?_
                     rotate_left
                     ·intro w'
                      go_simp
                      with_reducible rfl
                     rotate_left
                     ·exact pt_
                     refine pure_ (i := 3) (N := some 87) (v := ?_) (a' := ?_) #[true, true, true, true, false, false, false, false, false, false, false, false, false, false, false] rfl rfl (any_of HT_.out (by kernel_rfl)) (fun _ _ _ h => h) (Or.inl ⟨by rfl, ?_⟩) ?_ ?_
                     rotate_left
                     ·intro w'
                      go_simp
                      with_reducible rfl
                     rotate_left
                     ·exact pt_
                     refine pure_ (i := 4) (N := some 88) (v := ?_) (a' := ?_) #[true, true, true, true, true, false, false, false, false, false, false, false, false, false, false] rfl rfl (any_of HT_.out (by kernel_rfl)) (fun _ _ _ h => h) (Or.inl ⟨by rfl, ?_⟩) ?_ ?_
                     rotate_left
                     ·intro w'
                      go_simp
                      with_reducible rfl
                     rotate_left
                     ·exact pt_
                     refine pure_ (i := 6) (N := some 90) (v := ?_) (a' := ?_) #[true, true, true, true, true, false, true, false, false, false, false, false, false, false, false] rfl rfl (any_of HT_.out (by kernel_rfl)) (fun _ _ _ h => h) (Or.inl ⟨by rfl, ?_⟩) ?_ ?_
                     rotate_left
                     ·intro w'
                      go_simp
                      with_reducible rfl
                     rotate_left
                     ·exact pt_
                     refine pure_ (i := 7) (N := some 91) (v := ?_) (a' := ?_) #[true, true, true, true, true, false, true, true, false, false, false, false, false, false, false] rfl rfl (any_of HT_.out (by kernel_rfl)) (fun _ _ _ h => h) (Or.inl ⟨by rfl, ?_⟩) ?_ ?_
                     rotate_left
                     ·intro w'
                      go_simp
                      with_reducible rfl
                     rotate_left
                     ·exact pt_
                     refine take_ (i := 5) (N := some 89) (v := ?_) (a' := ?_) #[true, true, true, true, true, true, true, true, false, false, false, false, false, false, false] rfl rfl (take_ofW HT_.out HW_.out (by kernel_rfl)) (fun _ _ _ h => h) (Or.inl ⟨by rfl, ?_⟩) hHeld ?_ ?_
                     rotate_left
                     ·rintro w' ⟨s0, s1, s2, s3, s4, s5⟩
                      go_simp
                      with_reducible rfl
                     rotate_left
                     ·exact pt_
                     refine take_ (i := 8) (N := some 92) (v := ?_) (a' := ?_) #[true, true, true, true, true, true, true, true, true, false, false, false, false, false, false] rfl rfl (take_ofW HT_.out HW_.out (by kernel_rfl)) (fun _ _ _ h => h) (Or.inl ⟨by rfl, ?_⟩) hHeld ?_ ?_
                     rotate_left
                     ·rintro w' ⟨s0, s1, s2, s3, s4, s5⟩
                      go_simp
                      with_reducible rfl
                     rotate_left
                     ·exact pt_
                     refine pure_ (i := 9) (N := some 93) (v := ?_) (a' := ?_) #[true, true, true, true, true, true, true, true, true, true, false, false, false, false, false] rfl rfl (any_of HT_.out (by kernel_rfl)) (fun _ _ _ h => h) (Or.inl ⟨by rfl, ?_⟩) ?_ ?_
                     rotate_left
                     ·intro w'
                      go_simp
                      with_reducible rfl
                     rotate_left
                     ·exact pt_
                     refine pure_ (i := 10) (N := some 94) (v := ?_) (a' := ?_) #[true, true, true, true, true, true, true, true, true, true, true, false, false, false, false] rfl rfl (any_of HT_.out (by kernel_rfl)) (fun _ _ _ h => h) (Or.inl ⟨by rfl, ?_⟩) ?_ ?_
                     rotate_left
                     ·intro w'
                      go_simp
                      with_reducible rfl
                     rotate_left
                     ·exact pt_
                     refine pure_ (i := 11) (N := some 95) (v := ?_) (a' := ?_) #[true, true, true, true, true, true, true, true, true, true, true, true, false, false, false] rfl rfl (any_of HT_.out (by kernel_rfl)) (fun _ _ _ h => h) (Or.inl ⟨by rfl, ?_⟩) ?_ ?_
                     rotate_left
                     ·intro w'
                      go_simp
                      with_reducible rfl
                     rotate_left
                     ·exact pt_
                     refine pure_ (i := 12) (N := some 96) (v := ?_) (a' := ?_) #[true, true, true, true, true, true, true, true, true, true, true, true, true, false, false] rfl rfl (any_of HT_.out (by kernel_rfl)) (fun _ _ _ h => h) (Or.inl ⟨by rfl, ?_⟩) ?_ ?_
                     rotate_left
                     ·intro w'
                      go_simp
                      with_reducible rfl
                     rotate_left
                     ·exact pt_
                     refine pure_ (i := 13) (N := some 97) (v := ?_) (a' := ?_) #[true, true, true, true, true, true, true, true, true, true, true, true, true, true, false] rfl rfl (any_of HT_.out (by kernel_rfl)) (fun _ _ _ h => h) (Or.inl ⟨by rfl, ?_⟩) ?_ ?_
                     rotate_left
                     ·intro w'
                      go_simp
                      with_reducible rfl
                     rotate_left
                     ·exact pt_
                     refine pure_ (i := 14) (N := some 10) (v := ?_) (a' := ?_) #[true, true, true, true, true, true, true, true, true, true, true, true, true, true, true] rfl rfl (any_of HT_.out (by kernel_rfl)) (fun _ _ _ h => h) (Or.inl ⟨by rfl, ?_⟩) ?_ ?_
                     rotate_left
                     ·intro w'
                      go_simp
                      with_reducible rfl
                     rotate_left
                     ·exact pt_
                     refine done_ (done_of HT_.out (by kernel_rfl)) ?_
                     try go_wp2
                     go_roundg k5
                     case measure => have := HJ2.out; have := HJ12.out; have := HJ39.out; have := HK4.out; have := HK5.out; omega
                     case rel => exact ⟨(((rd t651 x11_5) == (Int.tmod (wrap64 ((Int.tmod (at4 t658 t659 t660 t661 x9_4) 24) + 24)) 24))), (wrap64 (x11_5 + 1)), eq_, eq_, H', ⟨by have := HJ2.out; have := HJ12.out; have := HJ39.out; have := HK4.out; have := HK5.out; omega⟩, ⟨by refine kr_ ?_; exact HO_5.out⟩, ⟨by refine bs_ ?_; exact BK648.out⟩, ⟨by refine bs_ ?_; exact BK663.out⟩, ⟨by repeat (first | (with_reducible first | exact HB.out | apply below_alloc | apply pw_below_drewN | apply below_drew1 | refine below_set ?_ GE648.out | refine below_set ?_ GE663.out) | exact HB.out)⟩⟩
                    ·rw [if_neg c59] at H
                     exact absurd H (by simp)
                   ·rw [if_neg c58] at H
                    exact absurd H (by simp)
                  ·rw [if_neg c57] at H
                   exact absurd H (by simp)
                ·rw [if_neg c53] at H
                 have c53b0 : decide (x11_5 < (t651.length : Int)) = false := decide_eq_false c53
                 clear c53
                 by_cases c63 : x10_5 = true
                 ·subst c63
                  have H1 : (clochelaw01_DiscsSix.l0 k5 t651 (wrap64 (x9_4 + 1)) t658 t659 t660 t661) = some r := by rw [if_pos rfl] at H; exact H
                  clear H
                  have H := H1
                  clear H1
                  have H' := Aside0.mk H
                  clear H
                  obtain ⟨Ao64, co64, eo64⟩ := Kd.R_slice HO_5.out
                  subst eo64
                  go_wp2
                  go_roundg k5
                  case measure => have := HJ2.out; have := HJ12.out; have := HJ39.out; have := HK4.out; have := HK5.out; omega
                  case rel => exact ⟨(wrap64 (x9_4 + 1)), eq_, H', ⟨by have := HJ2.out; have := HJ12.out; have := HJ39.out; have := HK4.out; have := HK5.out; omega⟩, ⟨by refine kr_ ?_; exact HO_5.out⟩, ⟨by refine bs_ ?_; exact BK648.out⟩, ⟨by refine bs_ ?_; exact BK663.out⟩, ⟨by repeat (first | (with_reducible first | exact HB.out | apply below_alloc | apply pw_below_drewN | apply below_drew1 | refine below_set ?_ GE648.out | refine below_set ?_ GE663.out) | exact HB.out)⟩⟩
                 ·replace c63 := Bool.eq_false_iff.mpr c63
                  subst c63
                  have H1 : (none) = some r := by rw [if_neg (show ¬ (false = true) by decide)] at H; exact H
                  clear H
                  have H := H1
                  clear H1
                  exact absurd H (by simp)
             ·rw [if_neg c52] at H
              have c52b0 : decide (x9_4 < 4) = false := decide_eq_false c52
              clear c52
              replace H := Option.bind_eq_some_iff.mp H
              obtain ⟨t670, A650, H⟩ := H
              replace H : (some t670) = some r := H
              have A65 := Aside0.mk A650
              clear A650
              obtain rfl := Option.some.inj H
              go_wp2_with (first | ((with_reducible refine gate_callee (f := 19) rfl ?_); refine goesL_ (some 100) rfl rfl Try.func19 (by kernel_rfl) rfl #[] rfl mp_ ?_; (with_reducible refine (clochelaw01_alive.calls k4  t670 _ A65.out).mono ?_); rintro e w66 ⟨rfl, hb⟩; refine ⟨_, rfl, ?_⟩; have n0_ := Aside0.mk (Kd.R_below (by refine kr_ ?_; exact HO_5.out) hb); have n1_ := Aside0.mk (blk_below (g := gb648) (o := .cells #[.int .i64 a0_0, .int .i64 a0_1, .int .i64 a0_2, .int .i64 a0_3] 23 (0, 0)) (by refine bs_ ?_; exact BK648.out) hb); have n2_ := Aside0.mk (blk_below (g := gb663) (o := .cells #[.int .i64 t658, .int .i64 t659, .int .i64 t660, .int .i64 t661] 23 (0, 0)) (by refine bs_ ?_; exact BK663.out) hb); have n3_ := Aside0.mk (below_step (by repeat (first | (with_reducible first | exact HB.out | apply below_alloc | apply pw_below_drewN | apply below_drew1 | refine below_set ?_ GE648.out | refine below_set ?_ GE663.out) | exact HB.out)) hb); clear HO_5; clear BK648; clear BK663; clear HB; have HO_5 := n0_; have BK648 := n1_; have BK663 := n2_; have HB := n3_; clear n0_ n1_ n2_ n3_; (try clear hb); (try clear hb2); (try clear hk); (try clear hi)))
              go_ret
              exact ⟨by first | rfl | (simp [errW_none, errW_some] <;> rfl) | (simp [*, errW_none, errW_some] <;> rfl), by repeat (first | (with_reducible first | exact HB.out | apply below_alloc | apply pw_below_drewN | apply below_drew1 | refine below_set ?_ GE648.out | refine below_set ?_ GE663.out) | exact HB.out)⟩
       ·rw [if_neg c38] at H
        have c38b0 : (t662 == 0) = false := beq_eq_false_iff_ne.mpr c38
        have c38b1 : (t662 != 0) = true := bne_iff_ne.mpr c38
        replace H := Option.bind_eq_some_iff.mp H
        obtain ⟨t664, A670, H⟩ := H
        replace H : (some t664) = some r := H
        have A67 := Aside0.mk A670
        clear A670
        obtain rfl := Option.some.inj H
        have hcz68_0 : wc.cell? ⟨gb648, 0, none⟩ = some (.int .i64 a0_0) := (blk_cell BK648.out 0).trans rfl
        have hcz68_1 : wc.cell? ⟨gb648, 1, none⟩ = some (.int .i64 a0_1) := (blk_cell BK648.out 1).trans rfl
        have hcz68_2 : wc.cell? ⟨gb648, 2, none⟩ = some (.int .i64 a0_2) := (blk_cell BK648.out 2).trans rfl
        have hcz68_3 : wc.cell? ⟨gb648, 3, none⟩ = some (.int .i64 a0_3) := (blk_cell BK648.out 3).trans rfl
        have hfz68_0 := blk_frozen BK648.out 0
        have hfz68_1 := blk_frozen BK648.out 1
        have hfz68_2 := blk_frozen BK648.out 2
        have hfz68_3 := blk_frozen BK648.out 3
        go_wp2_with (first | ((with_reducible refine gate_callee (f := 36) rfl ?_); refine goesL_ (some 55) rfl rfl Try.func36 (by kernel_rfl) rfl #[.agg #[.int .i64 a0_0, .int .i64 a0_1, .int .i64 a0_2, .int .i64 a0_3], .slice A1 l1.length c1] rfl mp_ ?_; (with_reducible refine (discs_Turns.calls kj12 a0_0 a0_1 a0_2 a0_3 _ _ l1 t658 t659 t660 t661 t662 _ ?side1 ?side2 A37.out).mono ?_); (case side1 => repeat (first | exact (Kd.C_below HR1.out HB.out) | (with_reducible refine Kd.C_alloc ?_ _) | (with_reducible refine Kd.C_drewN ?_ _) | (with_reducible refine Kd.C_drew ?_))); (case side2 => exact HC1.out); rintro e w69 ⟨rfl, hb⟩; refine ⟨_, rfl, ?_⟩; have n0_ := Aside0.mk (Kd.R_below (by refine kr_ ?_; exact HO_5.out) hb); have n1_ := Aside0.mk (blk_below (g := gb648) (o := .cells #[.int .i64 a0_0, .int .i64 a0_1, .int .i64 a0_2, .int .i64 a0_3] 23 (0, 0)) (by refine bs_ ?_; exact BK648.out) hb); have n2_ := Aside0.mk (below_step (by repeat (first | (with_reducible first | exact HB.out | apply below_alloc | apply pw_below_drewN | apply below_drew1 | refine below_set ?_ GE648.out) | exact HB.out)) hb); clear HO_5; clear BK648; clear HB; have HO_5 := n0_; have BK648 := n1_; have HB := n2_; clear n0_ n1_ n2_; (try clear hb); (try clear hb2); (try clear hk); (try clear hi)) | ((with_reducible refine gate_dst (N := 7) rfl ?_); (try (refine gate_guard (by rfl) ?_; dsimp only)); refine box_event ?hg (N := 7) ?hd (cs := #[.int .i64 0, .int .i64 0, .int .i64 0, .int .i64 0]) (t := 23) ?hr ?_; (case hd => rfl); (case hg => rfl); (case hr => exact gs_); intro gb663 hg w70 hbox hb; have n0_ := Aside0.mk (Kd.R_below (by refine kr_ ?_; exact HO_5.out) hb); have n1_ := Aside0.mk (blk_below (g := gb648) (o := .cells #[.int .i64 a0_0, .int .i64 a0_1, .int .i64 a0_2, .int .i64 a0_3] 23 (0, 0)) (by refine bs_ ?_; exact BK648.out) hb); have n2_ := Aside0.mk (below_step (by repeat (first | (with_reducible first | exact HB.out | apply below_alloc | apply pw_below_drewN | apply below_drew1 | refine below_set ?_ GE648.out) | exact HB.out)) hb); have n3_ := Aside0.mk (hbox); have n4_ := Aside0.mk ((by rw [hg]; exact (below_size (by repeat (first | (with_reducible first | exact HB.out | apply below_alloc | apply pw_below_drewN | apply below_drew1 | refine below_set ?_ GE648.out) | exact HB.out))) : w.heap.size ≤ gb663)); have n5_ := Aside0.mk ((by rw [hg]; exact (below_size (by repeat (first | (with_reducible first | exact HB.out | apply below_alloc | apply pw_below_drewN | apply below_drew1 | refine below_set ?_ GE648.out) | exact HB.out))) : w.heap.size ≤ gb663)); have n6_ := Aside0.mk ((by rw [hg]; exact Nat.ne_of_lt (blk_lt (g := gb648) (o := .cells #[.int .i64 a0_0, .int .i64 a0_1, .int .i64 a0_2, .int .i64 a0_3] 23 (0, 0)) (by refine bs_ ?_; exact BK648.out)) : gb648 ≠ gb663)); have n7_ := Aside0.mk ((by rw [hg]; exact Nat.ne_of_gt (blk_lt (g := gb648) (o := .cells #[.int .i64 a0_0, .int .i64 a0_1, .int .i64 a0_2, .int .i64 a0_3] 23 (0, 0)) (by refine bs_ ?_; exact BK648.out)) : gb663 ≠ gb648)); clear HO_5; clear BK648; clear HB; have HO_5 := n0_; have BK648 := n1_; have HB := n2_; have BK663 := n3_; have GW663 := n4_; have GE663 := n5_; have NB648_663 := n6_; have NB663_648 := n7_; clear n0_ n1_ n2_ n3_ n4_ n5_ n6_ n7_; clear hb hbox hg; have hnb71 := NB663_648.out; have hnc71 := NB648_663.out; have hcz72_0 : w70.cell? ⟨gb663, 0, none⟩ = some (.int .i64 0) := (blk_cell BK663.out 0).trans rfl; have hcz72_1 : w70.cell? ⟨gb663, 1, none⟩ = some (.int .i64 0) := (blk_cell BK663.out 1).trans rfl; have hcz72_2 : w70.cell? ⟨gb663, 2, none⟩ = some (.int .i64 0) := (blk_cell BK663.out 2).trans rfl; have hcz72_3 : w70.cell? ⟨gb663, 3, none⟩ = some (.int .i64 0) := (blk_cell BK663.out 3).trans rfl; have hfz72_0 := blk_frozen BK663.out 0; have hfz72_1 := blk_frozen BK663.out 1; have hfz72_2 := blk_frozen BK663.out 2; have hfz72_3 := blk_frozen BK663.out 3) | ((with_reducible refine gate_callee (f := 19) rfl ?_); refine goesL_ (some 60) rfl rfl Try.func19 (by kernel_rfl) rfl #[] rfl mp_ ?_; (with_reducible refine (clochelaw01_alive.calls kj12  t664 _ A67.out).mono ?_); rintro e w73 ⟨rfl, hb⟩; refine ⟨_, rfl, ?_⟩; have n0_ := Aside0.mk (Kd.R_below (by refine kr_ ?_; exact (Kd.R_mono (Kd.R_far (p := ⟨gb663, 3, none⟩) (Kd.R_far (p := ⟨gb663, 2, none⟩) (Kd.R_far (p := ⟨gb663, 1, none⟩) (Kd.R_far (p := ⟨gb663, 0, none⟩) (Kd.R_types HO_5.out BK663.out (by decide)) (fun _ hk => hk.2) (.int .i64 t658)) (fun _ hk => hk.2) (.int .i64 t659)) (fun _ hk => hk.2) (.int .i64 t660)) (fun _ hk => hk.2) (.int .i64 t661)) (fun _ h_ => h_.1))) hb); have n1_ := Aside0.mk (blk_below (g := gb648) (o := .cells #[.int .i64 a0_0, .int .i64 a0_1, .int .i64 a0_2, .int .i64 a0_3] 23 (0, 0)) (by refine bs_ ?_; refine blk_far ?_ NB648_663.out _; refine bs_ ?_; refine blk_far ?_ NB648_663.out _; refine bs_ ?_; refine blk_far ?_ NB648_663.out _; refine bs_ ?_; refine blk_far ?_ NB648_663.out _; refine bs_ ?_; exact BK648.out) hb); have n2_ := Aside0.mk (blk_below (g := gb663) (o := .cells #[.int .i64 t658, .int .i64 t659, .int .i64 t660, .int .i64 t661] 23 (0, 0)) (by refine bs_ ?_; refine blk_put (cs := #[.int .i64 t658, .int .i64 t659, .int .i64 t660, .int .i64 0]) ?_ 3 _ rfl; refine bs_ ?_; refine blk_put (cs := #[.int .i64 t658, .int .i64 t659, .int .i64 0, .int .i64 0]) ?_ 2 _ rfl; refine bs_ ?_; refine blk_put (cs := #[.int .i64 t658, .int .i64 0, .int .i64 0, .int .i64 0]) ?_ 1 _ rfl; refine bs_ ?_; refine blk_put (cs := #[.int .i64 0, .int .i64 0, .int .i64 0, .int .i64 0]) ?_ 0 _ rfl; refine bs_ ?_; exact BK663.out) hb); have n3_ := Aside0.mk (below_step (by repeat (first | (with_reducible first | exact HB.out | apply below_alloc | apply pw_below_drewN | apply below_drew1 | refine below_set ?_ GE648.out | refine below_set ?_ GE663.out) | exact HB.out)) hb); clear HO_5; clear BK648; clear BK663; clear HB; have HO_5 := n0_; have BK648 := n1_; have BK663 := n2_; have HB := n3_; clear n0_ n1_ n2_ n3_; (try clear hb); (try clear hb2); (try clear hk); (try clear hi)))
        go_ret
        exact ⟨by first | rfl | (simp [errW_none, errW_some] <;> rfl) | (simp [*, errW_none, errW_some] <;> rfl), by repeat (first | (with_reducible first | exact HB.out | apply below_alloc | apply pw_below_drewN | apply below_drew1 | refine below_set ?_ GE648.out | refine below_set ?_ GE663.out) | exact HB.out)⟩

end Go.Proofs.Ytlfmafebmnggeaa.Print
