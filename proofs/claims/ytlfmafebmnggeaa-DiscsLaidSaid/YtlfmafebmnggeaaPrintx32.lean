/- What the functions of the discs compute, printed by this repo's hand printer. -/
import Derived.Test.YtlfmafebmnggeaaShort
import Derived.Test.YtlfmafebmnggeaaPrintx0
import Derived.Test.YtlfmafebmnggeaaPrintx21
import Derived.Test.YtlfmafebmnggeaaPrintx31
namespace Go.Proofs.Ytlfmafebmnggeaa.Print
open Go.RowKit Go.Proofs.YtlfmafebmnggeaaW.PrintWords Go.Proofs.YtlfmafebmnggeaaW.PrintLast Go.Proofs.YtlfmafebmnggeaaW.PrintMore
attribute [local go_sem] max2_int min2_int max_two min_two max_three min_three max_four min_four
set_option maxHeartbeats 8000000 -- slim
set_option maxRecDepth 100000
set_option linter.unusedVariables false
set_option linter.unusedSimpArgs false

/-! ### clocheref01_Discs: function 23 -/
mutual
def clocheref01_Discs.j0 : Nat → Int → Int → Bool → Int → Int → Int → Int → Option (List Int × Int)
 | 0, _, _, _, _, _, _, _ => none
 | k + 1, x1, x8, x31, x620000, x620001, x620002, x620003 => if x31 = true then (clocheref01_Discs.j1 k x1 2 x620000 x620001 x620002 x620003) else (clocheref01_Discs.j1 k x1 x8 x620000 x620001 x620002 x620003)
def clocheref01_Discs.j1 : Nat → Int → Int → Int → Int → Int → Int → Option (List Int × Int)
 | 0, _, _, _, _, _, _ => none
 | k + 1, x1, x8, x620000, x620001, x620002, x620003 => if x8 = 0 then (clocheref01_Discs.j2 k x1 x8 (x620000 == 0) x620000 x620001 x620002 x620003) else (clocheref01_Discs.j2 k x1 x8 false x620000 x620001 x620002 x620003)
def clocheref01_Discs.j2 : Nat → Int → Int → Bool → Int → Int → Int → Int → Option (List Int × Int)
 | 0, _, _, _, _, _, _, _ => none
 | k + 1, x1, x8, x38, x620000, x620001, x620002, x620003 => if x38 = true then (clocheref01_Discs.j3 k x1 9 x620000 x620001 x620002 x620003) else (clocheref01_Discs.j3 k x1 x8 x620000 x620001 x620002 x620003)
def clocheref01_Discs.j3 : Nat → Int → Int → Int → Int → Int → Int → Option (List Int × Int)
 | 0, _, _, _, _, _, _ => none
 | k + 1, x1, x8, x620000, x620001, x620002, x620003 => if x8 = 0 then (if 0 ≤ (wrap64 (x1 + 1)) then (if (wrap64 (x1 + 1) : Int).toNat ≤ 35184372088832 then ((clocheref01_tally.f k x620000 x620001 x620002 x620003 (-1) x1 (List.replicate (wrap64 (x1 + 1) : Int).toNat 0)).bind fun t623 => (clocheref01_Discs.l0 k x1 t623 (([] : List Int)) 0 x620000 x620001 x620002 x620003)) else (none)) else (none)) else (some (([] : List Int), x8))
def clocheref01_Discs.l0 : Nat → Int → List Int → List Int → Int → Int → Int → Int → Int → Option (List Int × Int)
 | 0, _, _, _, _, _, _, _, _ => none
 | k + 1, x1, x9, x10, x11, x620000, x620001, x620002, x620003 => if x11 < 4 then (if 0 ≤ x11 then (if (at4 x620000 x620001 x620002 x620003 x11) < 0 then (if x10.length < 17592186044416 then (clocheref01_Discs.l0 k x1 x9 (x10 ++ [at4 x620000 x620001 x620002 x620003 x11]) (wrap64 (x11 + 1)) x620000 x620001 x620002 x620003) else (none)) else (if (at4 x620000 x620001 x620002 x620003 x11) ≤ x1 then (if 0 ≤ (at4 x620000 x620001 x620002 x620003 x11) then (if (at4 x620000 x620001 x620002 x620003 x11) < (x9.length : Int) then (clocheref01_Discs.l0 k x1 (x9.set ((at4 x620000 x620001 x620002 x620003 x11) : Int).toNat (wrap64 ((rd x9 (at4 x620000 x620001 x620002 x620003 x11)) + 1))) x10 (wrap64 (x11 + 1)) x620000 x620001 x620002 x620003) else (none)) else (none)) else (clocheref01_Discs.l0 k x1 x9 x10 (wrap64 (x11 + 1)) x620000 x620001 x620002 x620003))) else (none)) else (clocheref01_Discs.l1 k x1 x9 x10 (x10.length : Int) 0)
def clocheref01_Discs.l1 : Nat → Int → List Int → List Int → Int → Int → Option (List Int × Int)
 | 0, _, _, _, _, _ => none
 | k + 1, x1, x9, x10, x12, x13 => if x13 ≤ x1 then (if 0 ≤ x13 then (if x13 < (x9.length : Int) then (clocheref01_Discs.l1 k x1 x9 x10 (wrap64 (x12 + (rd x9 x13))) (wrap64 (x13 + 1))) else (none)) else (none)) else (if x12 > 20000 then (some (([] : List Int), 8)) else (clocheref01_Discs.l2 k x1 x9 x10 0))
def clocheref01_Discs.l2 : Nat → Int → List Int → List Int → Int → Option (List Int × Int)
 | 0, _, _, _, _ => none
 | k + 1, x1, x9, x10, x14 => if x14 ≤ x1 then (clocheref01_Discs.l3 k x1 x9 x10 x14 0) else (some (x10, 0))
def clocheref01_Discs.l3 : Nat → Int → List Int → List Int → Int → Int → Option (List Int × Int)
 | 0, _, _, _, _, _ => none
 | k + 1, x1, x9, x10, x14, x15 => if 0 ≤ x14 then (if x14 < (x9.length : Int) then (if x15 < (rd x9 x14) then (if x10.length < 17592186044416 then (clocheref01_Discs.l3 k x1 x9 (x10 ++ [x14]) x14 (wrap64 (x15 + 1))) else (none)) else (clocheref01_Discs.l2 k x1 x9 x10 (wrap64 (x14 + 1)))) else (none)) else (none)
end
def clocheref01_Discs.f (k : Nat) (a0_0 : Int) (a0_1 : Int) (a0_2 : Int) (a0_3 : Int) (a1 : Int) : Option (List Int × Int) := (clocheref01_Root.f k a0_0 a0_1 a0_2 a0_3).bind fun bt613 => (if bt613.2.2.2.2.2 = 0 then (if a1 < 1 then (clocheref01_Discs.j0 k a1 bt613.2.2.2.2.2 true bt613.1 bt613.2.1 bt613.2.2.1 bt613.2.2.2.1) else (clocheref01_Discs.j0 k a1 bt613.2.2.2.2.2 (decide (a1 > 3000)) bt613.1 bt613.2.1 bt613.2.2.1 bt613.2.2.2.1)) else (clocheref01_Discs.j0 k a1 bt613.2.2.2.2.2 false bt613.1 bt613.2.1 bt613.2.2.1 bt613.2.2.2.1))
theorem clocheref01_Discs.mono_l : ∀ k, (∀ y0 y1 y2 y3 y4 y5 y6, LeO (clocheref01_Discs.j0 k y0 y1 y2 y3 y4 y5 y6) (clocheref01_Discs.j0 (k + 1) y0 y1 y2 y3 y4 y5 y6)) ∧ (∀ y0 y1 y2 y3 y4 y5, LeO (clocheref01_Discs.j1 k y0 y1 y2 y3 y4 y5) (clocheref01_Discs.j1 (k + 1) y0 y1 y2 y3 y4 y5)) ∧ (∀ y0 y1 y2 y3 y4 y5 y6, LeO (clocheref01_Discs.j2 k y0 y1 y2 y3 y4 y5 y6) (clocheref01_Discs.j2 (k + 1) y0 y1 y2 y3 y4 y5 y6)) ∧ (∀ y0 y1 y2 y3 y4 y5, LeO (clocheref01_Discs.j3 k y0 y1 y2 y3 y4 y5) (clocheref01_Discs.j3 (k + 1) y0 y1 y2 y3 y4 y5)) ∧ (∀ y0 y1 y2 y3 y4 y5 y6 y7, LeO (clocheref01_Discs.l0 k y0 y1 y2 y3 y4 y5 y6 y7) (clocheref01_Discs.l0 (k + 1) y0 y1 y2 y3 y4 y5 y6 y7)) ∧ (∀ y0 y1 y2 y3 y4, LeO (clocheref01_Discs.l1 k y0 y1 y2 y3 y4) (clocheref01_Discs.l1 (k + 1) y0 y1 y2 y3 y4)) ∧ (∀ y0 y1 y2 y3, LeO (clocheref01_Discs.l2 k y0 y1 y2 y3) (clocheref01_Discs.l2 (k + 1) y0 y1 y2 y3)) ∧ (∀ y0 y1 y2 y3 y4, LeO (clocheref01_Discs.l3 k y0 y1 y2 y3 y4) (clocheref01_Discs.l3 (k + 1) y0 y1 y2 y3 y4))
 | 0 => ⟨fun _ _ _ _ _ _ _ r h => by simp [clocheref01_Discs.j0] at h, fun _ _ _ _ _ _ r h => by simp [clocheref01_Discs.j1] at h, fun _ _ _ _ _ _ _ r h => by simp [clocheref01_Discs.j2] at h, fun _ _ _ _ _ _ r h => by simp [clocheref01_Discs.j3] at h, fun _ _ _ _ _ _ _ _ r h => by simp [clocheref01_Discs.l0] at h, fun _ _ _ _ _ r h => by simp [clocheref01_Discs.l1] at h, fun _ _ _ _ r h => by simp [clocheref01_Discs.l2] at h, fun _ _ _ _ _ r h => by simp [clocheref01_Discs.l3] at h⟩
 | k + 1 => by
  obtain ⟨ih0, ih1, ih2, ih3, ih4, ih5, ih6, ih7⟩ := clocheref01_Discs.mono_l k
  refine ⟨?_, ?_, ?_, ?_, ?_, ?_, ?_, ?_⟩
  ·intro y0 y1 y2 y3 y4 y5 y6
   unfold clocheref01_Discs.j0
   repeat' first
   | (with_reducible exact ih0 _ _ _ _ _ _ _)
   | (with_reducible exact ih1 _ _ _ _ _ _)
   | (with_reducible exact ih2 _ _ _ _ _ _ _)
   | (with_reducible exact ih3 _ _ _ _ _ _)
   | (with_reducible exact ih4 _ _ _ _ _ _ _ _)
   | (with_reducible exact ih5 _ _ _ _ _)
   | (with_reducible exact ih6 _ _ _ _)
   | (with_reducible exact ih7 _ _ _ _ _)
   | (with_reducible exact clocheref01_Root.mono _ _ _ _ _)
   | (with_reducible exact clocheref01_tally.mono _ _ _ _ _ _ _ _)
   | (with_reducible exact LeO.refl _)
   | (with_reducible exact LeO.none _)
   | (with_reducible refine LeO.ite ?_ ?_)
   | (with_reducible refine LeO.bind ?_ (fun _ => ?_))
   | exact ih0 _ _ _ _ _ _ _
   | exact ih1 _ _ _ _ _ _
   | exact ih2 _ _ _ _ _ _ _
   | exact ih3 _ _ _ _ _ _
   | exact ih4 _ _ _ _ _ _ _ _
   | exact ih5 _ _ _ _ _
   | exact ih6 _ _ _ _
   | exact ih7 _ _ _ _ _
   | exact clocheref01_Root.mono _ _ _ _ _
   | exact clocheref01_tally.mono _ _ _ _ _ _ _ _
   | exact LeO.none _
   | refine LeO.ite ?_ ?_
   | refine LeO.bind ?_ (fun _ => ?_)
  ·intro y0 y1 y2 y3 y4 y5
   unfold clocheref01_Discs.j1
   repeat' first
   | (with_reducible exact ih0 _ _ _ _ _ _ _)
   | (with_reducible exact ih1 _ _ _ _ _ _)
   | (with_reducible exact ih2 _ _ _ _ _ _ _)
   | (with_reducible exact ih3 _ _ _ _ _ _)
   | (with_reducible exact ih4 _ _ _ _ _ _ _ _)
   | (with_reducible exact ih5 _ _ _ _ _)
   | (with_reducible exact ih6 _ _ _ _)
   | (with_reducible exact ih7 _ _ _ _ _)
   | (with_reducible exact clocheref01_Root.mono _ _ _ _ _)
   | (with_reducible exact clocheref01_tally.mono _ _ _ _ _ _ _ _)
   | (with_reducible exact LeO.refl _)
   | (with_reducible exact LeO.none _)
   | (with_reducible refine LeO.ite ?_ ?_)
   | (with_reducible refine LeO.bind ?_ (fun _ => ?_))
   | exact ih0 _ _ _ _ _ _ _
   | exact ih1 _ _ _ _ _ _
   | exact ih2 _ _ _ _ _ _ _
   | exact ih3 _ _ _ _ _ _
   | exact ih4 _ _ _ _ _ _ _ _
   | exact ih5 _ _ _ _ _
   | exact ih6 _ _ _ _
   | exact ih7 _ _ _ _ _
   | exact clocheref01_Root.mono _ _ _ _ _
   | exact clocheref01_tally.mono _ _ _ _ _ _ _ _
   | exact LeO.none _
   | refine LeO.ite ?_ ?_
   | refine LeO.bind ?_ (fun _ => ?_)
  ·intro y0 y1 y2 y3 y4 y5 y6
   unfold clocheref01_Discs.j2
   repeat' first
   | (with_reducible exact ih0 _ _ _ _ _ _ _)
   | (with_reducible exact ih1 _ _ _ _ _ _)
   | (with_reducible exact ih2 _ _ _ _ _ _ _)
   | (with_reducible exact ih3 _ _ _ _ _ _)
   | (with_reducible exact ih4 _ _ _ _ _ _ _ _)
   | (with_reducible exact ih5 _ _ _ _ _)
   | (with_reducible exact ih6 _ _ _ _)
   | (with_reducible exact ih7 _ _ _ _ _)
   | (with_reducible exact clocheref01_Root.mono _ _ _ _ _)
   | (with_reducible exact clocheref01_tally.mono _ _ _ _ _ _ _ _)
   | (with_reducible exact LeO.refl _)
   | (with_reducible exact LeO.none _)
   | (with_reducible refine LeO.ite ?_ ?_)
   | (with_reducible refine LeO.bind ?_ (fun _ => ?_))
   | exact ih0 _ _ _ _ _ _ _
   | exact ih1 _ _ _ _ _ _
   | exact ih2 _ _ _ _ _ _ _
   | exact ih3 _ _ _ _ _ _
   | exact ih4 _ _ _ _ _ _ _ _
   | exact ih5 _ _ _ _ _
   | exact ih6 _ _ _ _
   | exact ih7 _ _ _ _ _
   | exact clocheref01_Root.mono _ _ _ _ _
   | exact clocheref01_tally.mono _ _ _ _ _ _ _ _
   | exact LeO.none _
   | refine LeO.ite ?_ ?_
   | refine LeO.bind ?_ (fun _ => ?_)
  ·intro y0 y1 y2 y3 y4 y5
   unfold clocheref01_Discs.j3
   repeat' first
   | (with_reducible exact ih0 _ _ _ _ _ _ _)
   | (with_reducible exact ih1 _ _ _ _ _ _)
   | (with_reducible exact ih2 _ _ _ _ _ _ _)
   | (with_reducible exact ih3 _ _ _ _ _ _)
   | (with_reducible exact ih4 _ _ _ _ _ _ _ _)
   | (with_reducible exact ih5 _ _ _ _ _)
   | (with_reducible exact ih6 _ _ _ _)
   | (with_reducible exact ih7 _ _ _ _ _)
   | (with_reducible exact clocheref01_Root.mono _ _ _ _ _)
   | (with_reducible exact clocheref01_tally.mono _ _ _ _ _ _ _ _)
   | (with_reducible exact LeO.refl _)
   | (with_reducible exact LeO.none _)
   | (with_reducible refine LeO.ite ?_ ?_)
   | (with_reducible refine LeO.bind ?_ (fun _ => ?_))
   | exact ih0 _ _ _ _ _ _ _
   | exact ih1 _ _ _ _ _ _
   | exact ih2 _ _ _ _ _ _ _
   | exact ih3 _ _ _ _ _ _
   | exact ih4 _ _ _ _ _ _ _ _
   | exact ih5 _ _ _ _ _
   | exact ih6 _ _ _ _
   | exact ih7 _ _ _ _ _
   | exact clocheref01_Root.mono _ _ _ _ _
   | exact clocheref01_tally.mono _ _ _ _ _ _ _ _
   | exact LeO.none _
   | refine LeO.ite ?_ ?_
   | refine LeO.bind ?_ (fun _ => ?_)
  ·intro y0 y1 y2 y3 y4 y5 y6 y7
   unfold clocheref01_Discs.l0
   repeat' first
   | (with_reducible exact ih0 _ _ _ _ _ _ _)
   | (with_reducible exact ih1 _ _ _ _ _ _)
   | (with_reducible exact ih2 _ _ _ _ _ _ _)
   | (with_reducible exact ih3 _ _ _ _ _ _)
   | (with_reducible exact ih4 _ _ _ _ _ _ _ _)
   | (with_reducible exact ih5 _ _ _ _ _)
   | (with_reducible exact ih6 _ _ _ _)
   | (with_reducible exact ih7 _ _ _ _ _)
   | (with_reducible exact clocheref01_Root.mono _ _ _ _ _)
   | (with_reducible exact clocheref01_tally.mono _ _ _ _ _ _ _ _)
   | (with_reducible exact LeO.refl _)
   | (with_reducible exact LeO.none _)
   | (with_reducible refine LeO.ite ?_ ?_)
   | (with_reducible refine LeO.bind ?_ (fun _ => ?_))
   | exact ih0 _ _ _ _ _ _ _
   | exact ih1 _ _ _ _ _ _
   | exact ih2 _ _ _ _ _ _ _
   | exact ih3 _ _ _ _ _ _
   | exact ih4 _ _ _ _ _ _ _ _
   | exact ih5 _ _ _ _ _
   | exact ih6 _ _ _ _
   | exact ih7 _ _ _ _ _
   | exact clocheref01_Root.mono _ _ _ _ _
   | exact clocheref01_tally.mono _ _ _ _ _ _ _ _
   | exact LeO.none _
   | refine LeO.ite ?_ ?_
   | refine LeO.bind ?_ (fun _ => ?_)
  ·intro y0 y1 y2 y3 y4
   unfold clocheref01_Discs.l1
   repeat' first
   | (with_reducible exact ih0 _ _ _ _ _ _ _)
   | (with_reducible exact ih1 _ _ _ _ _ _)
   | (with_reducible exact ih2 _ _ _ _ _ _ _)
   | (with_reducible exact ih3 _ _ _ _ _ _)
   | (with_reducible exact ih4 _ _ _ _ _ _ _ _)
   | (with_reducible exact ih5 _ _ _ _ _)
   | (with_reducible exact ih6 _ _ _ _)
   | (with_reducible exact ih7 _ _ _ _ _)
   | (with_reducible exact clocheref01_Root.mono _ _ _ _ _)
   | (with_reducible exact clocheref01_tally.mono _ _ _ _ _ _ _ _)
   | (with_reducible exact LeO.refl _)
   | (with_reducible exact LeO.none _)
   | (with_reducible refine LeO.ite ?_ ?_)
   | (with_reducible refine LeO.bind ?_ (fun _ => ?_))
   | exact ih0 _ _ _ _ _ _ _
   | exact ih1 _ _ _ _ _ _
   | exact ih2 _ _ _ _ _ _ _
   | exact ih3 _ _ _ _ _ _
   | exact ih4 _ _ _ _ _ _ _ _
   | exact ih5 _ _ _ _ _
   | exact ih6 _ _ _ _
   | exact ih7 _ _ _ _ _
   | exact clocheref01_Root.mono _ _ _ _ _
   | exact clocheref01_tally.mono _ _ _ _ _ _ _ _
   | exact LeO.none _
   | refine LeO.ite ?_ ?_
   | refine LeO.bind ?_ (fun _ => ?_)
  ·intro y0 y1 y2 y3
   unfold clocheref01_Discs.l2
   repeat' first
   | (with_reducible exact ih0 _ _ _ _ _ _ _)
   | (with_reducible exact ih1 _ _ _ _ _ _)
   | (with_reducible exact ih2 _ _ _ _ _ _ _)
   | (with_reducible exact ih3 _ _ _ _ _ _)
   | (with_reducible exact ih4 _ _ _ _ _ _ _ _)
   | (with_reducible exact ih5 _ _ _ _ _)
   | (with_reducible exact ih6 _ _ _ _)
   | (with_reducible exact ih7 _ _ _ _ _)
   | (with_reducible exact clocheref01_Root.mono _ _ _ _ _)
   | (with_reducible exact clocheref01_tally.mono _ _ _ _ _ _ _ _)
   | (with_reducible exact LeO.refl _)
   | (with_reducible exact LeO.none _)
   | (with_reducible refine LeO.ite ?_ ?_)
   | (with_reducible refine LeO.bind ?_ (fun _ => ?_))
   | exact ih0 _ _ _ _ _ _ _
   | exact ih1 _ _ _ _ _ _
   | exact ih2 _ _ _ _ _ _ _
   | exact ih3 _ _ _ _ _ _
   | exact ih4 _ _ _ _ _ _ _ _
   | exact ih5 _ _ _ _ _
   | exact ih6 _ _ _ _
   | exact ih7 _ _ _ _ _
   | exact clocheref01_Root.mono _ _ _ _ _
   | exact clocheref01_tally.mono _ _ _ _ _ _ _ _
   | exact LeO.none _
   | refine LeO.ite ?_ ?_
   | refine LeO.bind ?_ (fun _ => ?_)
  ·intro y0 y1 y2 y3 y4
   unfold clocheref01_Discs.l3
   repeat' first
   | (with_reducible exact ih0 _ _ _ _ _ _ _)
   | (with_reducible exact ih1 _ _ _ _ _ _)
   | (with_reducible exact ih2 _ _ _ _ _ _ _)
   | (with_reducible exact ih3 _ _ _ _ _ _)
   | (with_reducible exact ih4 _ _ _ _ _ _ _ _)
   | (with_reducible exact ih5 _ _ _ _ _)
   | (with_reducible exact ih6 _ _ _ _)
   | (with_reducible exact ih7 _ _ _ _ _)
   | (with_reducible exact clocheref01_Root.mono _ _ _ _ _)
   | (with_reducible exact clocheref01_tally.mono _ _ _ _ _ _ _ _)
   | (with_reducible exact LeO.refl _)
   | (with_reducible exact LeO.none _)
   | (with_reducible refine LeO.ite ?_ ?_)
   | (with_reducible refine LeO.bind ?_ (fun _ => ?_))
   | exact ih0 _ _ _ _ _ _ _
   | exact ih1 _ _ _ _ _ _
   | exact ih2 _ _ _ _ _ _ _
   | exact ih3 _ _ _ _ _ _
   | exact ih4 _ _ _ _ _ _ _ _
   | exact ih5 _ _ _ _ _
   | exact ih6 _ _ _ _
   | exact ih7 _ _ _ _ _
   | exact clocheref01_Root.mono _ _ _ _ _
   | exact clocheref01_tally.mono _ _ _ _ _ _ _ _
   | exact LeO.none _
   | refine LeO.ite ?_ ?_
   | refine LeO.bind ?_ (fun _ => ?_)
theorem clocheref01_Discs.mono : ∀ a0 a1 a2 a3 a4 k, LeO (clocheref01_Discs.f k a0 a1 a2 a3 a4) (clocheref01_Discs.f (k + 1) a0 a1 a2 a3 a4) := by
 intro a0 a1 a2 a3 a4 k
 obtain ⟨ih0, ih1, ih2, ih3, ih4, ih5, ih6, ih7⟩ := clocheref01_Discs.mono_l k
 unfold clocheref01_Discs.f
 repeat' first
   | (with_reducible exact ih0 _ _ _ _ _ _ _)
   | (with_reducible exact ih1 _ _ _ _ _ _)
   | (with_reducible exact ih2 _ _ _ _ _ _ _)
   | (with_reducible exact ih3 _ _ _ _ _ _)
   | (with_reducible exact ih4 _ _ _ _ _ _ _ _)
   | (with_reducible exact ih5 _ _ _ _ _)
   | (with_reducible exact ih6 _ _ _ _)
   | (with_reducible exact ih7 _ _ _ _ _)
   | (with_reducible exact clocheref01_Root.mono _ _ _ _ _)
   | (with_reducible exact clocheref01_tally.mono _ _ _ _ _ _ _ _)
   | (with_reducible exact LeO.refl _)
   | (with_reducible exact LeO.none _)
   | (with_reducible refine LeO.ite ?_ ?_)
   | (with_reducible refine LeO.bind ?_ (fun _ => ?_))
   | exact ih0 _ _ _ _ _ _ _
   | exact ih1 _ _ _ _ _ _
   | exact ih2 _ _ _ _ _ _ _
   | exact ih3 _ _ _ _ _ _
   | exact ih4 _ _ _ _ _ _ _ _
   | exact ih5 _ _ _ _ _
   | exact ih6 _ _ _ _
   | exact ih7 _ _ _ _ _
   | exact clocheref01_Root.mono _ _ _ _ _
   | exact clocheref01_tally.mono _ _ _ _ _ _ _ _
   | exact LeO.none _
   | refine LeO.ite ?_ ?_
   | refine LeO.bind ?_ (fun _ => ?_)
theorem clocheref01_Discs.calls (k : Nat) (a0_0 : Int) (a0_1 : Int) (a0_2 : Int) (a0_3 : Int) (a1 : Int) (r1 : List Int) (r2 : Int) (w : World) (h : clocheref01_Discs.f k a0_0 a0_1 a0_2 a0_3 a1 = some (r1, r2)) :
  Calls Try.prog 23 #[.agg #[.int .i64 a0_0, .int .i64 a0_1, .int .i64 a0_2, .int .i64 a0_3], .int .i64 a1] w fun e w' => ∃ v0_ : Value, e = .returned (.tuple #[v0_, .int .i64 r2]) ∧ Kd.R (Kd.int .i64) 3 w' w.heap.size (fun _ => True) v0_ r1 ∧ Below w.heap.size w w' := by
 have hu23 := Try.underlying23
 have HB := Aside0.mk (Below.refl w.heap.size w)
 have H : ((clocheref01_Root.f k a0_0 a0_1 a0_2 a0_3).bind fun bt613 => (if bt613.2.2.2.2.2 = 0 then (if a1 < 1 then (clocheref01_Discs.j0 k a1 bt613.2.2.2.2.2 true bt613.1 bt613.2.1 bt613.2.2.1 bt613.2.2.2.1) else (clocheref01_Discs.j0 k a1 bt613.2.2.2.2.2 (decide (a1 > 3000)) bt613.1 bt613.2.1 bt613.2.2.1 bt613.2.2.2.1)) else (clocheref01_Discs.j0 k a1 bt613.2.2.2.2.2 false bt613.1 bt613.2.1 bt613.2.2.1 bt613.2.2.2.1))) = some (r1, r2) := h
 clear h
 replace H := Option.bind_eq_some_iff.mp H
 obtain ⟨⟨t613, t614, t615, t616, t617, t618⟩, A30, H⟩ := H
 replace H : (if t618 = 0 then (if a1 < 1 then (clocheref01_Discs.j0 k a1 t618 true t613 t614 t615 t616) else (clocheref01_Discs.j0 k a1 t618 (decide (a1 > 3000)) t613 t614 t615 t616)) else (clocheref01_Discs.j0 k a1 t618 false t613 t614 t615 t616)) = some (r1, r2) := H
 have A3 := Aside0.mk A30
 clear A30
 have HC4 := Aside0.mk H
 clear H
 go_enter Try.func23, Try.ntmps23
 go_upto_region 2 with (first | ((with_reducible refine gate_dst (N := 2) rfl ?_); refine box_event ?hg (N := 2) ?hd (cs := #[.int .i64 a0_0, .int .i64 a0_1, .int .i64 a0_2, .int .i64 a0_3]) (t := 23) ?hr ?_; (case hd => rfl); (case hg => rfl); (case hr => exact gs_); intro gb612 hg w5 hbox hb; have n0_ := Aside0.mk (below_step (lw_ HB.out) hb); have n1_ := Aside0.mk (hbox); have n2_ := Aside0.mk ((by rw [hg]; exact (below_size (lw_ HB.out)) : w.heap.size ≤ gb612)); have n3_ := Aside0.mk ((by rw [hg]; exact (below_size (lw_ HB.out)) : w.heap.size ≤ gb612)); clear HB; have HB := n0_; have BK612 := n1_; have GW612 := n2_; have GE612 := n3_; clear n0_ n1_ n2_ n3_; clear hb hbox hg; have hcz6_0 : w5.cell? ⟨gb612, 0, none⟩ = some (.int .i64 a0_0) := (blk_cell BK612.out 0).trans rfl; have hcz6_1 : w5.cell? ⟨gb612, 1, none⟩ = some (.int .i64 a0_1) := (blk_cell BK612.out 1).trans rfl; have hcz6_2 : w5.cell? ⟨gb612, 2, none⟩ = some (.int .i64 a0_2) := (blk_cell BK612.out 2).trans rfl; have hcz6_3 : w5.cell? ⟨gb612, 3, none⟩ = some (.int .i64 a0_3) := (blk_cell BK612.out 3).trans rfl; have hfz6_0 := blk_frozen BK612.out 0; have hfz6_1 := blk_frozen BK612.out 1; have hfz6_2 := blk_frozen BK612.out 2; have hfz6_3 := blk_frozen BK612.out 3) | ((with_reducible refine gate_callee (f := 16) rfl ?_); refine goesL_ (some 18) rfl rfl Try.func16 (by kernel_rfl) rfl #[.agg #[.int .i64 a0_0, .int .i64 a0_1, .int .i64 a0_2, .int .i64 a0_3]] rfl mp_ ?_; (with_reducible refine (clocheref01_Root.calls k a0_0 a0_1 a0_2 a0_3 t613 t614 t615 t616 t617 t618 _ A3.out).mono ?_); rintro e w7 ⟨rfl, hb⟩; refine ⟨_, rfl, ?_⟩; have n0_ := Aside0.mk (blk_below (g := gb612) (o := .cells #[.int .i64 a0_0, .int .i64 a0_1, .int .i64 a0_2, .int .i64 a0_3] 23 (0, 0)) (by refine bs_ ?_; exact BK612.out) hb); have n1_ := Aside0.mk (below_step (by repeat (first | (with_reducible first | exact HB.out | apply below_alloc | apply pw_below_drewN | apply below_drew1 | refine below_set ?_ GE612.out) | exact HB.out)) hb); clear BK612; clear HB; have BK612 := n0_; have HB := n1_; clear n0_ n1_; (try clear hb); (try clear hb2); (try clear hk); (try clear hi)) | ((with_reducible refine gate_dst (N := 6) rfl ?_); refine box_event ?hg (N := 6) ?hd (cs := #[.int .i64 0, .int .i64 0, .int .i64 0, .int .i64 0]) (t := 23) ?hr ?_; (case hd => rfl); (case hg => rfl); (case hr => exact gs_); intro gb619 hg w8 hbox hb; have n0_ := Aside0.mk (blk_below (g := gb612) (o := .cells #[.int .i64 a0_0, .int .i64 a0_1, .int .i64 a0_2, .int .i64 a0_3] 23 (0, 0)) (by refine bs_ ?_; exact BK612.out) hb); have n1_ := Aside0.mk (below_step (by repeat (first | (with_reducible first | exact HB.out | apply below_alloc | apply pw_below_drewN | apply below_drew1 | refine below_set ?_ GE612.out) | exact HB.out)) hb); have n2_ := Aside0.mk (hbox); have n3_ := Aside0.mk ((by rw [hg]; exact (below_size (by repeat (first | (with_reducible first | exact HB.out | apply below_alloc | apply pw_below_drewN | apply below_drew1 | refine below_set ?_ GE612.out) | exact HB.out))) : w.heap.size ≤ gb619)); have n4_ := Aside0.mk ((by rw [hg]; exact (below_size (by repeat (first | (with_reducible first | exact HB.out | apply below_alloc | apply pw_below_drewN | apply below_drew1 | refine below_set ?_ GE612.out) | exact HB.out))) : w.heap.size ≤ gb619)); have n5_ := Aside0.mk ((by rw [hg]; exact Nat.ne_of_lt (blk_lt (g := gb612) (o := .cells #[.int .i64 a0_0, .int .i64 a0_1, .int .i64 a0_2, .int .i64 a0_3] 23 (0, 0)) (by refine bs_ ?_; exact BK612.out)) : gb612 ≠ gb619)); have n6_ := Aside0.mk ((by rw [hg]; exact Nat.ne_of_gt (blk_lt (g := gb612) (o := .cells #[.int .i64 a0_0, .int .i64 a0_1, .int .i64 a0_2, .int .i64 a0_3] 23 (0, 0)) (by refine bs_ ?_; exact BK612.out)) : gb619 ≠ gb612)); clear BK612; clear HB; have BK612 := n0_; have HB := n1_; have BK619 := n2_; have GW619 := n3_; have GE619 := n4_; have NB612_619 := n5_; have NB619_612 := n6_; clear n0_ n1_ n2_ n3_ n4_ n5_ n6_; clear hb hbox hg; have hnb9 := NB619_612.out; have hnc9 := NB612_619.out; have hcz10_0 : w8.cell? ⟨gb619, 0, none⟩ = some (.int .i64 0) := (blk_cell BK619.out 0).trans rfl; have hcz10_1 : w8.cell? ⟨gb619, 1, none⟩ = some (.int .i64 0) := (blk_cell BK619.out 1).trans rfl; have hcz10_2 : w8.cell? ⟨gb619, 2, none⟩ = some (.int .i64 0) := (blk_cell BK619.out 2).trans rfl; have hcz10_3 : w8.cell? ⟨gb619, 3, none⟩ = some (.int .i64 0) := (blk_cell BK619.out 3).trans rfl; have hfz10_0 := blk_frozen BK619.out 0; have hfz10_1 := blk_frozen BK619.out 1; have hfz10_2 := blk_frozen BK619.out 2; have hfz10_3 := blk_frozen BK619.out 3))
 (try simp only [Act.put, List.setIfInBounds_toArray, List.set_cons_zero, List.set_cons_succ])
 go_cut [31] (fun v31 wc => ∃ (kq : Nat) (x31_3 : Bool), v31 = .bool x31_3 ∧ Aside0 (clocheref01_Discs.j0 kq a1 t618 x31_3 t613 t614 t615 t616 = some (r1, r2)) ∧ Aside0 (kq ≤ k) ∧ Aside0 (wc.heap[gb612]? = some (.cells #[.int .i64 a0_0, .int .i64 a0_1, .int .i64 a0_2, .int .i64 a0_3] 23 (0, 0))) ∧ Aside0 (wc.heap[gb619]? = some (.cells #[.int .i64 t613, .int .i64 t614, .int .i64 t615, .int .i64 t616] 23 (0, 0))) ∧ Aside0 (Below w.heap.size w wc))
 case first =>
  have H := HC4.out
  clear HC4
  by_cases c11 : t618 = 0
  ·rw [if_pos c11] at H
   have c11b0 : (t618 == 0) = true := beq_iff_eq.mpr c11
   have c11b1 : (t618 != 0) = false := bne_eq_false_iff_eq.mpr c11
   clear c11
   (first | rw [c11b0] | (simp only [i64_w, i32_w]; rw [c11b0]) | skip)
   by_cases c12 : a1 < 1
   ·rw [if_pos c12] at H
    have c12b0 : decide (a1 < 1) = true := decide_eq_true c12
    clear c12
    have H' := Aside0.mk H
    clear H
    go_wp2
    go_meet
    case rel => exact ⟨_, (true), eq_, H', ⟨by first | omega | exact Nat.le_refl _⟩, ⟨by refine bs_ ?_; refine blk_far ?_ NB612_619.out _; refine bs_ ?_; refine blk_far ?_ NB612_619.out _; refine bs_ ?_; refine blk_far ?_ NB612_619.out _; refine bs_ ?_; refine blk_far ?_ NB612_619.out _; refine bs_ ?_; exact BK612.out⟩, ⟨by refine bs_ ?_; refine blk_put (cs := #[.int .i64 t613, .int .i64 t614, .int .i64 t615, .int .i64 0]) ?_ 3 _ rfl; refine bs_ ?_; refine blk_put (cs := #[.int .i64 t613, .int .i64 t614, .int .i64 0, .int .i64 0]) ?_ 2 _ rfl; refine bs_ ?_; refine blk_put (cs := #[.int .i64 t613, .int .i64 0, .int .i64 0, .int .i64 0]) ?_ 1 _ rfl; refine bs_ ?_; refine blk_put (cs := #[.int .i64 0, .int .i64 0, .int .i64 0, .int .i64 0]) ?_ 0 _ rfl; refine bs_ ?_; exact BK619.out⟩, ⟨by repeat (first | (with_reducible first | exact HB.out | apply below_alloc | apply pw_below_drewN | apply below_drew1 | refine below_set ?_ GE612.out | refine below_set ?_ GE619.out) | exact HB.out)⟩⟩
   ·rw [if_neg c12] at H
    have c12b0 : decide (a1 < 1) = false := decide_eq_false c12
    clear c12
    have H' := Aside0.mk H
    clear H
    go_wp2
    go_meet
    case rel => exact ⟨_, (decide (a1 > 3000)), eq_, H', ⟨by first | omega | exact Nat.le_refl _⟩, ⟨by refine bs_ ?_; refine blk_far ?_ NB612_619.out _; refine bs_ ?_; refine blk_far ?_ NB612_619.out _; refine bs_ ?_; refine blk_far ?_ NB612_619.out _; refine bs_ ?_; refine blk_far ?_ NB612_619.out _; refine bs_ ?_; exact BK612.out⟩, ⟨by refine bs_ ?_; refine blk_put (cs := #[.int .i64 t613, .int .i64 t614, .int .i64 t615, .int .i64 0]) ?_ 3 _ rfl; refine bs_ ?_; refine blk_put (cs := #[.int .i64 t613, .int .i64 t614, .int .i64 0, .int .i64 0]) ?_ 2 _ rfl; refine bs_ ?_; refine blk_put (cs := #[.int .i64 t613, .int .i64 0, .int .i64 0, .int .i64 0]) ?_ 1 _ rfl; refine bs_ ?_; refine blk_put (cs := #[.int .i64 0, .int .i64 0, .int .i64 0, .int .i64 0]) ?_ 0 _ rfl; refine bs_ ?_; exact BK619.out⟩, ⟨by repeat (first | (with_reducible first | exact HB.out | apply below_alloc | apply pw_below_drewN | apply below_drew1 | refine below_set ?_ GE612.out | refine below_set ?_ GE619.out) | exact HB.out)⟩⟩
  ·rw [if_neg c11] at H
   have c11b0 : (t618 == 0) = false := beq_eq_false_iff_ne.mpr c11
   have c11b1 : (t618 != 0) = true := bne_iff_ne.mpr c11
   (first | rw [c11b0] | (simp only [i64_w, i32_w]; rw [c11b0]) | skip)
   have H' := Aside0.mk H
   clear H
   go_wp2
   go_meet
   case rel => exact ⟨_, (false), eq_, H', ⟨by first | omega | exact Nat.le_refl _⟩, ⟨by refine bs_ ?_; refine blk_far ?_ NB612_619.out _; refine bs_ ?_; refine blk_far ?_ NB612_619.out _; refine bs_ ?_; refine blk_far ?_ NB612_619.out _; refine bs_ ?_; refine blk_far ?_ NB612_619.out _; refine bs_ ?_; exact BK612.out⟩, ⟨by refine bs_ ?_; refine blk_put (cs := #[.int .i64 t613, .int .i64 t614, .int .i64 t615, .int .i64 0]) ?_ 3 _ rfl; refine bs_ ?_; refine blk_put (cs := #[.int .i64 t613, .int .i64 t614, .int .i64 0, .int .i64 0]) ?_ 2 _ rfl; refine bs_ ?_; refine blk_put (cs := #[.int .i64 t613, .int .i64 0, .int .i64 0, .int .i64 0]) ?_ 1 _ rfl; refine bs_ ?_; refine blk_put (cs := #[.int .i64 0, .int .i64 0, .int .i64 0, .int .i64 0]) ?_ 0 _ rfl; refine bs_ ?_; exact BK619.out⟩, ⟨by repeat (first | (with_reducible first | exact HB.out | apply below_alloc | apply pw_below_drewN | apply below_drew1 | refine below_set ?_ GE612.out | refine below_set ?_ GE619.out) | exact HB.out)⟩⟩
 case rest =>
  clear HC4
  try clear c1
  try clear c2
  try clear p2
  try clear c9
  try clear c11
  try clear c11b0
  try clear c11b1
  try clear c12
  try clear c12b0
  try clear hcz10_0
  try clear hcz10_1
  try clear hcz10_2
  try clear hcz10_3
  try clear hcz6_0
  try clear hcz6_1
  try clear hcz6_2
  try clear hcz6_3
  try clear hfz10_0
  try clear hfz10_1
  try clear hfz10_2
  try clear hfz10_3
  try clear hfz6_0
  try clear hfz6_1
  try clear hfz6_2
  try clear hfz6_3
  obtain ⟨kq, x31_3, rfl, HA, HJ3, BK612, BK619, HB⟩ := hcut
  cases kq with
  | zero => exact absurd HA.out (by simp [clocheref01_Discs.j0])
  | succ kj3 =>
   have H := HA.out
   clear HA
   simp only [clocheref01_Discs.j0] at H
   have HC13 := Aside0.mk H
   clear H
   go_upto_if 31 with (fail)
   go_cut [8] (fun v8 wc => ∃ (kq : Nat) (x8_12 : Int), v8 = .int .i64 x8_12 ∧ Aside0 (clocheref01_Discs.j1 kq a1 x8_12 t613 t614 t615 t616 = some (r1, r2)) ∧ Aside0 (kq ≤ kj3) ∧ Aside0 (wc.heap[gb612]? = some (.cells #[.int .i64 a0_0, .int .i64 a0_1, .int .i64 a0_2, .int .i64 a0_3] 23 (0, 0))) ∧ Aside0 (wc.heap[gb619]? = some (.cells #[.int .i64 t613, .int .i64 t614, .int .i64 t615, .int .i64 t616] 23 (0, 0))) ∧ Aside0 (Below w.heap.size w wc))
   case first =>
    have H := HC13.out
    clear HC13
    by_cases c14 : x31_3 = true
    ·subst c14
     have H1 : (clocheref01_Discs.j1 kj3 a1 2 t613 t614 t615 t616) = some (r1, r2) := by rw [if_pos rfl] at H; exact H
     clear H
     have H := H1
     clear H1
     have H' := Aside0.mk H
     clear H
     go_wp2
     go_meet
     case rel => exact ⟨_, (2), eq_, H', ⟨by have := HJ3.out; first | omega | exact Nat.le_refl _⟩, ⟨by refine bs_ ?_; exact BK612.out⟩, ⟨by refine bs_ ?_; exact BK619.out⟩, ⟨by repeat (first | (with_reducible first | exact HB.out | apply below_alloc | apply pw_below_drewN | apply below_drew1 | refine below_set ?_ GE612.out | refine below_set ?_ GE619.out) | exact HB.out)⟩⟩
    ·replace c14 := Bool.eq_false_iff.mpr c14
     subst c14
     have H1 : (clocheref01_Discs.j1 kj3 a1 t618 t613 t614 t615 t616) = some (r1, r2) := by rw [if_neg (show ¬ (false = true) by decide)] at H; exact H
     clear H
     have H := H1
     clear H1
     have H' := Aside0.mk H
     clear H
     go_wp2
     go_meet
     case rel => exact ⟨_, (t618), eq_, H', ⟨by have := HJ3.out; first | omega | exact Nat.le_refl _⟩, ⟨by refine bs_ ?_; exact BK612.out⟩, ⟨by refine bs_ ?_; exact BK619.out⟩, ⟨by repeat (first | (with_reducible first | exact HB.out | apply below_alloc | apply pw_below_drewN | apply below_drew1 | refine below_set ?_ GE612.out | refine below_set ?_ GE619.out) | exact HB.out)⟩⟩
   case rest =>
    clear HC13
    try clear c1
    try clear c2
    try clear p2
    try clear c9
    try clear c11
    try clear c11b0
    try clear c11b1
    try clear c12
    try clear c12b0
    try clear c14
    try clear hcz10_0
    try clear hcz10_1
    try clear hcz10_2
    try clear hcz10_3
    try clear hcz6_0
    try clear hcz6_1
    try clear hcz6_2
    try clear hcz6_3
    try clear hfz10_0
    try clear hfz10_1
    try clear hfz10_2
    try clear hfz10_3
    try clear hfz6_0
    try clear hfz6_1
    try clear hfz6_2
    try clear hfz6_3
    try clear p2
    obtain ⟨kq, x8_12, rfl, HA, HJ12, BK612, BK619, HB⟩ := hcut
    cases kq with
    | zero => exact absurd HA.out (by simp [clocheref01_Discs.j1])
    | succ kj12 =>
     have H := HA.out
     clear HA
     simp only [clocheref01_Discs.j1] at H
     have HC15 := Aside0.mk H
     clear H
     go_upto_region 4 with (fail)
     go_cut [38] (fun v38 wc => ∃ (kq : Nat) (x38_14 : Bool), v38 = .bool x38_14 ∧ Aside0 (clocheref01_Discs.j2 kq a1 x8_12 x38_14 t613 t614 t615 t616 = some (r1, r2)) ∧ Aside0 (kq ≤ kj12) ∧ Aside0 (wc.heap[gb612]? = some (.cells #[.int .i64 a0_0, .int .i64 a0_1, .int .i64 a0_2, .int .i64 a0_3] 23 (0, 0))) ∧ Aside0 (wc.heap[gb619]? = some (.cells #[.int .i64 t613, .int .i64 t614, .int .i64 t615, .int .i64 t616] 23 (0, 0))) ∧ Aside0 (Below w.heap.size w wc))
     case first =>
      have H := HC15.out
      clear HC15
      by_cases c16 : x8_12 = 0
      ·rw [if_pos c16] at H
       have c16b0 : (x8_12 == 0) = true := beq_iff_eq.mpr c16
       have c16b1 : (x8_12 != 0) = false := bne_eq_false_iff_eq.mpr c16
       clear c16
       (first | rw [c16b0] | (simp only [i64_w, i32_w]; rw [c16b0]) | skip)
       have H' := Aside0.mk H
       clear H
       have hnb17 := NB619_612.out
       have hnc17 := NB612_619.out
       have hcz18_0 : wc.cell? ⟨gb619, 0, none⟩ = some (.int .i64 t613) := (blk_cell BK619.out 0).trans rfl
       have hcz18_1 : wc.cell? ⟨gb619, 1, none⟩ = some (.int .i64 t614) := (blk_cell BK619.out 1).trans rfl
       have hcz18_2 : wc.cell? ⟨gb619, 2, none⟩ = some (.int .i64 t615) := (blk_cell BK619.out 2).trans rfl
       have hcz18_3 : wc.cell? ⟨gb619, 3, none⟩ = some (.int .i64 t616) := (blk_cell BK619.out 3).trans rfl
       have hfz18_0 := blk_frozen BK619.out 0
       have hfz18_1 := blk_frozen BK619.out 1
       have hfz18_2 := blk_frozen BK619.out 2
       have hfz18_3 := blk_frozen BK619.out 3
       go_wp2
       go_meet
       case rel => exact ⟨_, ((t613 == 0)), eq_, H', ⟨by have := HJ3.out; have := HJ12.out; first | omega | exact Nat.le_refl _⟩, ⟨by refine bs_ ?_; exact BK612.out⟩, ⟨by refine bs_ ?_; exact BK619.out⟩, ⟨by repeat (first | (with_reducible first | exact HB.out | apply below_alloc | apply pw_below_drewN | apply below_drew1 | refine below_set ?_ GE612.out | refine below_set ?_ GE619.out) | exact HB.out)⟩⟩
      ·rw [if_neg c16] at H
       have c16b0 : (x8_12 == 0) = false := beq_eq_false_iff_ne.mpr c16
       have c16b1 : (x8_12 != 0) = true := bne_iff_ne.mpr c16
       (first | rw [c16b0] | (simp only [i64_w, i32_w]; rw [c16b0]) | skip)
       have H' := Aside0.mk H
       clear H
       go_wp2
       go_meet
       case rel => exact ⟨_, (false), eq_, H', ⟨by have := HJ3.out; have := HJ12.out; first | omega | exact Nat.le_refl _⟩, ⟨by refine bs_ ?_; exact BK612.out⟩, ⟨by refine bs_ ?_; exact BK619.out⟩, ⟨by repeat (first | (with_reducible first | exact HB.out | apply below_alloc | apply pw_below_drewN | apply below_drew1 | refine below_set ?_ GE612.out | refine below_set ?_ GE619.out) | exact HB.out)⟩⟩
     case rest =>
      clear HC15
      try clear c1
      try clear c2
      try clear p2
      try clear c9
      try clear c11
      try clear c11b0
      try clear c11b1
      try clear c12
      try clear c12b0
      try clear c14
      try clear c16
      try clear c16b0
      try clear c16b1
      try clear c17
      try clear hcz10_0
      try clear hcz10_1
      try clear hcz10_2
      try clear hcz10_3
      try clear hcz18_0
      try clear hcz18_1
      try clear hcz18_2
      try clear hcz18_3
      try clear hcz6_0
      try clear hcz6_1
      try clear hcz6_2
      try clear hcz6_3
      try clear hfz10_0
      try clear hfz10_1
      try clear hfz10_2
      try clear hfz10_3
      try clear hfz18_0
      try clear hfz18_1
      try clear hfz18_2
      try clear hfz18_3
      try clear hfz6_0
      try clear hfz6_1
      try clear hfz6_2
      try clear hfz6_3
      try clear p2
      obtain ⟨kq, x38_14, rfl, HA, HJ14, BK612, BK619, HB⟩ := hcut
      cases kq with
      | zero => exact absurd HA.out (by simp [clocheref01_Discs.j2])
      | succ kj14 =>
       have H := HA.out
       clear HA
       simp only [clocheref01_Discs.j2] at H
       have HC19 := Aside0.mk H
       clear H
       go_upto_if 38 with (fail)
       go_cut [8] (fun v8 wc => ∃ (kq : Nat) (x8_18 : Int), v8 = .int .i64 x8_18 ∧ Aside0 (clocheref01_Discs.j3 kq a1 x8_18 t613 t614 t615 t616 = some (r1, r2)) ∧ Aside0 (kq ≤ kj14) ∧ Aside0 (wc.heap[gb612]? = some (.cells #[.int .i64 a0_0, .int .i64 a0_1, .int .i64 a0_2, .int .i64 a0_3] 23 (0, 0))) ∧ Aside0 (wc.heap[gb619]? = some (.cells #[.int .i64 t613, .int .i64 t614, .int .i64 t615, .int .i64 t616] 23 (0, 0))) ∧ Aside0 (Below w.heap.size w wc))
       case first =>
        have H := HC19.out
        clear HC19
        by_cases c20 : x38_14 = true
        ·subst c20
         have H1 : (clocheref01_Discs.j3 kj14 a1 9 t613 t614 t615 t616) = some (r1, r2) := by rw [if_pos rfl] at H; exact H
         clear H
         have H := H1
         clear H1
         have H' := Aside0.mk H
         clear H
         go_wp2
         go_meet
         case rel => exact ⟨_, (9), eq_, H', ⟨by have := HJ3.out; have := HJ12.out; have := HJ14.out; first | omega | exact Nat.le_refl _⟩, ⟨by refine bs_ ?_; exact BK612.out⟩, ⟨by refine bs_ ?_; exact BK619.out⟩, ⟨by repeat (first | (with_reducible first | exact HB.out | apply below_alloc | apply pw_below_drewN | apply below_drew1 | refine below_set ?_ GE612.out | refine below_set ?_ GE619.out) | exact HB.out)⟩⟩
        ·replace c20 := Bool.eq_false_iff.mpr c20
         subst c20
         have H1 : (clocheref01_Discs.j3 kj14 a1 x8_12 t613 t614 t615 t616) = some (r1, r2) := by rw [if_neg (show ¬ (false = true) by decide)] at H; exact H
         clear H
         have H := H1
         clear H1
         have H' := Aside0.mk H
         clear H
         go_wp2
         go_meet
         case rel => exact ⟨_, (x8_12), eq_, H', ⟨by have := HJ3.out; have := HJ12.out; have := HJ14.out; first | omega | exact Nat.le_refl _⟩, ⟨by refine bs_ ?_; exact BK612.out⟩, ⟨by refine bs_ ?_; exact BK619.out⟩, ⟨by repeat (first | (with_reducible first | exact HB.out | apply below_alloc | apply pw_below_drewN | apply below_drew1 | refine below_set ?_ GE612.out | refine below_set ?_ GE619.out) | exact HB.out)⟩⟩
       case rest =>
        clear HC19
        try clear c1
        try clear c2
        try clear p2
        try clear c9
        try clear c11
        try clear c11b0
        try clear c11b1
        try clear c12
        try clear c12b0
        try clear c14
        try clear c16
        try clear c16b0
        try clear c16b1
        try clear c17
        try clear c20
        try clear hcz10_0
        try clear hcz10_1
        try clear hcz10_2
        try clear hcz10_3
        try clear hcz18_0
        try clear hcz18_1
        try clear hcz18_2
        try clear hcz18_3
        try clear hcz6_0
        try clear hcz6_1
        try clear hcz6_2
        try clear hcz6_3
        try clear hfz10_0
        try clear hfz10_1
        try clear hfz10_2
        try clear hfz10_3
        try clear hfz18_0
        try clear hfz18_1
        try clear hfz18_2
        try clear hfz18_3
        try clear hfz6_0
        try clear hfz6_1
        try clear hfz6_2
        try clear hfz6_3
        try clear p2
        obtain ⟨kq, x8_18, rfl, HA, HJ18, BK612, BK619, HB⟩ := hcut
        cases kq with
        | zero => exact absurd HA.out (by simp [clocheref01_Discs.j3])
        | succ kj18 =>
         have H := HA.out
         clear HA
         simp only [clocheref01_Discs.j3] at H
         by_cases c21 : x8_18 = 0
         ·rw [if_pos c21] at H
          have c21b0 : (x8_18 == 0) = true := beq_iff_eq.mpr c21
          have c21b1 : (x8_18 != 0) = false := bne_eq_false_iff_eq.mpr c21
          clear c21
          obtain ⟨ji22, hji22⟩ : ∃ j_ : Int, (wrap64 (a1 + 1)) = j_ := ⟨_, rfl⟩
          replace H : (if 0 ≤ (ji22) then (if (ji22 : Int).toNat ≤ 35184372088832 then ((clocheref01_tally.f kj18 t613 t614 t615 t616 (-1) a1 (List.replicate (ji22 : Int).toNat 0)).bind fun t623 => (clocheref01_Discs.l0 kj18 a1 t623 (([] : List Int)) 0 t613 t614 t615 t616)) else (none)) else (none)) = some (r1, r2) := by first | (rw [hji22] at H; exact H) | (simp only [hji22] at H ⊢; exact H)
          have hji22w : (IntKind.i64.wrap (a1 + 1)) = ji22 := (i64_w _).trans hji22
          by_cases c23 : 0 ≤ (ji22)
          ·rw [if_pos c23] at H
           have c23b0 := eq_true c23
           have c23b1 : decide (0 ≤ (ji22)) = true := decide_eq_true c23
           clear c23
           by_cases c24 : (ji22 : Int).toNat ≤ 35184372088832
           ·rw [if_pos c24] at H
            have c24b0 := eq_true c24
            have c24b1 : decide ((ji22 : Int).toNat ≤ 35184372088832) = true := decide_eq_true c24
            clear c24
            obtain ⟨y620, hy620⟩ : ∃ y_ : List Int, y_ = (List.replicate (ji22 : Int).toNat 0) := ⟨_, rfl⟩
            replace H : ((clocheref01_tally.f kj18 t613 t614 t615 t616 (-1) a1 y620).bind fun t623 => (clocheref01_Discs.l0 kj18 a1 t623 (([] : List Int)) 0 t613 t614 t615 t616)) = some (r1, r2) := by first | (rw [hy620]; with_reducible exact H) | (have H2_ := (Option.bind_some _ _).symm.trans H; rw [hy620]; with_reducible exact H2_) | (have H2_ := (Option.bind_some _ _).symm.trans H; with_reducible exact H2_) | with_reducible exact H | (rw [hy620]; exact H) | exact H
            have Ny620 := Aside0.mk hy620
            clear hy620
            replace H := Option.bind_eq_some_iff.mp H
            obtain ⟨t623, A250, H⟩ := H
            replace H : (clocheref01_Discs.l0 kj18 a1 t623 (([] : List Int)) 0 t613 t614 t615 t616) = some (r1, r2) := H
            have A25 := Aside0.mk A250
            clear A250
            obtain ⟨y624, hy624⟩ : ∃ y_ : List Int, y_ = (([] : List Int)) := ⟨_, rfl⟩
            replace H : (clocheref01_Discs.l0 kj18 a1 t623 y624 0 t613 t614 t615 t616) = some (r1, r2) := by first | (rw [hy624]; with_reducible exact H) | (have H2_ := (Option.bind_some _ _).symm.trans H; rw [hy624]; with_reducible exact H2_) | (have H2_ := (Option.bind_some _ _).symm.trans H; with_reducible exact H2_) | with_reducible exact H | (rw [hy624]; exact H) | exact H
            have Ny624 := Aside0.mk hy624
            clear hy624
            have H' := Aside0.mk H
            clear H
            go_wp2_with (first | ((with_reducible refine gate_dst (N := 44) rfl ?_); refine Kd.R_make (Kd.int .i64) _ 3 rfl (N := 44) rfl 35 _ _ rfl ji22 rfl rfl Try.underlying35 (.int .i64 0) 8 info3 rfl (by decide) (by omega) 0 (ok := fun _ => True) (okp := fun _ => True) rfl (fun _ hk => hk) trivial (of_decide_eq_true as_) (Nat.le_trans (Nat.mul_le_mul_right _ (of_decide_eq_true as_ : ji22.toNat ≤ 35184372088832)) (by omega)) (Below.refl _ _) (Nat.le_refl _) ?_; intro v621 w26 ho27 hb hg_ hnew_; clear hg_ hnew_; (first | rw [← Ny620.out] at ho27 | (simp only [Int.reduceToNat] at ho27; rw [← Ny620.out] at ho27)); have n0_ := Aside0.mk (Kd.R_lower ho27 (below_size (by repeat (first | (with_reducible first | exact HB.out | apply below_alloc | apply pw_below_drewN | apply below_drew1 | refine below_set ?_ GE612.out | refine below_set ?_ GE619.out) | exact HB.out)))); have n1_ := Aside0.mk (blk_below (g := gb612) (o := .cells #[.int .i64 a0_0, .int .i64 a0_1, .int .i64 a0_2, .int .i64 a0_3] 23 (0, 0)) (by refine bs_ ?_; exact BK612.out) hb); have n2_ := Aside0.mk (blk_below (g := gb619) (o := .cells #[.int .i64 t613, .int .i64 t614, .int .i64 t615, .int .i64 t616] 23 (0, 0)) (by refine bs_ ?_; exact BK619.out) hb); have n3_ := Aside0.mk (below_step (by repeat (first | (with_reducible first | exact HB.out | apply below_alloc | apply pw_below_drewN | apply below_drew1 | refine below_set ?_ GE612.out | refine below_set ?_ GE619.out) | exact HB.out)) hb); clear BK612; clear BK619; clear HB; have HO622 := n0_; have BK612 := n1_; have BK619 := n2_; have HB := n3_; clear n0_ n1_ n2_ n3_; clear hb ho27; have hnb28 := NB619_612.out; have hnc28 := NB612_619.out; have hcz29_0 : w26.cell? ⟨gb619, 0, none⟩ = some (.int .i64 t613) := (blk_cell BK619.out 0).trans rfl; have hcz29_1 : w26.cell? ⟨gb619, 1, none⟩ = some (.int .i64 t614) := (blk_cell BK619.out 1).trans rfl; have hcz29_2 : w26.cell? ⟨gb619, 2, none⟩ = some (.int .i64 t615) := (blk_cell BK619.out 2).trans rfl; have hcz29_3 : w26.cell? ⟨gb619, 3, none⟩ = some (.int .i64 t616) := (blk_cell BK619.out 3).trans rfl; have hfz29_0 := blk_frozen BK619.out 0; have hfz29_1 := blk_frozen BK619.out 1; have hfz29_2 := blk_frozen BK619.out 2; have hfz29_3 := blk_frozen BK619.out 3; obtain ⟨Ao30, co30, eo30⟩ := Kd.R_slice HO622.out; subst eo30) | ((with_reducible refine gate_callee (f := 53) rfl ?_); refine goesL_ (some 48) rfl rfl Try.func53 (by kernel_rfl) rfl #[.agg #[.int .i64 t613, .int .i64 t614, .int .i64 t615, .int .i64 t616], .int .i64 (-1), .int .i64 a1, .slice Ao30 y620.length co30] rfl mp_ ?_; (with_reducible refine (clocheref01_tally.calls kj18 t613 t614 t615 t616 (-1) a1 (fun k_ => some k_ = (.slice Ao30 y620.length co30 : Value).ownBlock) (.slice Ao30 y620.length co30) y620 t623 w _ ?side1 ?side2 A25.out).mono ?_); (case side1 => repeat (first | (with_reducible first | exact HB.out | apply below_alloc | apply pw_below_drewN | apply below_drew1 | refine below_set ?_ GE612.out | refine below_set ?_ GE619.out) | exact HB.out)); (case side2 => exact Kd.R_tight rfl HO622.out); rintro e w31 ⟨rfl, hy0, hb, hkp⟩; refine ⟨_, rfl, ?_⟩; have n0_ := Aside0.mk (blk_kept (by refine bs_ ?_; exact BK612.out) hkp (fun hs_ => (fun e_ => (Kd.R_ne HO622.out BK612.out (by decide)) e_) hs_)); have n1_ := Aside0.mk (blk_kept (by refine bs_ ?_; exact BK619.out) hkp (fun hs_ => (fun e_ => (Kd.R_ne HO622.out BK619.out (by decide)) e_) hs_)); have n2_ := Aside0.mk (Kd.R_reok rfl hy0 (fun k_ e_ => HO622.out.1 k_ e_)); have n3_ := Aside0.mk (hb); clear BK612; clear BK619; clear HO622; clear HB; have BK612 := n0_; have BK619 := n1_; have HO622 := n2_; have HB := n3_; clear n0_ n1_ n2_ n3_; (try clear hb); (try clear hkp); (try clear hy0)) | ((with_reducible refine gate_dst (N := 49) rfl ?_); refine Kd.R_lit (Kd.int .i64) _ 3 ?hg (N := 49) ?hd (xs := ([] : List Int)) (inner := []) (ok := fun _ => True) (okp := fun _ => True) ?hr ?hp (fun _ hk => hk) trivial (Below.refl _ _) (Nat.le_refl _) (by simp) ?_; (case hd => rfl); (case hg => rfl); (case hr => exact gs_); (case hp => exact (Reps.none _ _)); intro v625 w32 ho33 hb hg_ hnew_; clear hg_ hnew_; (first | rw [← Ny624.out] at ho33 | (simp only [Int.reduceToNat] at ho33; rw [← Ny624.out] at ho33)); have n0_ := Aside0.mk (Kd.R_elder' (by refine kr_ ?_; exact HO622.out) (Kd.R_base ho33) hb); have n1_ := Aside0.mk (Kd.R_lower (Kd.R_new' ho33 (Kd.R_lt (by refine kr_ ?_; exact HO622.out))) (below_size (by repeat (first | (with_reducible first | exact HB.out | apply below_alloc | apply pw_below_drewN | apply below_drew1 | refine below_set ?_ GE612.out | refine below_set ?_ GE619.out) | exact HB.out)))); have n2_ := Aside0.mk (blk_below (g := gb612) (o := .cells #[.int .i64 a0_0, .int .i64 a0_1, .int .i64 a0_2, .int .i64 a0_3] 23 (0, 0)) (by refine bs_ ?_; exact BK612.out) hb); have n3_ := Aside0.mk (blk_below (g := gb619) (o := .cells #[.int .i64 t613, .int .i64 t614, .int .i64 t615, .int .i64 t616] 23 (0, 0)) (by refine bs_ ?_; exact BK619.out) hb); have n4_ := Aside0.mk (below_step (by repeat (first | (with_reducible first | exact HB.out | apply below_alloc | apply pw_below_drewN | apply below_drew1 | refine below_set ?_ GE612.out | refine below_set ?_ GE619.out) | exact HB.out)) hb); clear HO622; clear BK612; clear BK619; clear HB; have HO622 := n0_; have HO626 := n1_; have BK612 := n2_; have BK619 := n3_; have HB := n4_; clear n0_ n1_ n2_ n3_ n4_; clear hb ho33))
            go_loopg [10, 11] kj18 (fun kq v10 v11 w' => ∃ (x9_5 : List Int) (x10_5 : List Int) (x11_5 : Int), v11 = .int .i64 x11_5 ∧ Aside0 (clocheref01_Discs.l0 kq a1 x9_5 x10_5 x11_5 t613 t614 t615 t616 = some (r1, r2)) ∧ Aside0 (kq ≤ kj18) ∧ Aside0 (Kd.R (Kd.int .i64) 3 w' w.heap.size (fun k_ => some k_ ≠ (v10 : Value).ownBlock) (.slice Ao30 y620.length co30) x9_5) ∧ Aside0 (Kd.R (Kd.int .i64) 3 w' w.heap.size (fun k_ => some k_ ≠ ((.slice Ao30 y620.length co30) : Value).ownBlock) v10 x10_5) ∧ Aside0 (w'.heap[gb612]? = some (.cells #[.int .i64 a0_0, .int .i64 a0_1, .int .i64 a0_2, .int .i64 a0_3] 23 (0, 0))) ∧ Aside0 (w'.heap[gb619]? = some (.cells #[.int .i64 t613, .int .i64 t614, .int .i64 t615, .int .i64 t616] 23 (0, 0))) ∧ Aside0 (Below w.heap.size w w'))
            case atStart => exact ⟨(t623), (y624), (0), eq_, H', ⟨Nat.le_refl _⟩, ⟨by refine kr_ ?_; exact Kd.R_mono HO622.out (fun _ hk => hk.2)⟩, ⟨by refine kr_ ?_; exact Kd.R_mono HO626.out (fun _ hk => hk.2)⟩, ⟨by refine bs_ ?_; exact BK612.out⟩, ⟨by refine bs_ ?_; exact BK619.out⟩, ⟨by repeat (first | (with_reducible first | exact HB.out | apply below_alloc | apply pw_below_drewN | apply below_drew1 | refine below_set ?_ GE612.out | refine below_set ?_ GE619.out) | exact HB.out)⟩⟩
            case round =>
             clear H'
             try clear c1
             try clear c2
             try clear p2
             try clear c5
             try clear p6
             try clear c9
             try clear c11
             try clear c11b0
             try clear c11b1
             try clear c12
             try clear c12b0
             try clear c14
             try clear c16
             try clear c16b0
             try clear c16b1
             try clear c17
             try clear c20
             try clear c21
             try clear c21b0
             try clear c21b1
             try clear c23
             try clear c23b0
             try clear c23b1
             try clear c24
             try clear c24b0
             try clear c24b1
             try clear c28
             try clear hcz10_0
             try clear hcz10_1
             try clear hcz10_2
             try clear hcz10_3
             try clear hcz18_0
             try clear hcz18_1
             try clear hcz18_2
             try clear hcz18_3
             try clear hcz29_0
             try clear hcz29_1
             try clear hcz29_2
             try clear hcz29_3
             try clear hcz6_0
             try clear hcz6_1
             try clear hcz6_2
             try clear hcz6_3
             try clear hfz10_0
             try clear hfz10_1
             try clear hfz10_2
             try clear hfz10_3
             try clear hfz18_0
             try clear hfz18_1
             try clear hfz18_2
             try clear hfz18_3
             try clear hfz29_0
             try clear hfz29_1
             try clear hfz29_2
             try clear hfz29_3
             try clear hfz6_0
             try clear hfz6_1
             try clear hfz6_2
             try clear hfz6_3
             try clear p2
             obtain ⟨x9_5, x10_5, x11_5, rfl, HA, HK5, HO_9, HO_10, BK612, BK619, HB⟩ := hrel
             have hl9_5 := (Kd.R_reads' HO_9.out).1
             rw [hl9_5] at HO_9
             (try simp only [hl9_5])
             (try simp only [hl9_5] at BK612)
             (try simp only [hl9_5] at BK619)
             (try simp only [hl9_5] at HO_10)
             cases gk with
             | zero => exact absurd HA.out (by simp [clocheref01_Discs.l0])
             | succ k5 =>
              have H := HA.out
              clear HA
              simp only [clocheref01_Discs.l0] at H
              by_cases c34 : x11_5 < 4
              ·rw [if_pos c34] at H
               have c34b0 : decide (x11_5 < 4) = true := decide_eq_true c34
               clear c34
               by_cases c35 : 0 ≤ x11_5
               ·rw [if_pos c35] at H
                have c35b0 : decide (0 ≤ x11_5) = true := decide_eq_true c35
                clear c35
                by_cases c36 : (at4 t613 t614 t615 t616 x11_5) < 0
                ·rw [if_pos c36] at H
                 have c36b0 : decide ((at4 t613 t614 t615 t616 x11_5) < 0) = true := decide_eq_true c36
                 clear c36
                 by_cases c37 : x10_5.length < 17592186044416
                 ·rw [if_pos c37] at H
                  have LMc37 := Aside0.mk c37
                  clear c37
                  obtain ⟨y627, hy627⟩ : ∃ y_ : List Int, y_ = (x10_5 ++ [at4 t613 t614 t615 t616 x11_5]) := ⟨_, rfl⟩
                  replace H : (clocheref01_Discs.l0 k5 a1 x9_5 y627 (wrap64 (x11_5 + 1)) t613 t614 t615 t616) = some (r1, r2) := by first | (rw [hy627]; with_reducible exact H) | (have H2_ := (Option.bind_some _ _).symm.trans H; rw [hy627]; with_reducible exact H2_) | (have H2_ := (Option.bind_some _ _).symm.trans H; with_reducible exact H2_) | with_reducible exact H | (rw [hy627]; exact H) | exact H
                  have Ny627 := Aside0.mk hy627
                  clear hy627
                  have H' := Aside0.mk H
                  clear H
                  have hnb39 := NB619_612.out
                  have hnc39 := NB612_619.out
                  have hcz40_0 : wr.cell? ⟨gb619, 0, none⟩ = some (.int .i64 t613) := (blk_cell BK619.out 0).trans rfl
                  have hcz40_1 : wr.cell? ⟨gb619, 1, none⟩ = some (.int .i64 t614) := (blk_cell BK619.out 1).trans rfl
                  have hcz40_2 : wr.cell? ⟨gb619, 2, none⟩ = some (.int .i64 t615) := (blk_cell BK619.out 2).trans rfl
                  have hcz40_3 : wr.cell? ⟨gb619, 3, none⟩ = some (.int .i64 t616) := (blk_cell BK619.out 3).trans rfl
                  have hfz40_0 := blk_frozen BK619.out 0
                  have hfz40_1 := blk_frozen BK619.out 1
                  have hfz40_2 := blk_frozen BK619.out 2
                  have hfz40_3 := blk_frozen BK619.out 3
                  have pdy38 : 0 ≤ (x11_5 : Int) := of_decide_eq_true as_
                  have qdy38 : (x11_5 : Int) < 4 := of_decide_eq_true as_
                  replace pdy38 := eq_true pdy38
                  replace qdy38 := eq_true qdy38
                  have hxdy38 : wr.cell? ⟨gb619, (x11_5 : Int).toNat, none⟩ = some (.int .i64 (at4 t613 t614 t615 t616 x11_5)) := blk_at4 BK619.out (of_eq_true pdy38) (of_eq_true qdy38)
                  have hfdy38 := blk_frozen BK619.out (x11_5 : Int).toNat
                  have pdy41 : 0 ≤ (x11_5 : Int) := of_decide_eq_true as_
                  have qdy41 : (x11_5 : Int) < 4 := of_decide_eq_true as_
                  replace pdy41 := eq_true pdy41
                  replace qdy41 := eq_true qdy41
                  have hxdy41 : wr.cell? ⟨gb619, (x11_5 : Int).toNat, none⟩ = some (.int .i64 (at4 t613 t614 t615 t616 x11_5)) := blk_at4 BK619.out (of_eq_true pdy41) (of_eq_true qdy41)
                  have hfdy41 := blk_frozen BK619.out (x11_5 : Int).toNat
                  go_wp2_with (first | ((with_reducible refine gate_builtin (b := .append) (xs := #[.tmp 58, .tmp 62]) rfl ?_); at_builtin; refine Kd.R_append (Kd.int .i64) (w0 := w) w.heap.size rfl (.tmp 58) (.tmp 62) 35 3 (.int .i64 0) 8 rfl Try.underlying35 info3 rfl (by decide) (by omega) u10 x10_5 (at4 t613 t614 t615 t616 x11_5) [.int .i64 (at4 t613 t614 t615 t616 x11_5)] (fun k_ => some k_ ≠ (.slice Ao30 x9_5.length co30 : Value).ownBlock) (fun _ => False) rfl rfl ?aP (fun _ hk => hk.elim) ?aF ?aO ?aB ?aS ?aL ?_; (case aP => exact rfl); (case aB => exact (by repeat (first | (with_reducible first | exact HB.out | apply below_alloc | apply pw_below_drewN | apply below_drew1 | refine below_set ?_ GE612.out | refine below_set ?_ GE619.out) | exact HB.out))); (case aF => exact (fun k_ hk => Kd.fresh' (Kd.R_lt (by refine kr_ ?_; exact HO_9.out)) k_ hk)); (case aO => exact (by refine kr_ ?_; exact HO_10.out)); (case aS => exact (below_size (by repeat (first | (with_reducible first | exact HB.out | apply below_alloc | apply pw_below_drewN | apply below_drew1 | refine below_set ?_ GE612.out | refine below_set ?_ GE619.out) | exact HB.out)))); (case aL => have := LMc37.out; omega); intro v628 w42 ho hb hg hat; rw [← Ny627.out] at ho; have n0_ := Aside0.mk (Kd.R_after (ok := (fun _ => True)) (by refine kr_ ?_; exact Kd.R_mono HO_9.out (fun _ hk => ⟨trivial, hk⟩)) hg hat); have n1_ := Aside0.mk (blk_grown (g := gb612) (o := .cells #[.int .i64 a0_0, .int .i64 a0_1, .int .i64 a0_2, .int .i64 a0_3] 23 (0, 0)) (by refine bs_ ?_; exact BK612.out) hg (Kd.R_ne HO_10.out BK612.out (by decide))); have n2_ := Aside0.mk (blk_grown (g := gb619) (o := .cells #[.int .i64 t613, .int .i64 t614, .int .i64 t615, .int .i64 t616] 23 (0, 0)) (by refine bs_ ?_; exact BK619.out) hg (Kd.R_ne HO_10.out BK619.out (by decide))); have n3_ := Aside0.mk (hb); have n4_ := Aside0.mk (ho); clear HO_9; clear BK612; clear BK619; clear HB; clear HO_10; have HO_9 := n0_; have BK612 := n1_; have BK619 := n2_; have HB := n3_; have HO629 := n4_; clear n0_ n1_ n2_ n3_ n4_; clear ho hb hg hat))
                  (try simp only [← hl9_5])
                  go_roundg k5
                  case measure => have := HJ3.out; have := HJ12.out; have := HJ14.out; have := HJ18.out; have := HK5.out; omega
                  case rel => exact ⟨(x9_5), (y627), (wrap64 (x11_5 + 1)), eq_, H', ⟨by have := HJ3.out; have := HJ12.out; have := HJ14.out; have := HJ18.out; have := HK5.out; omega⟩, ⟨by (try simp only [hl9_5]); refine kr_ ?_; exact Kd.R_mono HO_9.out (fun _ hk => hk.2)⟩, ⟨by (try simp only [hl9_5]); refine kr_ ?_; exact HO629.out⟩, ⟨by (try simp only [hl9_5]); refine bs_ ?_; exact BK612.out⟩, ⟨by (try simp only [hl9_5]); refine bs_ ?_; exact BK619.out⟩, ⟨by repeat (first | (with_reducible first | exact HB.out | apply below_alloc | apply pw_below_drewN | apply below_drew1 | refine below_set ?_ GE612.out | refine below_set ?_ GE619.out) | exact HB.out)⟩⟩
                 ·rw [if_neg c37] at H
                  exact absurd H (by simp)
                ·rw [if_neg c36] at H
                 have c36b0 : decide ((at4 t613 t614 t615 t616 x11_5) < 0) = false := decide_eq_false c36
                 clear c36
                 by_cases c43 : (at4 t613 t614 t615 t616 x11_5) ≤ a1
                 ·rw [if_pos c43] at H
                  have c43b0 : decide ((at4 t613 t614 t615 t616 x11_5) ≤ a1) = true := decide_eq_true c43
                  clear c43
                  by_cases c44 : 0 ≤ (at4 t613 t614 t615 t616 x11_5)
                  ·rw [if_pos c44] at H
                   have c44b0 : decide (0 ≤ (at4 t613 t614 t615 t616 x11_5)) = true := decide_eq_true c44
                   clear c44
                   by_cases c45 : (at4 t613 t614 t615 t616 x11_5) < (x9_5.length : Int)
                   ·rw [if_pos c45] at H
                    have c45b0 : decide ((at4 t613 t614 t615 t616 x11_5) < (x9_5.length : Int)) = true := decide_eq_true c45
                    clear c45
                    obtain ⟨y631, hy631⟩ : ∃ y_ : List Int, y_ = (x9_5.set ((at4 t613 t614 t615 t616 x11_5) : Int).toNat (wrap64 ((rd x9_5 (at4 t613 t614 t615 t616 x11_5)) + 1))) := ⟨_, rfl⟩
                    replace H : (clocheref01_Discs.l0 k5 a1 y631 x10_5 (wrap64 (x11_5 + 1)) t613 t614 t615 t616) = some (r1, r2) := by first | (rw [hy631]; with_reducible exact H) | (have H2_ := (Option.bind_some _ _).symm.trans H; rw [hy631]; with_reducible exact H2_) | (have H2_ := (Option.bind_some _ _).symm.trans H; with_reducible exact H2_) | with_reducible exact H | (rw [hy631]; exact H) | exact H
                    have Ny631 := Aside0.mk hy631
                    clear hy631
                    have H' := Aside0.mk H
                    clear H
                    have hnb48 := NB619_612.out
                    have hnc48 := NB612_619.out
                    have hcz49_0 : wr.cell? ⟨gb619, 0, none⟩ = some (.int .i64 t613) := (blk_cell BK619.out 0).trans rfl
                    have hcz49_1 : wr.cell? ⟨gb619, 1, none⟩ = some (.int .i64 t614) := (blk_cell BK619.out 1).trans rfl
                    have hcz49_2 : wr.cell? ⟨gb619, 2, none⟩ = some (.int .i64 t615) := (blk_cell BK619.out 2).trans rfl
                    have hcz49_3 : wr.cell? ⟨gb619, 3, none⟩ = some (.int .i64 t616) := (blk_cell BK619.out 3).trans rfl
                    have hfz49_0 := blk_frozen BK619.out 0
                    have hfz49_1 := blk_frozen BK619.out 1
                    have hfz49_2 := blk_frozen BK619.out 2
                    have hfz49_3 := blk_frozen BK619.out 3
                    have pdy47 : 0 ≤ (x11_5 : Int) := of_decide_eq_true as_
                    have qdy47 : (x11_5 : Int) < 4 := of_decide_eq_true as_
                    replace pdy47 := eq_true pdy47
                    replace qdy47 := eq_true qdy47
                    have hxdy47 : wr.cell? ⟨gb619, (x11_5 : Int).toNat, none⟩ = some (.int .i64 (at4 t613 t614 t615 t616 x11_5)) := blk_at4 BK619.out (of_eq_true pdy47) (of_eq_true qdy47)
                    have hfdy47 := blk_frozen BK619.out (x11_5 : Int).toNat
                    have pdy50 : 0 ≤ (x11_5 : Int) := of_decide_eq_true as_
                    have qdy50 : (x11_5 : Int) < 4 := of_decide_eq_true as_
                    replace pdy50 := eq_true pdy50
                    replace qdy50 := eq_true qdy50
                    have hxdy50 : wr.cell? ⟨gb619, (x11_5 : Int).toNat, none⟩ = some (.int .i64 (at4 t613 t614 t615 t616 x11_5)) := blk_at4 BK619.out (of_eq_true pdy50) (of_eq_true qdy50)
                    have hfdy50 := blk_frozen BK619.out (x11_5 : Int).toNat
                    have pdy51 : 0 ≤ (x11_5 : Int) := of_decide_eq_true as_
                    have qdy51 : (x11_5 : Int) < 4 := of_decide_eq_true as_
                    replace pdy51 := eq_true pdy51
                    replace qdy51 := eq_true qdy51
                    have hxdy51 : wr.cell? ⟨gb619, (x11_5 : Int).toNat, none⟩ = some (.int .i64 (at4 t613 t614 t615 t616 x11_5)) := blk_at4 BK619.out (of_eq_true pdy51) (of_eq_true qdy51)
                    have hfdy51 := blk_frozen BK619.out (x11_5 : Int).toNat
                    have p630 : 0 ≤ ((at4 t613 t614 t615 t616 x11_5) : Int) := of_decide_eq_true as_
                    have q630 : (at4 t613 t614 t615 t616 x11_5) < (x9_5.length : Int) := of_decide_eq_true as_
                    obtain ⟨ad630, e630, hx630_0⟩ := Kd.at_int (Kd.R_reads' HO_9.out).2.2 (at4 t613 t614 t615 t616 x11_5) p630 q630
                    cases e630
                    replace p630 := eq_true p630
                    replace q630 := eq_true q630
                    have p46 : 0 ≤ ((at4 t613 t614 t615 t616 x11_5) : Int) := of_decide_eq_true as_
                    have q46 : ((at4 t613 t614 t615 t616 x11_5) : Int) < ((x9_5.length : Int) : Int) := of_decide_eq_true as_
                    obtain ⟨go46, co46, eo46, gb46, gl46, cl46, HG46⟩ := Kd.R_form HO_9.out (by omega)
                    (first | cases eo46 | (injection eo46 with ea_ en_ ec_; (first | subst ea_ | (injection ea_ with ea_; subst ea_)); subst ec_; clear en_))
                    have GB46 := Aside0.mk gb46
                    have GG46 := Aside0.mk HG46
                    clear gb46 gl46 HG46
                    (first | simp only [add_plain] at hx630_0 | skip)
                    obtain ⟨hx46_0, hf46_0⟩ := Kd.R_celln 0 HO_9.out ((at4 t613 t614 t615 t616 x11_5) : Int) p46 q46
                    replace p46 := eq_true p46
                    replace q46 := eq_true q46
                    have HP52 := Kd.R_putg HO_9.out ((at4 t613 t614 t615 t616 x11_5) : Int) (wrap64 ((rd x9_5 (at4 t613 t614 t615 t616 x11_5)) + 1))
                    go_wp2_with (first | ((with_reducible refine gate_store (t := 3) (p := 76) rfl ?_); refine store_event (t := 3) (p := 76) (v := ?vo_w53) (w1 := (wr.setCell ⟨go46, ((at4 t613 t614 t615 t616 x11_5) : Int).toNat, none⟩ (.int .i64 (wrap64 ((rd x9_5 (at4 t613 t614 t615 t616 x11_5)) + 1))))) ?hg ?ho ?hn ?hr ?_; (case ho => rfl); (case hg => rfl); (case hn => rfl); (case hr => exact gs_); intro w53 hw; have hg : wr.grownBy w53 (some go46) := (by rw [hw]; exact HP52.2); have hp_ : Kd.R (Kd.int .i64) 3 w53 w.heap.size (fun k_ => some k_ ≠ (u10 : Value).ownBlock) (.slice (some ⟨go46, 0, none⟩) x9_5.length co30) y631 := (by rw [hw, Ny631.out]; exact HP52.1); clear HP52; have n0_ := Aside0.mk (hp_); have n1_ := Aside0.mk (Kd.R_after (v := (.slice (some ⟨go46, 0, none⟩) x9_5.length co30)) (v1 := (.slice (some ⟨go46, 0, none⟩) x9_5.length co30)) (ok := (fun _ => True)) (by refine kr_ ?_; exact Kd.R_mono HO_10.out (fun _ hk => ⟨trivial, hk⟩)) hg (.inl rfl)); have n2_ := Aside0.mk (blk_grown (g := gb612) (o := .cells #[.int .i64 a0_0, .int .i64 a0_1, .int .i64 a0_2, .int .i64 a0_3] 23 (0, 0)) (by refine bs_ ?_; exact BK612.out) hg (Kd.R_ne HO_9.out BK612.out (by decide))); have n3_ := Aside0.mk (blk_grown (g := gb619) (o := .cells #[.int .i64 t613, .int .i64 t614, .int .i64 t615, .int .i64 t616] 23 (0, 0)) (by refine bs_ ?_; exact BK619.out) hg (Kd.R_ne HO_9.out BK619.out (by decide))); have n4_ := Aside0.mk ((by rw [hw]; exact below_set (HB.out) GB46.out : Below w.heap.size w w53)); clear HO_9; clear HO_10; clear BK612; clear BK619; clear HB; have HO_9 := n0_; have HO_10 := n1_; have BK612 := n2_; have BK619 := n3_; have HB := n4_; clear n0_ n1_ n2_ n3_ n4_; clear hg hw hp_))
                    (try simp only [← hl9_5])
                    go_roundg k5
                    case measure => have := HJ3.out; have := HJ12.out; have := HJ14.out; have := HJ18.out; have := HK5.out; omega
                    case rel => exact ⟨(y631), (x10_5), (wrap64 (x11_5 + 1)), eq_, H', ⟨by have := HJ3.out; have := HJ12.out; have := HJ14.out; have := HJ18.out; have := HK5.out; omega⟩, ⟨by (try simp only [hl9_5]); refine kr_ ?_; exact HO_9.out⟩, ⟨by (try simp only [hl9_5]); refine kr_ ?_; exact Kd.R_mono HO_10.out (fun _ hk => hk.2)⟩, ⟨by (try simp only [hl9_5]); refine bs_ ?_; exact BK612.out⟩, ⟨by (try simp only [hl9_5]); refine bs_ ?_; exact BK619.out⟩, ⟨by repeat (first | (with_reducible first | exact HB.out | apply below_alloc | apply pw_below_drewN | apply below_drew1 | refine below_set ?_ GE612.out | refine below_set ?_ GE619.out) | exact HB.out)⟩⟩
                   ·rw [if_neg c45] at H
                    exact absurd H (by simp)
                  ·rw [if_neg c44] at H
                   exact absurd H (by simp)
                 ·rw [if_neg c43] at H
                  have c43b0 : decide ((at4 t613 t614 t615 t616 x11_5) ≤ a1) = false := decide_eq_false c43
                  clear c43
                  have H' := Aside0.mk H
                  clear H
                  have hnb55 := NB619_612.out
                  have hnc55 := NB612_619.out
                  have hcz56_0 : wr.cell? ⟨gb619, 0, none⟩ = some (.int .i64 t613) := (blk_cell BK619.out 0).trans rfl
                  have hcz56_1 : wr.cell? ⟨gb619, 1, none⟩ = some (.int .i64 t614) := (blk_cell BK619.out 1).trans rfl
                  have hcz56_2 : wr.cell? ⟨gb619, 2, none⟩ = some (.int .i64 t615) := (blk_cell BK619.out 2).trans rfl
                  have hcz56_3 : wr.cell? ⟨gb619, 3, none⟩ = some (.int .i64 t616) := (blk_cell BK619.out 3).trans rfl
                  have hfz56_0 := blk_frozen BK619.out 0
                  have hfz56_1 := blk_frozen BK619.out 1
                  have hfz56_2 := blk_frozen BK619.out 2
                  have hfz56_3 := blk_frozen BK619.out 3
                  have pdy54 : 0 ≤ (x11_5 : Int) := of_decide_eq_true as_
                  have qdy54 : (x11_5 : Int) < 4 := of_decide_eq_true as_
                  replace pdy54 := eq_true pdy54
                  replace qdy54 := eq_true qdy54
                  have hxdy54 : wr.cell? ⟨gb619, (x11_5 : Int).toNat, none⟩ = some (.int .i64 (at4 t613 t614 t615 t616 x11_5)) := blk_at4 BK619.out (of_eq_true pdy54) (of_eq_true qdy54)
                  have hfdy54 := blk_frozen BK619.out (x11_5 : Int).toNat
                  have pdy57 : 0 ≤ (x11_5 : Int) := of_decide_eq_true as_
                  have qdy57 : (x11_5 : Int) < 4 := of_decide_eq_true as_
                  replace pdy57 := eq_true pdy57
                  replace qdy57 := eq_true qdy57
                  have hxdy57 : wr.cell? ⟨gb619, (x11_5 : Int).toNat, none⟩ = some (.int .i64 (at4 t613 t614 t615 t616 x11_5)) := blk_at4 BK619.out (of_eq_true pdy57) (of_eq_true qdy57)
                  have hfdy57 := blk_frozen BK619.out (x11_5 : Int).toNat
                  go_wp2
                  (try simp only [← hl9_5])
                  go_roundg k5
                  case measure => have := HJ3.out; have := HJ12.out; have := HJ14.out; have := HJ18.out; have := HK5.out; omega
                  case rel => exact ⟨(x9_5), (x10_5), (wrap64 (x11_5 + 1)), eq_, H', ⟨by have := HJ3.out; have := HJ12.out; have := HJ14.out; have := HJ18.out; have := HK5.out; omega⟩, ⟨by (try simp only [hl9_5]); refine kr_ ?_; exact HO_9.out⟩, ⟨by (try simp only [hl9_5]); refine kr_ ?_; exact HO_10.out⟩, ⟨by (try simp only [hl9_5]); refine bs_ ?_; exact BK612.out⟩, ⟨by (try simp only [hl9_5]); refine bs_ ?_; exact BK619.out⟩, ⟨by repeat (first | (with_reducible first | exact HB.out | apply below_alloc | apply pw_below_drewN | apply below_drew1 | refine below_set ?_ GE612.out | refine below_set ?_ GE619.out) | exact HB.out)⟩⟩
               ·rw [if_neg c35] at H
                exact absurd H (by simp)
              ·rw [if_neg c34] at H
               have c34b0 : decide (x11_5 < 4) = false := decide_eq_false c34
               clear c34
               have H' := Aside0.mk H
               clear H
               obtain ⟨Ao58, co58, eo58⟩ := Kd.R_slice HO_10.out
               subst eo58
               go_wp2
               go_loopg [12, 13] k5 (fun kq v12 v13 w' => ∃ (x12_6 : Int) (x13_6 : Int), v12 = .int .i64 x12_6 ∧ v13 = .int .i64 x13_6 ∧ Aside0 (clocheref01_Discs.l1 kq a1 x9_5 x10_5 x12_6 x13_6 = some (r1, r2)) ∧ Aside0 (kq ≤ k5) ∧ Aside0 (Kd.R (Kd.int .i64) 3 w' w.heap.size (fun k_ => some k_ ≠ ((.slice Ao58 x10_5.length co58) : Value).ownBlock) (.slice Ao30 x9_5.length co30) x9_5) ∧ Aside0 (Kd.R (Kd.int .i64) 3 w' w.heap.size (fun k_ => some k_ ≠ ((.slice Ao30 x9_5.length co30) : Value).ownBlock) (.slice Ao58 x10_5.length co58) x10_5) ∧ Aside0 (w'.heap[gb612]? = some (.cells #[.int .i64 a0_0, .int .i64 a0_1, .int .i64 a0_2, .int .i64 a0_3] 23 (0, 0))) ∧ Aside0 (w'.heap[gb619]? = some (.cells #[.int .i64 t613, .int .i64 t614, .int .i64 t615, .int .i64 t616] 23 (0, 0))) ∧ Aside0 (Below w.heap.size w w'))
               case atStart => exact ⟨((x10_5.length : Int)), (0), eq_, eq_, H', ⟨Nat.le_refl _⟩, ⟨by (try simp only [hl9_5]); refine kr_ ?_; exact HO_9.out⟩, ⟨by (try simp only [hl9_5]); refine kr_ ?_; exact HO_10.out⟩, ⟨by (try simp only [hl9_5]); refine bs_ ?_; exact BK612.out⟩, ⟨by (try simp only [hl9_5]); refine bs_ ?_; exact BK619.out⟩, ⟨by repeat (first | (with_reducible first | exact HB.out | apply below_alloc | apply pw_below_drewN | apply below_drew1 | refine below_set ?_ GE612.out | refine below_set ?_ GE619.out) | exact HB.out)⟩⟩
               case round =>
                clear H'
                try clear c1
                try clear c2
                try clear p2
                try clear c3
                try clear c4
                try clear p4
                try clear q4
                try clear hx4
                try clear hf4
                try clear c5
                try clear p6
                try clear q6
                try clear hx6
                try clear c9
                try clear c11
                try clear c11b0
                try clear c11b1
                try clear c12
                try clear c12b0
                try clear c14
                try clear c16
                try clear c16b0
                try clear c16b1
                try clear c17
                try clear c20
                try clear c21
                try clear c21b0
                try clear c21b1
                try clear c23
                try clear c23b0
                try clear c23b1
                try clear c24
                try clear c24b0
                try clear c24b1
                try clear c28
                try clear c34
                try clear c34b0
                try clear c35
                try clear c35b0
                try clear c36
                try clear c36b0
                try clear c37
                try clear c39
                try clear c43
                try clear c43b0
                try clear c44
                try clear c44b0
                try clear c45
                try clear c45b0
                try clear p46
                try clear q46
                try clear hx46
                try clear hf46
                try clear c48
                try clear c53
                try clear c55
                try clear hcz10_0
                try clear hcz10_1
                try clear hcz10_2
                try clear hcz10_3
                try clear hcz18_0
                try clear hcz18_1
                try clear hcz18_2
                try clear hcz18_3
                try clear hcz29_0
                try clear hcz29_1
                try clear hcz29_2
                try clear hcz29_3
                try clear hcz40_0
                try clear hcz40_1
                try clear hcz40_2
                try clear hcz40_3
                try clear hcz49_0
                try clear hcz49_1
                try clear hcz49_2
                try clear hcz49_3
                try clear hcz56_0
                try clear hcz56_1
                try clear hcz56_2
                try clear hcz56_3
                try clear hcz6_0
                try clear hcz6_1
                try clear hcz6_2
                try clear hcz6_3
                try clear hfz10_0
                try clear hfz10_1
                try clear hfz10_2
                try clear hfz10_3
                try clear hfz18_0
                try clear hfz18_1
                try clear hfz18_2
                try clear hfz18_3
                try clear hfz29_0
                try clear hfz29_1
                try clear hfz29_2
                try clear hfz29_3
                try clear hfz40_0
                try clear hfz40_1
                try clear hfz40_2
                try clear hfz40_3
                try clear hfz49_0
                try clear hfz49_1
                try clear hfz49_2
                try clear hfz49_3
                try clear hfz56_0
                try clear hfz56_1
                try clear hfz56_2
                try clear hfz56_3
                try clear hfz6_0
                try clear hfz6_1
                try clear hfz6_2
                try clear hfz6_3
                try clear hx46_0
                try clear hx630_0
                try clear p2
                try clear p46
                try clear p6
                try clear p630
                try clear q46
                try clear q630
                obtain ⟨x12_6, x13_6, rfl, rfl, HA, HK6, HO_9, HO_10, BK612, BK619, HB⟩ := hrel
                cases gk with
                | zero => exact absurd HA.out (by simp [clocheref01_Discs.l1])
                | succ k6 =>
                 have H := HA.out
                 clear HA
                 simp only [clocheref01_Discs.l1] at H
                 by_cases c59 : x13_6 ≤ a1
                 ·rw [if_pos c59] at H
                  have c59b0 : decide (x13_6 ≤ a1) = true := decide_eq_true c59
                  clear c59
                  by_cases c60 : 0 ≤ x13_6
                  ·rw [if_pos c60] at H
                   have c60b0 : decide (0 ≤ x13_6) = true := decide_eq_true c60
                   clear c60
                   by_cases c61 : x13_6 < (x9_5.length : Int)
                   ·rw [if_pos c61] at H
                    have c61b0 : decide (x13_6 < (x9_5.length : Int)) = true := decide_eq_true c61
                    clear c61
                    have H' := Aside0.mk H
                    clear H
                    have p632 : 0 ≤ (x13_6 : Int) := of_decide_eq_true as_
                    have q632 : x13_6 < (x9_5.length : Int) := of_decide_eq_true as_
                    obtain ⟨ad632, e632, hx632_0⟩ := Kd.at_int (Kd.R_reads' HO_9.out).2.2 x13_6 p632 q632
                    cases e632
                    replace p632 := eq_true p632
                    replace q632 := eq_true q632
                    go_wp2
                    go_roundg k6
                    case measure => have := HJ3.out; have := HJ12.out; have := HJ14.out; have := HJ18.out; have := HK5.out; have := HK6.out; omega
                    case rel => exact ⟨(wrap64 (x12_6 + (rd x9_5 x13_6))), (wrap64 (x13_6 + 1)), eq_, eq_, H', ⟨by have := HJ3.out; have := HJ12.out; have := HJ14.out; have := HJ18.out; have := HK5.out; have := HK6.out; omega⟩, ⟨by (try simp only [hl9_5]); refine kr_ ?_; exact HO_9.out⟩, ⟨by (try simp only [hl9_5]); refine kr_ ?_; exact HO_10.out⟩, ⟨by (try simp only [hl9_5]); refine bs_ ?_; exact BK612.out⟩, ⟨by (try simp only [hl9_5]); refine bs_ ?_; exact BK619.out⟩, ⟨by repeat (first | (with_reducible first | exact HB.out | apply below_alloc | apply pw_below_drewN | apply below_drew1 | refine below_set ?_ GE612.out | refine below_set ?_ GE619.out) | exact HB.out)⟩⟩
                   ·rw [if_neg c61] at H
                    exact absurd H (by simp)
                  ·rw [if_neg c60] at H
                   exact absurd H (by simp)
                 ·rw [if_neg c59] at H
                  have c59b0 : decide (x13_6 ≤ a1) = false := decide_eq_false c59
                  clear c59
                  by_cases c62 : x12_6 > 20000
                  ·rw [if_pos c62] at H
                   have c62b0 : decide (20000 < x12_6) = true := decide_eq_true c62
                   clear c62
                   simp only [Option.some.injEq, Prod.mk.injEq] at H
                   obtain ⟨rfl, rfl⟩ := H
                   go_wp2
                   go_ret2
                   exact ⟨_, by first | rfl | (simp [errW_none, errW_some] <;> rfl) | (simp only [← hji22]; first | rfl | (simp [errW_none, errW_some] <;> rfl)) | (simp [*, errW_none, errW_some] <;> rfl), by first | exact Kd.R_nil _ _ _ _ _ | exact Kd.N_nil _ _ _ _ _ | exact Kd.V_nil _ _ _ _ _ | exact Kd.Q_nil _ _ _ _ _ | exact Kd.S_nil _ _ _ _ _, by repeat (first | (with_reducible first | exact HB.out | apply below_alloc | apply pw_below_drewN | apply below_drew1 | refine below_set ?_ GE612.out | refine below_set ?_ GE619.out) | exact HB.out)⟩
                  ·rw [if_neg c62] at H
                   have c62b0 : decide (20000 < x12_6) = false := decide_eq_false c62
                   clear c62
                   have H' := Aside0.mk H
                   clear H
                   go_wp2
                   go_loopg [10, 14] k6 (fun kq v10 v14 w' => ∃ (x10_7 : List Int) (x14_7 : Int), v14 = .int .i64 x14_7 ∧ Aside0 (clocheref01_Discs.l2 kq a1 x9_5 x10_7 x14_7 = some (r1, r2)) ∧ Aside0 (kq ≤ k6) ∧ Aside0 (Kd.R (Kd.int .i64) 3 w' w.heap.size (fun k_ => some k_ ≠ (v10 : Value).ownBlock) (.slice Ao30 x9_5.length co30) x9_5) ∧ Aside0 (Kd.R (Kd.int .i64) 3 w' w.heap.size (fun k_ => some k_ ≠ ((.slice Ao30 x9_5.length co30) : Value).ownBlock) v10 x10_7) ∧ Aside0 (w'.heap[gb612]? = some (.cells #[.int .i64 a0_0, .int .i64 a0_1, .int .i64 a0_2, .int .i64 a0_3] 23 (0, 0))) ∧ Aside0 (w'.heap[gb619]? = some (.cells #[.int .i64 t613, .int .i64 t614, .int .i64 t615, .int .i64 t616] 23 (0, 0))) ∧ Aside0 (Below w.heap.size w w'))
                   case atStart => exact ⟨(x10_5), (0), eq_, H', ⟨Nat.le_refl _⟩, ⟨by (try simp only [hl9_5]); refine kr_ ?_; exact HO_9.out⟩, ⟨by (try simp only [hl9_5]); refine kr_ ?_; exact HO_10.out⟩, ⟨by (try simp only [hl9_5]); refine bs_ ?_; exact BK612.out⟩, ⟨by (try simp only [hl9_5]); refine bs_ ?_; exact BK619.out⟩, ⟨by repeat (first | (with_reducible first | exact HB.out | apply below_alloc | apply pw_below_drewN | apply below_drew1 | refine below_set ?_ GE612.out | refine below_set ?_ GE619.out) | exact HB.out)⟩⟩
                   case round =>
                    clear H'
                    try clear c1
                    try clear c2
                    try clear p2
                    try clear c3
                    try clear c4
                    try clear p4
                    try clear q4
                    try clear hx4
                    try clear hf4
                    try clear c5
                    try clear c6
                    try clear p6
                    try clear q6
                    try clear hx6
                    try clear c9
                    try clear c11
                    try clear c11b0
                    try clear c11b1
                    try clear c12
                    try clear c12b0
                    try clear c14
                    try clear c16
                    try clear c16b0
                    try clear c16b1
                    try clear c17
                    try clear c20
                    try clear c21
                    try clear c21b0
                    try clear c21b1
                    try clear c23
                    try clear c23b0
                    try clear c23b1
                    try clear c24
                    try clear c24b0
                    try clear c24b1
                    try clear c28
                    try clear c34
                    try clear c34b0
                    try clear c35
                    try clear c35b0
                    try clear c36
                    try clear c36b0
                    try clear c37
                    try clear c39
                    try clear c43
                    try clear c43b0
                    try clear c44
                    try clear c44b0
                    try clear c45
                    try clear c45b0
                    try clear p46
                    try clear q46
                    try clear hx46
                    try clear hf46
                    try clear c48
                    try clear c53
                    try clear c55
                    try clear c59
                    try clear c59b0
                    try clear c60
                    try clear c60b0
                    try clear c61
                    try clear c61b0
                    try clear c62
                    try clear c62b0
                    try clear hcz10_0
                    try clear hcz10_1
                    try clear hcz10_2
                    try clear hcz10_3
                    try clear hcz18_0
                    try clear hcz18_1
                    try clear hcz18_2
                    try clear hcz18_3
                    try clear hcz29_0
                    try clear hcz29_1
                    try clear hcz29_2
                    try clear hcz29_3
                    try clear hcz40_0
                    try clear hcz40_1
                    try clear hcz40_2
                    try clear hcz40_3
                    try clear hcz49_0
                    try clear hcz49_1
                    try clear hcz49_2
                    try clear hcz49_3
                    try clear hcz56_0
                    try clear hcz56_1
                    try clear hcz56_2
                    try clear hcz56_3
                    try clear hcz6_0
                    try clear hcz6_1
                    try clear hcz6_2
                    try clear hcz6_3
                    try clear hfz10_0
                    try clear hfz10_1
                    try clear hfz10_2
                    try clear hfz10_3
                    try clear hfz18_0
                    try clear hfz18_1
                    try clear hfz18_2
                    try clear hfz18_3
                    try clear hfz29_0
                    try clear hfz29_1
                    try clear hfz29_2
                    try clear hfz29_3
                    try clear hfz40_0
                    try clear hfz40_1
                    try clear hfz40_2
                    try clear hfz40_3
                    try clear hfz49_0
                    try clear hfz49_1
                    try clear hfz49_2
                    try clear hfz49_3
                    try clear hfz56_0
                    try clear hfz56_1
                    try clear hfz56_2
                    try clear hfz56_3
                    try clear hfz6_0
                    try clear hfz6_1
                    try clear hfz6_2
                    try clear hfz6_3
                    try clear hx46_0
                    try clear hx630_0
                    try clear hx632_0
                    try clear p2
                    try clear p4
                    try clear p46
                    try clear p6
                    try clear p630
                    try clear p632
                    try clear q4
                    try clear q46
                    try clear q6
                    try clear q630
                    try clear q632
                    obtain ⟨x10_7, x14_7, rfl, HA, HK7, HO_9, HO_10, BK612, BK619, HB⟩ := hrel
                    cases gk with
                    | zero => exact absurd HA.out (by simp [clocheref01_Discs.l2])
                    | succ k7 =>
                     have H := HA.out
                     clear HA
                     simp only [clocheref01_Discs.l2] at H
                     by_cases c63 : x14_7 ≤ a1
                     ·rw [if_pos c63] at H
                      have c63b0 : decide (x14_7 ≤ a1) = true := decide_eq_true c63
                      clear c63
                      have H' := Aside0.mk H
                      clear H
                      go_wp2
                      go_loopg [10, 15] k7 (fun kq v10 v15 w' => ∃ (x10_8 : List Int) (x15_8 : Int), v15 = .int .i64 x15_8 ∧ Aside0 (clocheref01_Discs.l3 kq a1 x9_5 x10_8 x14_7 x15_8 = some (r1, r2)) ∧ Aside0 (kq ≤ k7) ∧ Aside0 (Kd.R (Kd.int .i64) 3 w' w.heap.size (fun k_ => some k_ ≠ (v10 : Value).ownBlock) (.slice Ao30 x9_5.length co30) x9_5) ∧ Aside0 (Kd.R (Kd.int .i64) 3 w' w.heap.size (fun k_ => some k_ ≠ ((.slice Ao30 x9_5.length co30) : Value).ownBlock) v10 x10_8) ∧ Aside0 (w'.heap[gb612]? = some (.cells #[.int .i64 a0_0, .int .i64 a0_1, .int .i64 a0_2, .int .i64 a0_3] 23 (0, 0))) ∧ Aside0 (w'.heap[gb619]? = some (.cells #[.int .i64 t613, .int .i64 t614, .int .i64 t615, .int .i64 t616] 23 (0, 0))) ∧ Aside0 (Below w.heap.size w w'))
                      case atStart => exact ⟨(x10_7), (0), eq_, H', ⟨Nat.le_refl _⟩, ⟨by (try simp only [hl9_5]); refine kr_ ?_; exact HO_9.out⟩, ⟨by (try simp only [hl9_5]); refine kr_ ?_; exact HO_10.out⟩, ⟨by (try simp only [hl9_5]); refine bs_ ?_; exact BK612.out⟩, ⟨by (try simp only [hl9_5]); refine bs_ ?_; exact BK619.out⟩, ⟨by repeat (first | (with_reducible first | exact HB.out | apply below_alloc | apply pw_below_drewN | apply below_drew1 | refine below_set ?_ GE612.out | refine below_set ?_ GE619.out) | exact HB.out)⟩⟩
                      case round =>
                       clear H'
                       try clear c1
                       try clear c2
                       try clear p2
                       try clear c3
                       try clear c4
                       try clear p4
                       try clear q4
                       try clear hx4
                       try clear hf4
                       try clear c5
                       try clear c6
                       try clear p6
                       try clear q6
                       try clear hx6
                       try clear c9
                       try clear c11
                       try clear c11b0
                       try clear c11b1
                       try clear c12
                       try clear c12b0
                       try clear c14
                       try clear c16
                       try clear c16b0
                       try clear c16b1
                       try clear c17
                       try clear c20
                       try clear c21
                       try clear c21b0
                       try clear c21b1
                       try clear c23
                       try clear c23b0
                       try clear c23b1
                       try clear c24
                       try clear c24b0
                       try clear c24b1
                       try clear c28
                       try clear c34
                       try clear c34b0
                       try clear c35
                       try clear c35b0
                       try clear c36
                       try clear c36b0
                       try clear c37
                       try clear c39
                       try clear c43
                       try clear c43b0
                       try clear c44
                       try clear c44b0
                       try clear c45
                       try clear c45b0
                       try clear p46
                       try clear q46
                       try clear hx46
                       try clear hf46
                       try clear c48
                       try clear c53
                       try clear c55
                       try clear c59
                       try clear c59b0
                       try clear c60
                       try clear c60b0
                       try clear c61
                       try clear c61b0
                       try clear c62
                       try clear c62b0
                       try clear c63
                       try clear c63b0
                       try clear p63
                       try clear q63
                       try clear hx63
                       try clear hcz10_0
                       try clear hcz10_1
                       try clear hcz10_2
                       try clear hcz10_3
                       try clear hcz18_0
                       try clear hcz18_1
                       try clear hcz18_2
                       try clear hcz18_3
                       try clear hcz29_0
                       try clear hcz29_1
                       try clear hcz29_2
                       try clear hcz29_3
                       try clear hcz40_0
                       try clear hcz40_1
                       try clear hcz40_2
                       try clear hcz40_3
                       try clear hcz49_0
                       try clear hcz49_1
                       try clear hcz49_2
                       try clear hcz49_3
                       try clear hcz56_0
                       try clear hcz56_1
                       try clear hcz56_2
                       try clear hcz56_3
                       try clear hcz6_0
                       try clear hcz6_1
                       try clear hcz6_2
                       try clear hcz6_3
                       try clear hfz10_0
                       try clear hfz10_1
                       try clear hfz10_2
                       try clear hfz10_3
                       try clear hfz18_0
                       try clear hfz18_1
                       try clear hfz18_2
                       try clear hfz18_3
                       try clear hfz29_0
                       try clear hfz29_1
                       try clear hfz29_2
                       try clear hfz29_3
                       try clear hfz40_0
                       try clear hfz40_1
                       try clear hfz40_2
                       try clear hfz40_3
                       try clear hfz49_0
                       try clear hfz49_1
                       try clear hfz49_2
                       try clear hfz49_3
                       try clear hfz56_0
                       try clear hfz56_1
                       try clear hfz56_2
                       try clear hfz56_3
                       try clear hfz6_0
                       try clear hfz6_1
                       try clear hfz6_2
                       try clear hfz6_3
                       try clear hx46_0
                       try clear hx630_0
                       try clear hx632_0
                       try clear p2
                       try clear p4
                       try clear p46
                       try clear p6
                       try clear p630
                       try clear p632
                       try clear q4
                       try clear q46
                       try clear q6
                       try clear q630
                       try clear q632
                       obtain ⟨x10_8, x15_8, rfl, HA, HK8, HO_9, HO_10, BK612, BK619, HB⟩ := hrel
                       cases gk with
                       | zero => exact absurd HA.out (by simp [clocheref01_Discs.l3])
                       | succ k8 =>
                        have H := HA.out
                        clear HA
                        simp only [clocheref01_Discs.l3] at H
                        by_cases c64 : 0 ≤ x14_7
                        ·rw [if_pos c64] at H
                         have c64b0 : decide (0 ≤ x14_7) = true := decide_eq_true c64
                         clear c64
                         by_cases c65 : x14_7 < (x9_5.length : Int)
                         ·rw [if_pos c65] at H
                          have c65b0 : decide (x14_7 < (x9_5.length : Int)) = true := decide_eq_true c65
                          clear c65
                          by_cases c66 : x15_8 < (rd x9_5 x14_7)
                          ·rw [if_pos c66] at H
                           have c66b0 : decide (x15_8 < (rd x9_5 x14_7)) = true := decide_eq_true c66
                           clear c66
                           by_cases c67 : x10_8.length < 17592186044416
                           ·rw [if_pos c67] at H
                            have LMc67 := Aside0.mk c67
                            clear c67
                            obtain ⟨y634, hy634⟩ : ∃ y_ : List Int, y_ = (x10_8 ++ [x14_7]) := ⟨_, rfl⟩
                            replace H : (clocheref01_Discs.l3 k8 a1 x9_5 y634 x14_7 (wrap64 (x15_8 + 1))) = some (r1, r2) := by first | (rw [hy634]; with_reducible exact H) | (have H2_ := (Option.bind_some _ _).symm.trans H; rw [hy634]; with_reducible exact H2_) | (have H2_ := (Option.bind_some _ _).symm.trans H; with_reducible exact H2_) | with_reducible exact H | (rw [hy634]; exact H) | exact H
                            have Ny634 := Aside0.mk hy634
                            clear hy634
                            have H' := Aside0.mk H
                            clear H
                            have p633 : 0 ≤ (x14_7 : Int) := of_decide_eq_true as_
                            have q633 : x14_7 < (x9_5.length : Int) := of_decide_eq_true as_
                            obtain ⟨ad633, e633, hx633_0⟩ := Kd.at_int (Kd.R_reads' HO_9.out).2.2 x14_7 p633 q633
                            cases e633
                            replace p633 := eq_true p633
                            replace q633 := eq_true q633
                            go_wp2_with (first | ((with_reducible refine gate_builtin (b := .append) (xs := #[.tmp 105, .tmp 107]) rfl ?_); at_builtin; refine Kd.R_append (Kd.int .i64) (w0 := w) w.heap.size rfl (.tmp 105) (.tmp 107) 35 3 (.int .i64 0) 8 rfl Try.underlying35 info3 rfl (by decide) (by omega) u10 x10_8 x14_7 [.int .i64 x14_7] (fun k_ => some k_ ≠ (.slice (some ad633) x9_5.length co30 : Value).ownBlock) (fun _ => False) rfl rfl ?aP (fun _ hk => hk.elim) ?aF ?aO ?aB ?aS ?aL ?_; (case aP => exact rfl); (case aB => exact (by repeat (first | (with_reducible first | exact HB.out | apply below_alloc | apply pw_below_drewN | apply below_drew1 | refine below_set ?_ GE612.out | refine below_set ?_ GE619.out) | exact HB.out))); (case aF => exact (fun k_ hk => Kd.fresh' (Kd.R_lt (by refine kr_ ?_; exact HO_9.out)) k_ hk)); (case aO => exact (by refine kr_ ?_; exact HO_10.out)); (case aS => exact (below_size (by repeat (first | (with_reducible first | exact HB.out | apply below_alloc | apply pw_below_drewN | apply below_drew1 | refine below_set ?_ GE612.out | refine below_set ?_ GE619.out) | exact HB.out)))); (case aL => have := LMc67.out; omega); intro v635 w68 ho hb hg hat; rw [← Ny634.out] at ho; have n0_ := Aside0.mk (Kd.R_after (ok := (fun _ => True)) (by refine kr_ ?_; exact Kd.R_mono HO_9.out (fun _ hk => ⟨trivial, hk⟩)) hg hat); have n1_ := Aside0.mk (blk_grown (g := gb612) (o := .cells #[.int .i64 a0_0, .int .i64 a0_1, .int .i64 a0_2, .int .i64 a0_3] 23 (0, 0)) (by refine bs_ ?_; exact BK612.out) hg (Kd.R_ne HO_10.out BK612.out (by decide))); have n2_ := Aside0.mk (blk_grown (g := gb619) (o := .cells #[.int .i64 t613, .int .i64 t614, .int .i64 t615, .int .i64 t616] 23 (0, 0)) (by refine bs_ ?_; exact BK619.out) hg (Kd.R_ne HO_10.out BK619.out (by decide))); have n3_ := Aside0.mk (hb); have n4_ := Aside0.mk (ho); clear HO_9; clear BK612; clear BK619; clear HB; clear HO_10; have HO_9 := n0_; have BK612 := n1_; have BK619 := n2_; have HB := n3_; have HO636 := n4_; clear n0_ n1_ n2_ n3_ n4_; clear ho hb hg hat))
                            go_roundg k8
                            case measure => have := HJ3.out; have := HJ12.out; have := HJ14.out; have := HJ18.out; have := HK5.out; have := HK6.out; have := HK7.out; have := HK8.out; omega
                            case rel => exact ⟨(y634), (wrap64 (x15_8 + 1)), eq_, H', ⟨by have := HJ3.out; have := HJ12.out; have := HJ14.out; have := HJ18.out; have := HK5.out; have := HK6.out; have := HK7.out; have := HK8.out; omega⟩, ⟨by (try simp only [hl9_5]); refine kr_ ?_; exact Kd.R_mono HO_9.out (fun _ hk => hk.2)⟩, ⟨by (try simp only [hl9_5]); refine kr_ ?_; exact HO636.out⟩, ⟨by (try simp only [hl9_5]); refine bs_ ?_; exact BK612.out⟩, ⟨by (try simp only [hl9_5]); refine bs_ ?_; exact BK619.out⟩, ⟨by repeat (first | (with_reducible first | exact HB.out | apply below_alloc | apply pw_below_drewN | apply below_drew1 | refine below_set ?_ GE612.out | refine below_set ?_ GE619.out) | exact HB.out)⟩⟩
                           ·rw [if_neg c67] at H
                            exact absurd H (by simp)
                          ·rw [if_neg c66] at H
                           have c66b0 : decide (x15_8 < (rd x9_5 x14_7)) = false := decide_eq_false c66
                           clear c66
                           have H' := Aside0.mk H
                           clear H
                           have p633 : 0 ≤ (x14_7 : Int) := of_decide_eq_true as_
                           have q633 : x14_7 < (x9_5.length : Int) := of_decide_eq_true as_
                           obtain ⟨ad633, e633, hx633_0⟩ := Kd.at_int (Kd.R_reads' HO_9.out).2.2 x14_7 p633 q633
                           cases e633
                           replace p633 := eq_true p633
                           replace q633 := eq_true q633
                           go_wp2
                           go_roundg k8
                           case measure => have := HJ3.out; have := HJ12.out; have := HJ14.out; have := HJ18.out; have := HK5.out; have := HK6.out; have := HK7.out; have := HK8.out; omega
                           case rel => exact ⟨(x10_8), (wrap64 (x14_7 + 1)), eq_, H', ⟨by have := HJ3.out; have := HJ12.out; have := HJ14.out; have := HJ18.out; have := HK5.out; have := HK6.out; have := HK7.out; have := HK8.out; omega⟩, ⟨by (try simp only [hl9_5]); refine kr_ ?_; exact HO_9.out⟩, ⟨by (try simp only [hl9_5]); refine kr_ ?_; exact HO_10.out⟩, ⟨by (try simp only [hl9_5]); refine bs_ ?_; exact BK612.out⟩, ⟨by (try simp only [hl9_5]); refine bs_ ?_; exact BK619.out⟩, ⟨by repeat (first | (with_reducible first | exact HB.out | apply below_alloc | apply pw_below_drewN | apply below_drew1 | refine below_set ?_ GE612.out | refine below_set ?_ GE619.out) | exact HB.out)⟩⟩
                         ·rw [if_neg c65] at H
                          exact absurd H (by simp)
                        ·rw [if_neg c64] at H
                         exact absurd H (by simp)
                     ·rw [if_neg c63] at H
                      have c63b0 : decide (x14_7 ≤ a1) = false := decide_eq_false c63
                      clear c63
                      simp only [Option.some.injEq, Prod.mk.injEq] at H
                      obtain ⟨rfl, rfl⟩ := H
                      go_wp2
                      go_ret2
                      exact ⟨_, by first | rfl | (simp [errW_none, errW_some] <;> rfl) | (simp only [← hji22]; first | rfl | (simp [errW_none, errW_some] <;> rfl)) | (simp [*, errW_none, errW_some] <;> rfl), by refine kr_ ?_; exact Kd.R_mono HO_10.out (fun _ hk => trivial), by repeat (first | (with_reducible first | exact HB.out | apply below_alloc | apply pw_below_drewN | apply below_drew1 | refine below_set ?_ GE612.out | refine below_set ?_ GE619.out) | exact HB.out)⟩
           ·rw [if_neg c24] at H
            exact absurd H (by simp)
          ·rw [if_neg c23] at H
           exact absurd H (by simp)
         ·rw [if_neg c21] at H
          have c21b0 : (x8_18 == 0) = false := beq_eq_false_iff_ne.mpr c21
          have c21b1 : (x8_18 != 0) = true := bne_iff_ne.mpr c21
          simp only [Option.some.injEq, Prod.mk.injEq] at H
          obtain ⟨rfl, rfl⟩ := H
          go_wp2
          go_ret2
          exact ⟨_, by first | rfl | (simp [errW_none, errW_some] <;> rfl) | (simp [*, errW_none, errW_some] <;> rfl), by first | exact Kd.R_nil _ _ _ _ _ | exact Kd.N_nil _ _ _ _ _ | exact Kd.V_nil _ _ _ _ _ | exact Kd.Q_nil _ _ _ _ _ | exact Kd.S_nil _ _ _ _ _, by repeat (first | (with_reducible first | exact HB.out | apply below_alloc | apply pw_below_drewN | apply below_drew1 | refine below_set ?_ GE612.out | refine below_set ?_ GE619.out) | exact HB.out)⟩

end Go.Proofs.Ytlfmafebmnggeaa.Print
