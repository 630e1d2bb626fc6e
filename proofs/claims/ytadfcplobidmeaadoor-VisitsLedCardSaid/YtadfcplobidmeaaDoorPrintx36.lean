/- What the functions of the visits compute, printed by this repo's hand printer. -/
import Derived.Test.YtadfcplobidmeaaDoorPrintx0
import Derived.Test.YtadfcplobidmeaaDoorPrintx2
import Derived.Test.YtadfcplobidmeaaDoorPrintx5
import Derived.Test.YtadfcplobidmeaaDoorPrintx6
import Derived.Test.YtadfcplobidmeaaDoorPrintx8
import Derived.Test.YtadfcplobidmeaaDoorPrintx10
import Derived.Test.YtadfcplobidmeaaDoorPrintx11
import Derived.Test.YtadfcplobidmeaaDoorPrintx22
import Derived.Test.YtadfcplobidmeaaDoorPrintx34
namespace Go.Proofs.YtadfcplobidmeaaDoor.Print
open Go.RowKit Go.Proofs.YtadfcplobidmeaaDoorW.PrintWords Go.Proofs.YtadfcplobidmeaaDoorW.PrintLast Go.Proofs.YtadfcplobidmeaaDoorW.PrintMore
attribute [local go_sem] max2_int min2_int max_two min_two max_three min_three max_four min_four   -- for this text's walks alone
set_option linter.unusedVariables false
set_option linter.unusedSimpArgs false

/-! ### clochelaw03_VisitsLed: function 13 -/
mutual
def clochelaw03_VisitsLed.j0 : Nat → List Int → Int → List Int → Bool → Option (Bool)
  | 0, _, _, _, _ => none
  | k + 1, x0, x1, x2, x36 => if x36 = true then ((clochelaw03_alive.f k).bind fun t490 => (some t490)) else (if (x0.length : Int) = 0 then (none) else (if 0 ≤ (Int.tmod (wrap64 (x1)) (x0.length : Int)) then ((visits_Wins.f k x0 (shl .i64 1 (Int.tmod (wrap64 (x1)) (x0.length : Int))) (Int.tmod (wrap64 (x1)) (x0.length : Int))).bind fun bt491 => ((visits_Needed.f k x0).bind fun bt493 => ((visits_Starts.f k x0).bind fun bt495 => ((visits_Largest.f k x0).bind fun bt497 => (if bt491.2 = 0 then (if bt493.2 = 0 then (if bt495.2 = 0 then (if bt497.2 = 0 then (if (bt491.1 != ((Int.tmod (shr .i64 bt493.1 (Int.tmod (wrap64 (x1)) (x0.length : Int))) 2) == 1)) = true then (none) else (clochelaw03_VisitsLed.j1 k x0 x2 (x0.length : Int) (Int.tmod (wrap64 (x1)) (x0.length : Int)) bt491.1 bt497.1 (bt495.1 != (wrap64 ((wrap64 ((shl .i64 1 (x0.length : Int)) - 1)) - bt493.1))))) else (none)) else (none)) else (none)) else (none)))))) else (none)))
def clochelaw03_VisitsLed.j1 : Nat → List Int → List Int → Int → Int → Bool → List (S43) → Bool → Option (Bool)
  | 0, _, _, _, _, _, _, _ => none
  | k + 1, x0, x2, x7, x8, x9, x15, x98 => if x98 = true then (none) else (if x9 = true then (if 0 ≤ x8 then (clochelaw03_VisitsLed.l0 k x0 x2 x7 x8 x15 (shl .i64 1 x8) 0) else (none)) else ((clochelaw03_alive.f k).bind fun t501 => (some t501)))
def clochelaw03_VisitsLed.l0 : Nat → List Int → List Int → Int → Int → List (S43) → Int → Int → Option (Bool)
  | 0, _, _, _, _, _, _, _ => none
  | k + 1, x0, x2, x7, x8, x15, x17, x18 => if x18 ≤ x7 then ((visits_Answer.f k x0 x15 x8).bind fun bt502 => (if bt502.2 = 0 then (if bt502.1 < 0 then (none) else (if bt502.1 ≥ x7 then (none) else (if 0 ≤ bt502.1 then (if (Int.tmod (shr .i64 x17 bt502.1) 2) = 1 then (none) else (if 0 ≤ x8 then (if x8 < (x0.length : Int) then (clochelaw03_VisitsLed.j3 k x0 x2 x7 x8 x15 x17 x18 bt502.1 ((Int.tmod (shr .i64 (rd x0 x8) bt502.1) 2) == 0)) else (none)) else (none))) else (none)))) else (none))) else (none)
def clochelaw03_VisitsLed.j3 : Nat → List Int → List Int → Int → Int → List (S43) → Int → Int → Int → Bool → Option (Bool)
  | 0, _, _, _, _, _, _, _, _, _ => none
  | k + 1, x0, x2, x7, x8, x15, x17, x18, x19, x143 => if x143 = true then (none) else (if 0 ≤ x19 then (if x19 < (x0.length : Int) then (if (Go.bits .andNot .i64 (rd x0 x19) (Go.bits .or .i64 x17 (shl .i64 1 x19))) = 0 then ((clochelaw03_alive.f k).bind fun t506 => (some t506)) else (if x18 < (x2.length : Int) then (if 0 ≤ x18 then ((clocheref03_Size.f k (Go.bits .andNot .i64 (rd x0 x19) (Go.bits .or .i64 x17 (shl .i64 1 x19)))).bind fun t508 => (if t508 = 0 then (none) else (clochelaw03_VisitsLed.j4 k x0 x2 x7 x8 x15 (Go.bits .or .i64 x17 (shl .i64 1 x19)) x18 (Go.bits .andNot .i64 (rd x0 x19) (Go.bits .or .i64 x17 (shl .i64 1 x19))) (Int.tmod (wrap64 (rd x2 x18)) t508)))) else (none)) else (clochelaw03_VisitsLed.j4 k x0 x2 x7 x8 x15 (Go.bits .or .i64 x17 (shl .i64 1 x19)) x18 (Go.bits .andNot .i64 (rd x0 x19) (Go.bits .or .i64 x17 (shl .i64 1 x19))) 0))) else (none)) else (none))
def clochelaw03_VisitsLed.j4 : Nat → List Int → List Int → Int → Int → List (S43) → Int → Int → Int → Int → Option (Bool)
  | 0, _, _, _, _, _, _, _, _, _ => none
  | k + 1, x0, x2, x7, x8, x15, x17, x18, x21, x22 => clochelaw03_VisitsLed.l1 k x0 x2 x7 x8 x15 x17 x18 x21 x22 0
def clochelaw03_VisitsLed.l1 : Nat → List Int → List Int → Int → Int → List (S43) → Int → Int → Int → Int → Int → Option (Bool)
  | 0, _, _, _, _, _, _, _, _, _, _ => none
  | k + 1, x0, x2, x7, x8, x15, x17, x18, x21, x22, x23 => if x23 < x7 then (if 0 ≤ x23 then (if (Int.tmod (shr .i64 x21 x23) 2) = 1 then (if x22 = 0 then (clochelaw03_VisitsLed.l0 k x0 x2 x7 x23 x15 (Go.bits .or .i64 x17 (shl .i64 1 x23)) (wrap64 (x18 + 1))) else (clochelaw03_VisitsLed.l1 k x0 x2 x7 x8 x15 x17 x18 x21 (wrap64 (x22 - 1)) (wrap64 (x23 + 1)))) else (clochelaw03_VisitsLed.l1 k x0 x2 x7 x8 x15 x17 x18 x21 x22 (wrap64 (x23 + 1)))) else (none)) else (if 0 ≤ x8 then (clochelaw03_VisitsLed.l0 k x0 x2 x7 x8 x15 (Go.bits .or .i64 x17 (shl .i64 1 x8)) (wrap64 (x18 + 1))) else (none))
end
def clochelaw03_VisitsLed.f (k : Nat) (l0 : List Int) (a1 : Int) (l2 : List Int) : Option (Bool) := (clochelaw03_few.f l0 ([] : List (S43))).bind fun t488 => (if t488 = true then (if (l2.length : Int) > 40 then (clochelaw03_VisitsLed.j0 k l0 a1 l2 true) else ((clocheref03_IsShop.f k l0).bind fun t489 => (clochelaw03_VisitsLed.j0 k l0 a1 l2 (!t489)))) else (clochelaw03_VisitsLed.j0 k l0 a1 l2 true))
theorem clochelaw03_VisitsLed.mono_l : ∀ k, (∀ y0 y1 y2 y3, LeO (clochelaw03_VisitsLed.j0 k y0 y1 y2 y3) (clochelaw03_VisitsLed.j0 (k + 1) y0 y1 y2 y3)) ∧ (∀ y0 y1 y2 y3 y4 y5 y6, LeO (clochelaw03_VisitsLed.j1 k y0 y1 y2 y3 y4 y5 y6) (clochelaw03_VisitsLed.j1 (k + 1) y0 y1 y2 y3 y4 y5 y6)) ∧ (∀ y0 y1 y2 y3 y4 y5 y6, LeO (clochelaw03_VisitsLed.l0 k y0 y1 y2 y3 y4 y5 y6) (clochelaw03_VisitsLed.l0 (k + 1) y0 y1 y2 y3 y4 y5 y6)) ∧ (∀ y0 y1 y2 y3 y4 y5 y6 y7 y8, LeO (clochelaw03_VisitsLed.j3 k y0 y1 y2 y3 y4 y5 y6 y7 y8) (clochelaw03_VisitsLed.j3 (k + 1) y0 y1 y2 y3 y4 y5 y6 y7 y8)) ∧ (∀ y0 y1 y2 y3 y4 y5 y6 y7 y8, LeO (clochelaw03_VisitsLed.j4 k y0 y1 y2 y3 y4 y5 y6 y7 y8) (clochelaw03_VisitsLed.j4 (k + 1) y0 y1 y2 y3 y4 y5 y6 y7 y8)) ∧ (∀ y0 y1 y2 y3 y4 y5 y6 y7 y8 y9, LeO (clochelaw03_VisitsLed.l1 k y0 y1 y2 y3 y4 y5 y6 y7 y8 y9) (clochelaw03_VisitsLed.l1 (k + 1) y0 y1 y2 y3 y4 y5 y6 y7 y8 y9))
  | 0 => ⟨fun _ _ _ _ r h => by simp [clochelaw03_VisitsLed.j0] at h, fun _ _ _ _ _ _ _ r h => by simp [clochelaw03_VisitsLed.j1] at h, fun _ _ _ _ _ _ _ r h => by simp [clochelaw03_VisitsLed.l0] at h, fun _ _ _ _ _ _ _ _ _ r h => by simp [clochelaw03_VisitsLed.j3] at h, fun _ _ _ _ _ _ _ _ _ r h => by simp [clochelaw03_VisitsLed.j4] at h, fun _ _ _ _ _ _ _ _ _ _ r h => by simp [clochelaw03_VisitsLed.l1] at h⟩
  | k + 1 => by
    obtain ⟨ih0, ih1, ih2, ih3, ih4, ih5⟩ := clochelaw03_VisitsLed.mono_l k
    refine ⟨?_, ?_, ?_, ?_, ?_, ?_⟩
    · intro y0 y1 y2 y3
      unfold clochelaw03_VisitsLed.j0
      repeat' first
      | (with_reducible exact ih0 _ _ _ _)
      | (with_reducible exact ih1 _ _ _ _ _ _ _)
      | (with_reducible exact ih2 _ _ _ _ _ _ _)
      | (with_reducible exact ih3 _ _ _ _ _ _ _ _ _)
      | (with_reducible exact ih4 _ _ _ _ _ _ _ _ _)
      | (with_reducible exact ih5 _ _ _ _ _ _ _ _ _ _)
      | (with_reducible exact clochelaw03_alive.mono _)
      | (with_reducible exact clocheref03_IsShop.mono _ _)
      | (with_reducible exact clocheref03_Size.mono _ _)
      | (with_reducible exact visits_Answer.mono _ _ _ _)
      | (with_reducible exact visits_Largest.mono _ _)
      | (with_reducible exact visits_Needed.mono _ _)
      | (with_reducible exact visits_Starts.mono _ _)
      | (with_reducible exact visits_Wins.mono _ _ _ _)
      | (with_reducible exact LeO.refl _)
      | (with_reducible exact LeO.none _)
      | (with_reducible refine LeO.ite ?_ ?_)
      | (with_reducible refine LeO.bind ?_ (fun _ => ?_))
      | exact ih0 _ _ _ _
      | exact ih1 _ _ _ _ _ _ _
      | exact ih2 _ _ _ _ _ _ _
      | exact ih3 _ _ _ _ _ _ _ _ _
      | exact ih4 _ _ _ _ _ _ _ _ _
      | exact ih5 _ _ _ _ _ _ _ _ _ _
      | exact clochelaw03_alive.mono _
      | exact clocheref03_IsShop.mono _ _
      | exact clocheref03_Size.mono _ _
      | exact visits_Answer.mono _ _ _ _
      | exact visits_Largest.mono _ _
      | exact visits_Needed.mono _ _
      | exact visits_Starts.mono _ _
      | exact visits_Wins.mono _ _ _ _
      | exact LeO.none _
      | refine LeO.ite ?_ ?_
      | refine LeO.bind ?_ (fun _ => ?_)
    · intro y0 y1 y2 y3 y4 y5 y6
      unfold clochelaw03_VisitsLed.j1
      repeat' first
      | (with_reducible exact ih0 _ _ _ _)
      | (with_reducible exact ih1 _ _ _ _ _ _ _)
      | (with_reducible exact ih2 _ _ _ _ _ _ _)
      | (with_reducible exact ih3 _ _ _ _ _ _ _ _ _)
      | (with_reducible exact ih4 _ _ _ _ _ _ _ _ _)
      | (with_reducible exact ih5 _ _ _ _ _ _ _ _ _ _)
      | (with_reducible exact clochelaw03_alive.mono _)
      | (with_reducible exact clocheref03_IsShop.mono _ _)
      | (with_reducible exact clocheref03_Size.mono _ _)
      | (with_reducible exact visits_Answer.mono _ _ _ _)
      | (with_reducible exact visits_Largest.mono _ _)
      | (with_reducible exact visits_Needed.mono _ _)
      | (with_reducible exact visits_Starts.mono _ _)
      | (with_reducible exact visits_Wins.mono _ _ _ _)
      | (with_reducible exact LeO.refl _)
      | (with_reducible exact LeO.none _)
      | (with_reducible refine LeO.ite ?_ ?_)
      | (with_reducible refine LeO.bind ?_ (fun _ => ?_))
      | exact ih0 _ _ _ _
      | exact ih1 _ _ _ _ _ _ _
      | exact ih2 _ _ _ _ _ _ _
      | exact ih3 _ _ _ _ _ _ _ _ _
      | exact ih4 _ _ _ _ _ _ _ _ _
      | exact ih5 _ _ _ _ _ _ _ _ _ _
      | exact clochelaw03_alive.mono _
      | exact clocheref03_IsShop.mono _ _
      | exact clocheref03_Size.mono _ _
      | exact visits_Answer.mono _ _ _ _
      | exact visits_Largest.mono _ _
      | exact visits_Needed.mono _ _
      | exact visits_Starts.mono _ _
      | exact visits_Wins.mono _ _ _ _
      | exact LeO.none _
      | refine LeO.ite ?_ ?_
      | refine LeO.bind ?_ (fun _ => ?_)
    · intro y0 y1 y2 y3 y4 y5 y6
      unfold clochelaw03_VisitsLed.l0
      repeat' first
      | (with_reducible exact ih0 _ _ _ _)
      | (with_reducible exact ih1 _ _ _ _ _ _ _)
      | (with_reducible exact ih2 _ _ _ _ _ _ _)
      | (with_reducible exact ih3 _ _ _ _ _ _ _ _ _)
      | (with_reducible exact ih4 _ _ _ _ _ _ _ _ _)
      | (with_reducible exact ih5 _ _ _ _ _ _ _ _ _ _)
      | (with_reducible exact clochelaw03_alive.mono _)
      | (with_reducible exact clocheref03_IsShop.mono _ _)
      | (with_reducible exact clocheref03_Size.mono _ _)
      | (with_reducible exact visits_Answer.mono _ _ _ _)
      | (with_reducible exact visits_Largest.mono _ _)
      | (with_reducible exact visits_Needed.mono _ _)
      | (with_reducible exact visits_Starts.mono _ _)
      | (with_reducible exact visits_Wins.mono _ _ _ _)
      | (with_reducible exact LeO.refl _)
      | (with_reducible exact LeO.none _)
      | (with_reducible refine LeO.ite ?_ ?_)
      | (with_reducible refine LeO.bind ?_ (fun _ => ?_))
      | exact ih0 _ _ _ _
      | exact ih1 _ _ _ _ _ _ _
      | exact ih2 _ _ _ _ _ _ _
      | exact ih3 _ _ _ _ _ _ _ _ _
      | exact ih4 _ _ _ _ _ _ _ _ _
      | exact ih5 _ _ _ _ _ _ _ _ _ _
      | exact clochelaw03_alive.mono _
      | exact clocheref03_IsShop.mono _ _
      | exact clocheref03_Size.mono _ _
      | exact visits_Answer.mono _ _ _ _
      | exact visits_Largest.mono _ _
      | exact visits_Needed.mono _ _
      | exact visits_Starts.mono _ _
      | exact visits_Wins.mono _ _ _ _
      | exact LeO.none _
      | refine LeO.ite ?_ ?_
      | refine LeO.bind ?_ (fun _ => ?_)
    · intro y0 y1 y2 y3 y4 y5 y6 y7 y8
      unfold clochelaw03_VisitsLed.j3
      repeat' first
      | (with_reducible exact ih0 _ _ _ _)
      | (with_reducible exact ih1 _ _ _ _ _ _ _)
      | (with_reducible exact ih2 _ _ _ _ _ _ _)
      | (with_reducible exact ih3 _ _ _ _ _ _ _ _ _)
      | (with_reducible exact ih4 _ _ _ _ _ _ _ _ _)
      | (with_reducible exact ih5 _ _ _ _ _ _ _ _ _ _)
      | (with_reducible exact clochelaw03_alive.mono _)
      | (with_reducible exact clocheref03_IsShop.mono _ _)
      | (with_reducible exact clocheref03_Size.mono _ _)
      | (with_reducible exact visits_Answer.mono _ _ _ _)
      | (with_reducible exact visits_Largest.mono _ _)
      | (with_reducible exact visits_Needed.mono _ _)
      | (with_reducible exact visits_Starts.mono _ _)
      | (with_reducible exact visits_Wins.mono _ _ _ _)
      | (with_reducible exact LeO.refl _)
      | (with_reducible exact LeO.none _)
      | (with_reducible refine LeO.ite ?_ ?_)
      | (with_reducible refine LeO.bind ?_ (fun _ => ?_))
      | exact ih0 _ _ _ _
      | exact ih1 _ _ _ _ _ _ _
      | exact ih2 _ _ _ _ _ _ _
      | exact ih3 _ _ _ _ _ _ _ _ _
      | exact ih4 _ _ _ _ _ _ _ _ _
      | exact ih5 _ _ _ _ _ _ _ _ _ _
      | exact clochelaw03_alive.mono _
      | exact clocheref03_IsShop.mono _ _
      | exact clocheref03_Size.mono _ _
      | exact visits_Answer.mono _ _ _ _
      | exact visits_Largest.mono _ _
      | exact visits_Needed.mono _ _
      | exact visits_Starts.mono _ _
      | exact visits_Wins.mono _ _ _ _
      | exact LeO.none _
      | refine LeO.ite ?_ ?_
      | refine LeO.bind ?_ (fun _ => ?_)
    · intro y0 y1 y2 y3 y4 y5 y6 y7 y8
      unfold clochelaw03_VisitsLed.j4
      repeat' first
      | (with_reducible exact ih0 _ _ _ _)
      | (with_reducible exact ih1 _ _ _ _ _ _ _)
      | (with_reducible exact ih2 _ _ _ _ _ _ _)
      | (with_reducible exact ih3 _ _ _ _ _ _ _ _ _)
      | (with_reducible exact ih4 _ _ _ _ _ _ _ _ _)
      | (with_reducible exact ih5 _ _ _ _ _ _ _ _ _ _)
      | (with_reducible exact clochelaw03_alive.mono _)
      | (with_reducible exact clocheref03_IsShop.mono _ _)
      | (with_reducible exact clocheref03_Size.mono _ _)
      | (with_reducible exact visits_Answer.mono _ _ _ _)
      | (with_reducible exact visits_Largest.mono _ _)
      | (with_reducible exact visits_Needed.mono _ _)
      | (with_reducible exact visits_Starts.mono _ _)
      | (with_reducible exact visits_Wins.mono _ _ _ _)
      | (with_reducible exact LeO.refl _)
      | (with_reducible exact LeO.none _)
      | (with_reducible refine LeO.ite ?_ ?_)
      | (with_reducible refine LeO.bind ?_ (fun _ => ?_))
      | exact ih0 _ _ _ _
      | exact ih1 _ _ _ _ _ _ _
      | exact ih2 _ _ _ _ _ _ _
      | exact ih3 _ _ _ _ _ _ _ _ _
      | exact ih4 _ _ _ _ _ _ _ _ _
      | exact ih5 _ _ _ _ _ _ _ _ _ _
      | exact clochelaw03_alive.mono _
      | exact clocheref03_IsShop.mono _ _
      | exact clocheref03_Size.mono _ _
      | exact visits_Answer.mono _ _ _ _
      | exact visits_Largest.mono _ _
      | exact visits_Needed.mono _ _
      | exact visits_Starts.mono _ _
      | exact visits_Wins.mono _ _ _ _
      | exact LeO.none _
      | refine LeO.ite ?_ ?_
      | refine LeO.bind ?_ (fun _ => ?_)
    · intro y0 y1 y2 y3 y4 y5 y6 y7 y8 y9
      unfold clochelaw03_VisitsLed.l1
      repeat' first
      | (with_reducible exact ih0 _ _ _ _)
      | (with_reducible exact ih1 _ _ _ _ _ _ _)
      | (with_reducible exact ih2 _ _ _ _ _ _ _)
      | (with_reducible exact ih3 _ _ _ _ _ _ _ _ _)
      | (with_reducible exact ih4 _ _ _ _ _ _ _ _ _)
      | (with_reducible exact ih5 _ _ _ _ _ _ _ _ _ _)
      | (with_reducible exact clochelaw03_alive.mono _)
      | (with_reducible exact clocheref03_IsShop.mono _ _)
      | (with_reducible exact clocheref03_Size.mono _ _)
      | (with_reducible exact visits_Answer.mono _ _ _ _)
      | (with_reducible exact visits_Largest.mono _ _)
      | (with_reducible exact visits_Needed.mono _ _)
      | (with_reducible exact visits_Starts.mono _ _)
      | (with_reducible exact visits_Wins.mono _ _ _ _)
      | (with_reducible exact LeO.refl _)
      | (with_reducible exact LeO.none _)
      | (with_reducible refine LeO.ite ?_ ?_)
      | (with_reducible refine LeO.bind ?_ (fun _ => ?_))
      | exact ih0 _ _ _ _
      | exact ih1 _ _ _ _ _ _ _
      | exact ih2 _ _ _ _ _ _ _
      | exact ih3 _ _ _ _ _ _ _ _ _
      | exact ih4 _ _ _ _ _ _ _ _ _
      | exact ih5 _ _ _ _ _ _ _ _ _ _
      | exact clochelaw03_alive.mono _
      | exact clocheref03_IsShop.mono _ _
      | exact clocheref03_Size.mono _ _
      | exact visits_Answer.mono _ _ _ _
      | exact visits_Largest.mono _ _
      | exact visits_Needed.mono _ _
      | exact visits_Starts.mono _ _
      | exact visits_Wins.mono _ _ _ _
      | exact LeO.none _
      | refine LeO.ite ?_ ?_
      | refine LeO.bind ?_ (fun _ => ?_)
theorem clochelaw03_VisitsLed.mono : ∀ a0 a1 a2 k, LeO (clochelaw03_VisitsLed.f k a0 a1 a2) (clochelaw03_VisitsLed.f (k + 1) a0 a1 a2) := by
  intro a0 a1 a2 k
  obtain ⟨ih0, ih1, ih2, ih3, ih4, ih5⟩ := clochelaw03_VisitsLed.mono_l k
  unfold clochelaw03_VisitsLed.f
  repeat' first
      | (with_reducible exact ih0 _ _ _ _)
      | (with_reducible exact ih1 _ _ _ _ _ _ _)
      | (with_reducible exact ih2 _ _ _ _ _ _ _)
      | (with_reducible exact ih3 _ _ _ _ _ _ _ _ _)
      | (with_reducible exact ih4 _ _ _ _ _ _ _ _ _)
      | (with_reducible exact ih5 _ _ _ _ _ _ _ _ _ _)
      | (with_reducible exact clochelaw03_alive.mono _)
      | (with_reducible exact clocheref03_IsShop.mono _ _)
      | (with_reducible exact clocheref03_Size.mono _ _)
      | (with_reducible exact visits_Answer.mono _ _ _ _)
      | (with_reducible exact visits_Largest.mono _ _)
      | (with_reducible exact visits_Needed.mono _ _)
      | (with_reducible exact visits_Starts.mono _ _)
      | (with_reducible exact visits_Wins.mono _ _ _ _)
      | (with_reducible exact LeO.refl _)
      | (with_reducible exact LeO.none _)
      | (with_reducible refine LeO.ite ?_ ?_)
      | (with_reducible refine LeO.bind ?_ (fun _ => ?_))
      | exact ih0 _ _ _ _
      | exact ih1 _ _ _ _ _ _ _
      | exact ih2 _ _ _ _ _ _ _
      | exact ih3 _ _ _ _ _ _ _ _ _
      | exact ih4 _ _ _ _ _ _ _ _ _
      | exact ih5 _ _ _ _ _ _ _ _ _ _
      | exact clochelaw03_alive.mono _
      | exact clocheref03_IsShop.mono _ _
      | exact clocheref03_Size.mono _ _
      | exact visits_Answer.mono _ _ _ _
      | exact visits_Largest.mono _ _
      | exact visits_Needed.mono _ _
      | exact visits_Starts.mono _ _
      | exact visits_Wins.mono _ _ _ _
      | exact LeO.none _
      | refine LeO.ite ?_ ?_
      | refine LeO.bind ?_ (fun _ => ?_)
set_option maxHeartbeats 8000000 in
set_option maxRecDepth 100000 in
theorem clochelaw03_VisitsLed.calls (k : Nat) (A0 : Option Addr) (c0 : Nat) (l0 : List Int) (a1 : Int) (A2 : Option Addr) (c2 : Nat) (l2 : List Int) (r : Bool) (w : World) (hr0 : Kd.C (Kd.int .i64) w A0 l0.length l0) (hc0 : l0.length ≤ c0) (hr2 : Kd.C (Kd.int .u8) w A2 l2.length l2) (hc2 : l2.length ≤ c2) (h : clochelaw03_VisitsLed.f k l0 a1 l2 = some r) (hT : Tab w) :
    Calls Tryd.prog 13 #[.slice A0 l0.length c0, .int .u8 a1, .slice A2 l2.length c2] w fun e w' => e = .returned (.bool r) ∧ Below w.heap.size w w' := by
  have HR0 := Aside0.mk hr0
  have HC0 := Aside0.mk hc0
  clear hr0 hc0
  have HR2 := Aside0.mk hr2
  have HC2 := Aside0.mk hc2
  clear hr2 hc2
  have HT0 := Aside0.mk hT
  clear hT
  have HB := Aside0.mk (Below.refl w.heap.size w)
  have H : ((clochelaw03_few.f l0 ([] : List (S43))).bind fun t488 => (if t488 = true then (if (l2.length : Int) > 40 then (clochelaw03_VisitsLed.j0 k l0 a1 l2 true) else ((clocheref03_IsShop.f k l0).bind fun t489 => (clochelaw03_VisitsLed.j0 k l0 a1 l2 (!t489)))) else (clochelaw03_VisitsLed.j0 k l0 a1 l2 true))) = some r := h
  clear h
  have HC4 := Aside0.mk H
  clear H
  go_enter Tryd.func13, Tryd.ntmps13
  go_upto_region 1 with (fail)
  repeat (go_quiet (fail); go_upto_region 1 with (fail))
  go_cut [36] (fun v36 wc => ∃ (kq : Nat) (x36_3 : Bool), v36 = .bool x36_3 ∧ Aside0 (clochelaw03_VisitsLed.j0 kq l0 a1 l2 x36_3 = some r) ∧ Aside0 (kq ≤ k) ∧ Aside0 (Below w.heap.size w wc))
  case first =>
    have H := HC4.out
    clear HC4
    replace H := Option.bind_eq_some_iff.mp H
    obtain ⟨t488, A50, H⟩ := H
    replace H : (if t488 = true then (if (l2.length : Int) > 40 then (clochelaw03_VisitsLed.j0 k l0 a1 l2 true) else ((clocheref03_IsShop.f k l0).bind fun t489 => (clochelaw03_VisitsLed.j0 k l0 a1 l2 (!t489)))) else (clochelaw03_VisitsLed.j0 k l0 a1 l2 true)) = some r := H
    have A5 := Aside0.mk A50
    clear A50
    by_cases c6 : t488 = true
    · subst c6
      have H1 : (if (l2.length : Int) > 40 then (clochelaw03_VisitsLed.j0 k l0 a1 l2 true) else ((clocheref03_IsShop.f k l0).bind fun t489 => (clochelaw03_VisitsLed.j0 k l0 a1 l2 (!t489)))) = some r := by rw [if_pos rfl] at H; exact H
      clear H
      have H := H1
      clear H1
      by_cases c7 : (l2.length : Int) > 40
      · rw [if_pos c7] at H
        have c7b0 : decide (40 < (l2.length : Int)) = true := decide_eq_true c7
        have c7b1 : decide (40 < l2.length) = true := decide_eq_true (by omega)
        clear c7
        (first | rw [c7b0] | (simp only [i64_w, i32_w]; rw [c7b0]) | skip)
        have H' := Aside0.mk H
        clear H
        go_wp2_with (first | (go_at_call 15; (refine (clochelaw03_few.calls _ _ l0 _ _ ([] : List (S43)) true _ ?side1 ?side2 ?side3 ?side4 A5.out).mono ?_); (case side1 => repeat (first | exact (Kd.C_below HR0.out HB.out) | (with_reducible refine Kd.C_alloc ?_ _) | (with_reducible refine Kd.C_drewN ?_ _) | (with_reducible refine Kd.C_drew ?_))); (case side2 => exact HC0.out); (case side3 => exact Kd.C_nil _ _); (case side4 => exact Nat.le_refl _); rintro e w' ⟨rfl, ⟨nd, rfl⟩⟩; (try first | exact ⟨rfl, _, World.drewN_drewN _ _ _⟩ | exact ⟨rfl, _, Eq.trans (World.drewN_drewN _ _ _) (congrArg (World.drewN _) (Nat.add_assoc _ _ _))⟩)))
        repeat (go_quiet (first | (go_at_call 15; (refine (clochelaw03_few.calls _ _ l0 _ _ ([] : List (S43)) true _ ?side1 ?side2 ?side3 ?side4 A5.out).mono ?_); (case side1 => repeat (first | exact (Kd.C_below HR0.out HB.out) | (with_reducible refine Kd.C_alloc ?_ _) | (with_reducible refine Kd.C_drewN ?_ _) | (with_reducible refine Kd.C_drew ?_))); (case side2 => exact HC0.out); (case side3 => exact Kd.C_nil _ _); (case side4 => exact Nat.le_refl _); rintro e w' ⟨rfl, ⟨nd, rfl⟩⟩; (try first | exact ⟨rfl, _, World.drewN_drewN _ _ _⟩ | exact ⟨rfl, _, Eq.trans (World.drewN_drewN _ _ _) (congrArg (World.drewN _) (Nat.add_assoc _ _ _))⟩))); try go_wp2_with (first | (go_at_call 15; (refine (clochelaw03_few.calls _ _ l0 _ _ ([] : List (S43)) true _ ?side1 ?side2 ?side3 ?side4 A5.out).mono ?_); (case side1 => repeat (first | exact (Kd.C_below HR0.out HB.out) | (with_reducible refine Kd.C_alloc ?_ _) | (with_reducible refine Kd.C_drewN ?_ _) | (with_reducible refine Kd.C_drew ?_))); (case side2 => exact HC0.out); (case side3 => exact Kd.C_nil _ _); (case side4 => exact Nat.le_refl _); rintro e w' ⟨rfl, ⟨nd, rfl⟩⟩; (try first | exact ⟨rfl, _, World.drewN_drewN _ _ _⟩ | exact ⟨rfl, _, Eq.trans (World.drewN_drewN _ _ _) (congrArg (World.drewN _) (Nat.add_assoc _ _ _))⟩))))
        go_meet
        case rel => exact ⟨_, (true), (by first | rfl | (simp; done) | (simp [*]; done)), H', ⟨by first | omega | exact Nat.le_refl _⟩, ⟨by repeat (first | (with_reducible first | exact HB.out | apply below_alloc | apply pw_below_drewN | apply below_drew1) | exact HB.out)⟩⟩
      · rw [if_neg c7] at H
        have c7b0 : decide (40 < (l2.length : Int)) = false := decide_eq_false c7
        have c7b1 : decide (40 < l2.length) = false := decide_eq_false (by omega)
        clear c7
        (first | rw [c7b0] | (simp only [i64_w, i32_w]; rw [c7b0]) | skip)
        replace H := Option.bind_eq_some_iff.mp H
        obtain ⟨t489, A80, H⟩ := H
        replace H : (clochelaw03_VisitsLed.j0 k l0 a1 l2 (!t489)) = some r := H
        have A8 := Aside0.mk A80
        clear A80
        have H' := Aside0.mk H
        clear H
        go_wp2_with (first | (go_at_call 15; (refine (clochelaw03_few.calls _ _ l0 _ _ ([] : List (S43)) true _ ?side1 ?side2 ?side3 ?side4 A5.out).mono ?_); (case side1 => repeat (first | exact (Kd.C_below HR0.out HB.out) | (with_reducible refine Kd.C_alloc ?_ _) | (with_reducible refine Kd.C_drewN ?_ _) | (with_reducible refine Kd.C_drew ?_))); (case side2 => exact HC0.out); (case side3 => exact Kd.C_nil _ _); (case side4 => exact Nat.le_refl _); rintro e w' ⟨rfl, ⟨nd, rfl⟩⟩; (try first | exact ⟨rfl, _, World.drewN_drewN _ _ _⟩ | exact ⟨rfl, _, Eq.trans (World.drewN_drewN _ _ _) (congrArg (World.drewN _) (Nat.add_assoc _ _ _))⟩)) | (go_at_call 21; (with_reducible refine (clocheref03_IsShop.calls k _ _ l0 t489 _ ?side1 ?side2 A8.out).mono ?_); (case side1 => repeat (first | exact (Kd.C_below HR0.out (by repeat (first | (with_reducible first | exact HB.out | apply below_alloc | apply pw_below_drewN | apply below_drew1) | exact HB.out))) | (with_reducible refine Kd.C_alloc ?_ _) | (with_reducible refine Kd.C_drewN ?_ _) | (with_reducible refine Kd.C_drew ?_))); (case side2 => exact HC0.out); rintro e w' ⟨rfl, ⟨nd, rfl⟩⟩; (try first | exact ⟨rfl, _, World.drewN_drewN _ _ _⟩ | exact ⟨rfl, _, Eq.trans (World.drewN_drewN _ _ _) (congrArg (World.drewN _) (Nat.add_assoc _ _ _))⟩)))
        repeat (go_quiet (first | (go_at_call 15; (refine (clochelaw03_few.calls _ _ l0 _ _ ([] : List (S43)) true _ ?side1 ?side2 ?side3 ?side4 A5.out).mono ?_); (case side1 => repeat (first | exact (Kd.C_below HR0.out HB.out) | (with_reducible refine Kd.C_alloc ?_ _) | (with_reducible refine Kd.C_drewN ?_ _) | (with_reducible refine Kd.C_drew ?_))); (case side2 => exact HC0.out); (case side3 => exact Kd.C_nil _ _); (case side4 => exact Nat.le_refl _); rintro e w' ⟨rfl, ⟨nd, rfl⟩⟩; (try first | exact ⟨rfl, _, World.drewN_drewN _ _ _⟩ | exact ⟨rfl, _, Eq.trans (World.drewN_drewN _ _ _) (congrArg (World.drewN _) (Nat.add_assoc _ _ _))⟩)) | (go_at_call 21; (with_reducible refine (clocheref03_IsShop.calls k _ _ l0 t489 _ ?side1 ?side2 A8.out).mono ?_); (case side1 => repeat (first | exact (Kd.C_below HR0.out (by repeat (first | (with_reducible first | exact HB.out | apply below_alloc | apply pw_below_drewN | apply below_drew1) | exact HB.out))) | (with_reducible refine Kd.C_alloc ?_ _) | (with_reducible refine Kd.C_drewN ?_ _) | (with_reducible refine Kd.C_drew ?_))); (case side2 => exact HC0.out); rintro e w' ⟨rfl, ⟨nd, rfl⟩⟩; (try first | exact ⟨rfl, _, World.drewN_drewN _ _ _⟩ | exact ⟨rfl, _, Eq.trans (World.drewN_drewN _ _ _) (congrArg (World.drewN _) (Nat.add_assoc _ _ _))⟩))); try go_wp2_with (first | (go_at_call 15; (refine (clochelaw03_few.calls _ _ l0 _ _ ([] : List (S43)) true _ ?side1 ?side2 ?side3 ?side4 A5.out).mono ?_); (case side1 => repeat (first | exact (Kd.C_below HR0.out HB.out) | (with_reducible refine Kd.C_alloc ?_ _) | (with_reducible refine Kd.C_drewN ?_ _) | (with_reducible refine Kd.C_drew ?_))); (case side2 => exact HC0.out); (case side3 => exact Kd.C_nil _ _); (case side4 => exact Nat.le_refl _); rintro e w' ⟨rfl, ⟨nd, rfl⟩⟩; (try first | exact ⟨rfl, _, World.drewN_drewN _ _ _⟩ | exact ⟨rfl, _, Eq.trans (World.drewN_drewN _ _ _) (congrArg (World.drewN _) (Nat.add_assoc _ _ _))⟩)) | (go_at_call 21; (with_reducible refine (clocheref03_IsShop.calls k _ _ l0 t489 _ ?side1 ?side2 A8.out).mono ?_); (case side1 => repeat (first | exact (Kd.C_below HR0.out (by repeat (first | (with_reducible first | exact HB.out | apply below_alloc | apply pw_below_drewN | apply below_drew1) | exact HB.out))) | (with_reducible refine Kd.C_alloc ?_ _) | (with_reducible refine Kd.C_drewN ?_ _) | (with_reducible refine Kd.C_drew ?_))); (case side2 => exact HC0.out); rintro e w' ⟨rfl, ⟨nd, rfl⟩⟩; (try first | exact ⟨rfl, _, World.drewN_drewN _ _ _⟩ | exact ⟨rfl, _, Eq.trans (World.drewN_drewN _ _ _) (congrArg (World.drewN _) (Nat.add_assoc _ _ _))⟩))))
        go_meet
        case rel => exact ⟨_, (!t489), (by first | rfl | (simp; done) | (simp [*]; done)), H', ⟨by first | omega | exact Nat.le_refl _⟩, ⟨by repeat (first | (with_reducible first | exact HB.out | apply below_alloc | apply pw_below_drewN | apply below_drew1) | exact HB.out)⟩⟩
    · replace c6 := Bool.eq_false_iff.mpr c6
      subst c6
      have H1 : (clochelaw03_VisitsLed.j0 k l0 a1 l2 true) = some r := by rw [if_neg (show ¬ (false = true) by decide)] at H; exact H
      clear H
      have H := H1
      clear H1
      have H' := Aside0.mk H
      clear H
      go_wp2_with (first | (go_at_call 15; (refine (clochelaw03_few.calls _ _ l0 _ _ ([] : List (S43)) false _ ?side1 ?side2 ?side3 ?side4 A5.out).mono ?_); (case side1 => repeat (first | exact (Kd.C_below HR0.out HB.out) | (with_reducible refine Kd.C_alloc ?_ _) | (with_reducible refine Kd.C_drewN ?_ _) | (with_reducible refine Kd.C_drew ?_))); (case side2 => exact HC0.out); (case side3 => exact Kd.C_nil _ _); (case side4 => exact Nat.le_refl _); rintro e w' ⟨rfl, ⟨nd, rfl⟩⟩; (try first | exact ⟨rfl, _, World.drewN_drewN _ _ _⟩ | exact ⟨rfl, _, Eq.trans (World.drewN_drewN _ _ _) (congrArg (World.drewN _) (Nat.add_assoc _ _ _))⟩)))
      repeat (go_quiet (first | (go_at_call 15; (refine (clochelaw03_few.calls _ _ l0 _ _ ([] : List (S43)) false _ ?side1 ?side2 ?side3 ?side4 A5.out).mono ?_); (case side1 => repeat (first | exact (Kd.C_below HR0.out HB.out) | (with_reducible refine Kd.C_alloc ?_ _) | (with_reducible refine Kd.C_drewN ?_ _) | (with_reducible refine Kd.C_drew ?_))); (case side2 => exact HC0.out); (case side3 => exact Kd.C_nil _ _); (case side4 => exact Nat.le_refl _); rintro e w' ⟨rfl, ⟨nd, rfl⟩⟩; (try first | exact ⟨rfl, _, World.drewN_drewN _ _ _⟩ | exact ⟨rfl, _, Eq.trans (World.drewN_drewN _ _ _) (congrArg (World.drewN _) (Nat.add_assoc _ _ _))⟩))); try go_wp2_with (first | (go_at_call 15; (refine (clochelaw03_few.calls _ _ l0 _ _ ([] : List (S43)) false _ ?side1 ?side2 ?side3 ?side4 A5.out).mono ?_); (case side1 => repeat (first | exact (Kd.C_below HR0.out HB.out) | (with_reducible refine Kd.C_alloc ?_ _) | (with_reducible refine Kd.C_drewN ?_ _) | (with_reducible refine Kd.C_drew ?_))); (case side2 => exact HC0.out); (case side3 => exact Kd.C_nil _ _); (case side4 => exact Nat.le_refl _); rintro e w' ⟨rfl, ⟨nd, rfl⟩⟩; (try first | exact ⟨rfl, _, World.drewN_drewN _ _ _⟩ | exact ⟨rfl, _, Eq.trans (World.drewN_drewN _ _ _) (congrArg (World.drewN _) (Nat.add_assoc _ _ _))⟩))))
      go_meet
      case rel => exact ⟨_, (true), (by first | rfl | (simp; done) | (simp [*]; done)), H', ⟨by first | omega | exact Nat.le_refl _⟩, ⟨by repeat (first | (with_reducible first | exact HB.out | apply below_alloc | apply pw_below_drewN | apply below_drew1) | exact HB.out)⟩⟩
  case rest =>
    clear HC4
    try clear c1
    try clear c2
    try clear p2
    try clear c6
    try clear c7
    try clear c7b0
    try clear c7b1
    obtain ⟨kq, x36_3, rfl, HA, HJ3, HB⟩ := hcut
    cases kq with
    | zero => exact absurd HA.out (by simp [clochelaw03_VisitsLed.j0])
    | succ kj3 =>
      have H := HA.out
      clear HA
      simp only [clochelaw03_VisitsLed.j0] at H
      by_cases c9 : x36_3 = true
      · subst c9
        have H1 : ((clochelaw03_alive.f kj3).bind fun t490 => (some t490)) = some r := by rw [if_pos rfl] at H; exact H
        clear H
        have H := H1
        clear H1
        replace H := Option.bind_eq_some_iff.mp H
        obtain ⟨t490, A100, H⟩ := H
        replace H : (some t490) = some r := H
        have A10 := Aside0.mk A100
        clear A100
        obtain rfl := Option.some.inj H
        go_wp2_with (first | (go_at_call 16; (with_reducible refine (clochelaw03_alive.calls kj3  t490 _ A10.out (by repeat (first | exact HT0.out | exact tabB HT0.out HB.out | (refine tab_alloc ?_ _) | (refine tab_drewN ?_ _) | (refine tab_drew ?_)))).mono ?_); rintro e w11 ⟨rfl, hb⟩; have n0_ := Aside0.mk (below_step (by repeat (first | (with_reducible first | exact HB.out | apply below_alloc | apply pw_below_drewN | apply below_drew1) | exact HB.out)) hb); clear HB; have HB := n0_; clear n0_; (try clear hb); (try clear hb2); (try clear hk); (try clear hi)))
        repeat (go_quiet (first | (go_at_call 16; (with_reducible refine (clochelaw03_alive.calls kj3  t490 _ A10.out (by repeat (first | exact HT0.out | exact tabB HT0.out HB.out | (refine tab_alloc ?_ _) | (refine tab_drewN ?_ _) | (refine tab_drew ?_)))).mono ?_); rintro e w11 ⟨rfl, hb⟩; have n0_ := Aside0.mk (below_step (by repeat (first | (with_reducible first | exact HB.out | apply below_alloc | apply pw_below_drewN | apply below_drew1) | exact HB.out)) hb); clear HB; have HB := n0_; clear n0_; (try clear hb); (try clear hb2); (try clear hk); (try clear hi))); try go_wp2_with (first | (go_at_call 16; (with_reducible refine (clochelaw03_alive.calls kj3  t490 _ A10.out (by repeat (first | exact HT0.out | exact tabB HT0.out HB.out | (refine tab_alloc ?_ _) | (refine tab_drewN ?_ _) | (refine tab_drew ?_)))).mono ?_); rintro e w11 ⟨rfl, hb⟩; have n0_ := Aside0.mk (below_step (by repeat (first | (with_reducible first | exact HB.out | apply below_alloc | apply pw_below_drewN | apply below_drew1) | exact HB.out)) hb); clear HB; have HB := n0_; clear n0_; (try clear hb); (try clear hb2); (try clear hk); (try clear hi))))
        go_ret
        exact ⟨by first | rfl | (simp [errW_none, errW_some] <;> rfl) | (simp [*, errW_none, errW_some] <;> rfl), by repeat (first | (with_reducible first | exact HB.out | apply below_alloc | apply pw_below_drewN | apply below_drew1) | exact HB.out)⟩
      · replace c9 := Bool.eq_false_iff.mpr c9
        subst c9
        have H1 : (if (l0.length : Int) = 0 then (none) else (if 0 ≤ (Int.tmod (wrap64 (a1)) (l0.length : Int)) then ((visits_Wins.f kj3 l0 (shl .i64 1 (Int.tmod (wrap64 (a1)) (l0.length : Int))) (Int.tmod (wrap64 (a1)) (l0.length : Int))).bind fun bt491 => ((visits_Needed.f kj3 l0).bind fun bt493 => ((visits_Starts.f kj3 l0).bind fun bt495 => ((visits_Largest.f kj3 l0).bind fun bt497 => (if bt491.2 = 0 then (if bt493.2 = 0 then (if bt495.2 = 0 then (if bt497.2 = 0 then (if (bt491.1 != ((Int.tmod (shr .i64 bt493.1 (Int.tmod (wrap64 (a1)) (l0.length : Int))) 2) == 1)) = true then (none) else (clochelaw03_VisitsLed.j1 kj3 l0 l2 (l0.length : Int) (Int.tmod (wrap64 (a1)) (l0.length : Int)) bt491.1 bt497.1 (bt495.1 != (wrap64 ((wrap64 ((shl .i64 1 (l0.length : Int)) - 1)) - bt493.1))))) else (none)) else (none)) else (none)) else (none)))))) else (none))) = some r := by rw [if_neg (show ¬ (false = true) by decide)] at H; exact H
        clear H
        have H := H1
        clear H1
        by_cases c12 : (l0.length : Int) = 0
        · rw [if_pos c12] at H
          exact absurd H (by simp)
        · rw [if_neg c12] at H
          have c12b0 : ((l0.length : Int) == 0) = false := beq_eq_false_iff_ne.mpr c12
          have c12b1 : ((l0.length : Int) != 0) = true := bne_iff_ne.mpr c12
          have c12b2 : ¬ (l0 = []) := fun h_ => c12 (by rw [h_]; rfl)
          obtain ⟨ji13, hji13⟩ : ∃ j_ : Int, (Int.tmod (wrap64 (a1)) (l0.length : Int)) = j_ := ⟨_, rfl⟩
          replace H : (if 0 ≤ (ji13) then ((visits_Wins.f kj3 l0 (shl .i64 1 (ji13)) (ji13)).bind fun bt491 => ((visits_Needed.f kj3 l0).bind fun bt493 => ((visits_Starts.f kj3 l0).bind fun bt495 => ((visits_Largest.f kj3 l0).bind fun bt497 => (if bt491.2 = 0 then (if bt493.2 = 0 then (if bt495.2 = 0 then (if bt497.2 = 0 then (if (bt491.1 != ((Int.tmod (shr .i64 bt493.1 (ji13)) 2) == 1)) = true then (none) else (clochelaw03_VisitsLed.j1 kj3 l0 l2 (l0.length : Int) ji13 bt491.1 bt497.1 (bt495.1 != (wrap64 ((wrap64 ((shl .i64 1 (l0.length : Int)) - 1)) - bt493.1))))) else (none)) else (none)) else (none)) else (none)))))) else (none)) = some r := by first | (rw [hji13] at H; exact H) | (simp only [hji13] at H ⊢; exact H)
          by_cases c14 : 0 ≤ (ji13)
          · rw [if_pos c14] at H
            have c14b0 := eq_true c14
            have c14b1 : decide (0 ≤ (ji13)) = true := decide_eq_true c14
            clear c14
            obtain ⟨ji15, hji15⟩ : ∃ j_ : Int, (shl .i64 1 (ji13)) = j_ := ⟨_, rfl⟩
            replace H : ((visits_Wins.f kj3 l0 (ji15) (ji13)).bind fun bt491 => ((visits_Needed.f kj3 l0).bind fun bt493 => ((visits_Starts.f kj3 l0).bind fun bt495 => ((visits_Largest.f kj3 l0).bind fun bt497 => (if bt491.2 = 0 then (if bt493.2 = 0 then (if bt495.2 = 0 then (if bt497.2 = 0 then (if (bt491.1 != ((Int.tmod (shr .i64 bt493.1 (ji13)) 2) == 1)) = true then (none) else (clochelaw03_VisitsLed.j1 kj3 l0 l2 (l0.length : Int) ji13 bt491.1 bt497.1 (bt495.1 != (wrap64 ((wrap64 ((shl .i64 1 (l0.length : Int)) - 1)) - bt493.1))))) else (none)) else (none)) else (none)) else (none)))))) = some r := by first | (rw [hji15] at H; exact H) | (simp only [hji15] at H ⊢; exact H)
            have hji15_ : (IntKind.i64.wrap (1 * 2 ^ min (ji13).toNat 64)) = ji15 := hji15
            have hji15z : (ji13) ≤ 64 → (IntKind.i64.wrap (1 * 2 ^ (ji13).toNat)) = ji15 := shl_small hji15
            have hji15u : (IntKind.i64.wrap (2 ^ min (ji13).toNat 64)) = ji15 := by have h_ := hji15_; rw [Int.one_mul] at h_; exact h_
            have hji15v : (ji13) ≤ 64 → (IntKind.i64.wrap (2 ^ (ji13).toNat)) = ji15 := fun hle_ => by have h_ := hji15z hle_; rw [Int.one_mul] at h_; exact h_
            have hji15y : (wrap64 (1 * 2 ^ min (ji13).toNat 64)) = ji15 := (i64_w _).symm.trans hji15_
            have hji15x : (ji13) ≤ 64 → (wrap64 (1 * 2 ^ (ji13).toNat)) = ji15 := fun h_ => (i64_w _).symm.trans (hji15z h_)
            replace H := Option.bind_eq_some_iff.mp H
            obtain ⟨⟨t491, t492⟩, A160, H⟩ := H
            replace H : ((visits_Needed.f kj3 l0).bind fun bt493 => ((visits_Starts.f kj3 l0).bind fun bt495 => ((visits_Largest.f kj3 l0).bind fun bt497 => (if t492 = 0 then (if bt493.2 = 0 then (if bt495.2 = 0 then (if bt497.2 = 0 then (if (t491 != ((Int.tmod (shr .i64 bt493.1 (ji13)) 2) == 1)) = true then (none) else (clochelaw03_VisitsLed.j1 kj3 l0 l2 (l0.length : Int) ji13 t491 bt497.1 (bt495.1 != (wrap64 ((wrap64 ((shl .i64 1 (l0.length : Int)) - 1)) - bt493.1))))) else (none)) else (none)) else (none)) else (none))))) = some r := H
            have A16 := Aside0.mk A160
            clear A160
            replace H := Option.bind_eq_some_iff.mp H
            obtain ⟨⟨t493, t494⟩, A170, H⟩ := H
            replace H : ((visits_Starts.f kj3 l0).bind fun bt495 => ((visits_Largest.f kj3 l0).bind fun bt497 => (if t492 = 0 then (if t494 = 0 then (if bt495.2 = 0 then (if bt497.2 = 0 then (if (t491 != ((Int.tmod (shr .i64 t493 (ji13)) 2) == 1)) = true then (none) else (clochelaw03_VisitsLed.j1 kj3 l0 l2 (l0.length : Int) ji13 t491 bt497.1 (bt495.1 != (wrap64 ((wrap64 ((shl .i64 1 (l0.length : Int)) - 1)) - t493))))) else (none)) else (none)) else (none)) else (none)))) = some r := H
            have A17 := Aside0.mk A170
            clear A170
            replace H := Option.bind_eq_some_iff.mp H
            obtain ⟨⟨t495, t496⟩, A180, H⟩ := H
            replace H : ((visits_Largest.f kj3 l0).bind fun bt497 => (if t492 = 0 then (if t494 = 0 then (if t496 = 0 then (if bt497.2 = 0 then (if (t491 != ((Int.tmod (shr .i64 t493 (ji13)) 2) == 1)) = true then (none) else (clochelaw03_VisitsLed.j1 kj3 l0 l2 (l0.length : Int) ji13 t491 bt497.1 (t495 != (wrap64 ((wrap64 ((shl .i64 1 (l0.length : Int)) - 1)) - t493))))) else (none)) else (none)) else (none)) else (none))) = some r := H
            have A18 := Aside0.mk A180
            clear A180
            replace H := Option.bind_eq_some_iff.mp H
            obtain ⟨⟨t497, t498⟩, A190, H⟩ := H
            replace H : (if t492 = 0 then (if t494 = 0 then (if t496 = 0 then (if t498 = 0 then (if (t491 != ((Int.tmod (shr .i64 t493 (ji13)) 2) == 1)) = true then (none) else (clochelaw03_VisitsLed.j1 kj3 l0 l2 (l0.length : Int) ji13 t491 t497 (t495 != (wrap64 ((wrap64 ((shl .i64 1 (l0.length : Int)) - 1)) - t493))))) else (none)) else (none)) else (none)) else (none)) = some r := H
            have A19 := Aside0.mk A190
            clear A190
            have HC20 := Aside0.mk H
            clear H
            go_upto_region 9 with (first | (go_at_call 24; (with_reducible refine (visits_Wins.calls kj3 _ _ l0 ji15 ji13 t491 t492 _ ?side1 ?side2 A16.out).mono ?_); (case side1 => repeat (first | exact (Kd.C_below HR0.out HB.out) | (with_reducible refine Kd.C_alloc ?_ _) | (with_reducible refine Kd.C_drewN ?_ _) | (with_reducible refine Kd.C_drew ?_))); (case side2 => exact HC0.out); rintro e w21 ⟨rfl, hb⟩; have n0_ := Aside0.mk (below_step (by repeat (first | (with_reducible first | exact HB.out | apply below_alloc | apply pw_below_drewN | apply below_drew1) | exact HB.out)) hb); clear HB; have HB := n0_; clear n0_; (try clear hb); (try clear hb2); (try clear hk); (try clear hi)) | (go_at_call 17; (with_reducible refine (visits_Needed.calls kj3 _ _ l0 t493 t494 _ ?side1 ?side2 A17.out (by repeat (first | exact HT0.out | exact tabB HT0.out HB.out | (refine tab_alloc ?_ _) | (refine tab_drewN ?_ _) | (refine tab_drew ?_)))).mono ?_); (case side1 => repeat (first | exact (Kd.C_below HR0.out HB.out) | (with_reducible refine Kd.C_alloc ?_ _) | (with_reducible refine Kd.C_drewN ?_ _) | (with_reducible refine Kd.C_drew ?_))); (case side2 => exact HC0.out); rintro e w22 ⟨rfl, hb⟩; have n0_ := Aside0.mk (below_step (by repeat (first | (with_reducible first | exact HB.out | apply below_alloc | apply pw_below_drewN | apply below_drew1) | exact HB.out)) hb); clear HB; have HB := n0_; clear n0_; (try clear hb); (try clear hb2); (try clear hk); (try clear hi)) | (go_at_call 19; (with_reducible refine (visits_Starts.calls kj3 _ _ l0 t495 t496 _ ?side1 ?side2 A18.out).mono ?_); (case side1 => repeat (first | exact (Kd.C_below HR0.out HB.out) | (with_reducible refine Kd.C_alloc ?_ _) | (with_reducible refine Kd.C_drewN ?_ _) | (with_reducible refine Kd.C_drew ?_))); (case side2 => exact HC0.out); rintro e w23 ⟨rfl, hb⟩; have n0_ := Aside0.mk (below_step (by repeat (first | (with_reducible first | exact HB.out | apply below_alloc | apply pw_below_drewN | apply below_drew1) | exact HB.out)) hb); clear HB; have HB := n0_; clear n0_; (try clear hb); (try clear hb2); (try clear hk); (try clear hi)) | (go_at_call 22; (with_reducible refine (visits_Largest.calls kj3 _ _ l0 t497 t498 _ ?side1 ?side2 A19.out (by repeat (first | exact HT0.out | exact tabB HT0.out HB.out | (refine tab_alloc ?_ _) | (refine tab_drewN ?_ _) | (refine tab_drew ?_)))).mono ?_); (case side1 => repeat (first | exact (Kd.C_below HR0.out HB.out) | (with_reducible refine Kd.C_alloc ?_ _) | (with_reducible refine Kd.C_drewN ?_ _) | (with_reducible refine Kd.C_drew ?_))); (case side2 => exact HC0.out); rintro e w24 ⟨v499, rfl, ho0, hb⟩; have n0_ := Aside0.mk (Kd.R_lower ho0 (below_size (by repeat (first | (with_reducible first | exact HB.out | apply below_alloc | apply pw_below_drewN | apply below_drew1) | exact HB.out)))); have n1_ := Aside0.mk (below_step (by repeat (first | (with_reducible first | exact HB.out | apply below_alloc | apply pw_below_drewN | apply below_drew1) | exact HB.out)) hb); clear HB; have HO500 := n0_; have HB := n1_; clear n0_ n1_; (try clear hb); (try clear hb2); (try clear hk); (try clear hi); (try clear ho0)))
            repeat (go_quiet (first | (go_at_call 24; (with_reducible refine (visits_Wins.calls kj3 _ _ l0 ji15 ji13 t491 t492 _ ?side1 ?side2 A16.out).mono ?_); (case side1 => repeat (first | exact (Kd.C_below HR0.out HB.out) | (with_reducible refine Kd.C_alloc ?_ _) | (with_reducible refine Kd.C_drewN ?_ _) | (with_reducible refine Kd.C_drew ?_))); (case side2 => exact HC0.out); rintro e w21 ⟨rfl, hb⟩; have n0_ := Aside0.mk (below_step (by repeat (first | (with_reducible first | exact HB.out | apply below_alloc | apply pw_below_drewN | apply below_drew1) | exact HB.out)) hb); clear HB; have HB := n0_; clear n0_; (try clear hb); (try clear hb2); (try clear hk); (try clear hi)) | (go_at_call 17; (with_reducible refine (visits_Needed.calls kj3 _ _ l0 t493 t494 _ ?side1 ?side2 A17.out (by repeat (first | exact HT0.out | exact tabB HT0.out HB.out | (refine tab_alloc ?_ _) | (refine tab_drewN ?_ _) | (refine tab_drew ?_)))).mono ?_); (case side1 => repeat (first | exact (Kd.C_below HR0.out HB.out) | (with_reducible refine Kd.C_alloc ?_ _) | (with_reducible refine Kd.C_drewN ?_ _) | (with_reducible refine Kd.C_drew ?_))); (case side2 => exact HC0.out); rintro e w22 ⟨rfl, hb⟩; have n0_ := Aside0.mk (below_step (by repeat (first | (with_reducible first | exact HB.out | apply below_alloc | apply pw_below_drewN | apply below_drew1) | exact HB.out)) hb); clear HB; have HB := n0_; clear n0_; (try clear hb); (try clear hb2); (try clear hk); (try clear hi)) | (go_at_call 19; (with_reducible refine (visits_Starts.calls kj3 _ _ l0 t495 t496 _ ?side1 ?side2 A18.out).mono ?_); (case side1 => repeat (first | exact (Kd.C_below HR0.out HB.out) | (with_reducible refine Kd.C_alloc ?_ _) | (with_reducible refine Kd.C_drewN ?_ _) | (with_reducible refine Kd.C_drew ?_))); (case side2 => exact HC0.out); rintro e w23 ⟨rfl, hb⟩; have n0_ := Aside0.mk (below_step (by repeat (first | (with_reducible first | exact HB.out | apply below_alloc | apply pw_below_drewN | apply below_drew1) | exact HB.out)) hb); clear HB; have HB := n0_; clear n0_; (try clear hb); (try clear hb2); (try clear hk); (try clear hi)) | (go_at_call 22; (with_reducible refine (visits_Largest.calls kj3 _ _ l0 t497 t498 _ ?side1 ?side2 A19.out (by repeat (first | exact HT0.out | exact tabB HT0.out HB.out | (refine tab_alloc ?_ _) | (refine tab_drewN ?_ _) | (refine tab_drew ?_)))).mono ?_); (case side1 => repeat (first | exact (Kd.C_below HR0.out HB.out) | (with_reducible refine Kd.C_alloc ?_ _) | (with_reducible refine Kd.C_drewN ?_ _) | (with_reducible refine Kd.C_drew ?_))); (case side2 => exact HC0.out); rintro e w24 ⟨v499, rfl, ho0, hb⟩; have n0_ := Aside0.mk (Kd.R_lower ho0 (below_size (by repeat (first | (with_reducible first | exact HB.out | apply below_alloc | apply pw_below_drewN | apply below_drew1) | exact HB.out)))); have n1_ := Aside0.mk (below_step (by repeat (first | (with_reducible first | exact HB.out | apply below_alloc | apply pw_below_drewN | apply below_drew1) | exact HB.out)) hb); clear HB; have HO500 := n0_; have HB := n1_; clear n0_ n1_; (try clear hb); (try clear hb2); (try clear hk); (try clear hi); (try clear ho0))); go_upto_region 9 with (first | (go_at_call 24; (with_reducible refine (visits_Wins.calls kj3 _ _ l0 ji15 ji13 t491 t492 _ ?side1 ?side2 A16.out).mono ?_); (case side1 => repeat (first | exact (Kd.C_below HR0.out HB.out) | (with_reducible refine Kd.C_alloc ?_ _) | (with_reducible refine Kd.C_drewN ?_ _) | (with_reducible refine Kd.C_drew ?_))); (case side2 => exact HC0.out); rintro e w21 ⟨rfl, hb⟩; have n0_ := Aside0.mk (below_step (by repeat (first | (with_reducible first | exact HB.out | apply below_alloc | apply pw_below_drewN | apply below_drew1) | exact HB.out)) hb); clear HB; have HB := n0_; clear n0_; (try clear hb); (try clear hb2); (try clear hk); (try clear hi)) | (go_at_call 17; (with_reducible refine (visits_Needed.calls kj3 _ _ l0 t493 t494 _ ?side1 ?side2 A17.out (by repeat (first | exact HT0.out | exact tabB HT0.out HB.out | (refine tab_alloc ?_ _) | (refine tab_drewN ?_ _) | (refine tab_drew ?_)))).mono ?_); (case side1 => repeat (first | exact (Kd.C_below HR0.out HB.out) | (with_reducible refine Kd.C_alloc ?_ _) | (with_reducible refine Kd.C_drewN ?_ _) | (with_reducible refine Kd.C_drew ?_))); (case side2 => exact HC0.out); rintro e w22 ⟨rfl, hb⟩; have n0_ := Aside0.mk (below_step (by repeat (first | (with_reducible first | exact HB.out | apply below_alloc | apply pw_below_drewN | apply below_drew1) | exact HB.out)) hb); clear HB; have HB := n0_; clear n0_; (try clear hb); (try clear hb2); (try clear hk); (try clear hi)) | (go_at_call 19; (with_reducible refine (visits_Starts.calls kj3 _ _ l0 t495 t496 _ ?side1 ?side2 A18.out).mono ?_); (case side1 => repeat (first | exact (Kd.C_below HR0.out HB.out) | (with_reducible refine Kd.C_alloc ?_ _) | (with_reducible refine Kd.C_drewN ?_ _) | (with_reducible refine Kd.C_drew ?_))); (case side2 => exact HC0.out); rintro e w23 ⟨rfl, hb⟩; have n0_ := Aside0.mk (below_step (by repeat (first | (with_reducible first | exact HB.out | apply below_alloc | apply pw_below_drewN | apply below_drew1) | exact HB.out)) hb); clear HB; have HB := n0_; clear n0_; (try clear hb); (try clear hb2); (try clear hk); (try clear hi)) | (go_at_call 22; (with_reducible refine (visits_Largest.calls kj3 _ _ l0 t497 t498 _ ?side1 ?side2 A19.out (by repeat (first | exact HT0.out | exact tabB HT0.out HB.out | (refine tab_alloc ?_ _) | (refine tab_drewN ?_ _) | (refine tab_drew ?_)))).mono ?_); (case side1 => repeat (first | exact (Kd.C_below HR0.out HB.out) | (with_reducible refine Kd.C_alloc ?_ _) | (with_reducible refine Kd.C_drewN ?_ _) | (with_reducible refine Kd.C_drew ?_))); (case side2 => exact HC0.out); rintro e w24 ⟨v499, rfl, ho0, hb⟩; have n0_ := Aside0.mk (Kd.R_lower ho0 (below_size (by repeat (first | (with_reducible first | exact HB.out | apply below_alloc | apply pw_below_drewN | apply below_drew1) | exact HB.out)))); have n1_ := Aside0.mk (below_step (by repeat (first | (with_reducible first | exact HB.out | apply below_alloc | apply pw_below_drewN | apply below_drew1) | exact HB.out)) hb); clear HB; have HO500 := n0_; have HB := n1_; clear n0_ n1_; (try clear hb); (try clear hb2); (try clear hk); (try clear hi); (try clear ho0))))
            (try simp only [Act.put, List.setIfInBounds_toArray, List.set_cons_zero, List.set_cons_succ])
            go_cut [98] (fun v98 wc => ∃ (kq : Nat) (x98_19 : Bool), v98 = .bool x98_19 ∧ Aside0 (clochelaw03_VisitsLed.j1 kq l0 l2 (l0.length : Int) ji13 t491 t497 x98_19 = some r) ∧ Aside0 (kq ≤ kj3) ∧ Aside0 (Kd.R k43 43 wc w.heap.size (fun _ => True) v499 t497) ∧ Aside0 (Below w.heap.size w wc))
            case first =>
              have H := HC20.out
              clear HC20
              by_cases c25 : t492 = 0
              · rw [if_pos c25] at H
                have c25b0 : (t492 == 0) = true := beq_iff_eq.mpr c25
                have c25b1 : (t492 != 0) = false := bne_eq_false_iff_eq.mpr c25
                clear c25
                (first | rw [c25b0] | (simp only [i64_w, i32_w]; rw [c25b0]) | skip)
                by_cases c26 : t494 = 0
                · rw [if_pos c26] at H
                  have c26b0 : (t494 == 0) = true := beq_iff_eq.mpr c26
                  have c26b1 : (t494 != 0) = false := bne_eq_false_iff_eq.mpr c26
                  clear c26
                  by_cases c27 : t496 = 0
                  · rw [if_pos c27] at H
                    have c27b0 : (t496 == 0) = true := beq_iff_eq.mpr c27
                    have c27b1 : (t496 != 0) = false := bne_eq_false_iff_eq.mpr c27
                    clear c27
                    by_cases c28 : t498 = 0
                    · rw [if_pos c28] at H
                      have c28b0 : (t498 == 0) = true := beq_iff_eq.mpr c28
                      have c28b1 : (t498 != 0) = false := bne_eq_false_iff_eq.mpr c28
                      clear c28
                      have c29b0 := eq_true (of_decide_eq_true (by first | (with_reducible assumption) | assumption) : 0 ≤ (ji13))
                      obtain ⟨ji30, hji30⟩ : ∃ j_ : Int, (shr .i64 t493 (ji13)) = j_ := ⟨_, rfl⟩
                      replace H : (if (t491 != ((Int.tmod (ji30) 2) == 1)) = true then (none) else (clochelaw03_VisitsLed.j1 kj3 l0 l2 (l0.length : Int) ji13 t491 t497 (t495 != (wrap64 ((wrap64 ((shl .i64 1 (l0.length : Int)) - 1)) - t493))))) = some r := by first | (rw [hji30] at H; exact H) | (simp only [hji30] at H ⊢; exact H)
                      have hji30_ : (t493 / 2 ^ min (ji13).toNat 64) = ji30 := hji30
                      have hji30z : (ji13) ≤ 64 → (t493 / 2 ^ (ji13).toNat) = ji30 := shr_small hji30
                      by_cases c31 : (t491 != ((Int.tmod (ji30) 2) == 1)) = true
                      · rw [if_pos c31] at H
                        exact absurd H (by simp)
                      · rw [if_neg c31] at H
                        have c31b0 : (t491 != ((Int.tmod (ji30) 2) == 1)) = false := by simpa using c31
                        (try (have c31b1 : decide (t491 = ((Int.tmod (ji30) 2) == 1)) = true := by simpa using c31))
                        (try (have c31b2 : (t491 == ((Int.tmod (ji30) 2) == 1)) = true := by simpa using c31))
                        clear c31
                        obtain ⟨ji32, hji32⟩ : ∃ j_ : Int, (shl .i64 1 (l0.length : Int)) = j_ := ⟨_, rfl⟩
                        replace H : (clochelaw03_VisitsLed.j1 kj3 l0 l2 (l0.length : Int) ji13 t491 t497 (t495 != (wrap64 ((wrap64 ((ji32) - 1)) - t493)))) = some r := by first | (rw [hji32] at H; exact H) | (simp only [hji32] at H ⊢; exact H)
                        have hji32_ : (IntKind.i64.wrap (1 * 2 ^ min (l0.length : Int).toNat 64)) = ji32 := hji32
                        have hji32z : (l0.length : Int) ≤ 64 → (IntKind.i64.wrap (1 * 2 ^ (l0.length : Int).toNat)) = ji32 := shl_small hji32
                        have hji32p : (IntKind.i64.wrap (1 * 2 ^ min l0.length 64)) = ji32 := hji32_
                        have hji32q : (l0.length : Int) ≤ 64 → (IntKind.i64.wrap (1 * 2 ^ l0.length)) = ji32 := hji32z
                        have hji32r : (IntKind.i64.wrap (2 ^ min l0.length 64)) = ji32 := by have h_ := hji32p; rw [Int.one_mul] at h_; exact h_
                        have hji32s : (l0.length : Int) ≤ 64 → (IntKind.i64.wrap (2 ^ l0.length)) = ji32 := fun hle_ => by have h_ := hji32q hle_; rw [Int.one_mul] at h_; exact h_
                        have hji32u : (IntKind.i64.wrap (2 ^ min (l0.length : Int).toNat 64)) = ji32 := by have h_ := hji32_; rw [Int.one_mul] at h_; exact h_
                        have hji32v : (l0.length : Int) ≤ 64 → (IntKind.i64.wrap (2 ^ (l0.length : Int).toNat)) = ji32 := fun hle_ => by have h_ := hji32z hle_; rw [Int.one_mul] at h_; exact h_
                        have hji32y : (wrap64 (1 * 2 ^ min (l0.length : Int).toNat 64)) = ji32 := (i64_w _).symm.trans hji32_
                        have hji32x : (l0.length : Int) ≤ 64 → (wrap64 (1 * 2 ^ (l0.length : Int).toNat)) = ji32 := fun h_ => (i64_w _).symm.trans (hji32z h_)
                        have H' := Aside0.mk H
                        clear H
                        go_wp2
                        repeat (go_quiet (fail); try go_wp2)
                        go_meet
                        case rel => exact ⟨_, ((t495 != (wrap64 ((wrap64 ((ji32) - 1)) - t493)))), (by first | rfl | (simp; done) | (simp only [← hji32] <;> (first | rfl | simp)) | (simp [*]; done)), H', ⟨by have := HJ3.out; first | omega | exact Nat.le_refl _⟩, ⟨by (with_reducible repeat (first | apply Kd.R_alloc | apply Kd.R_drewN | apply Kd.R_drew)); exact HO500.out⟩, ⟨by repeat (first | (with_reducible first | exact HB.out | apply below_alloc | apply pw_below_drewN | apply below_drew1) | exact HB.out)⟩⟩
                    · rw [if_neg c28] at H
                      exact absurd H (by simp)
                  · rw [if_neg c27] at H
                    exact absurd H (by simp)
                · rw [if_neg c26] at H
                  exact absurd H (by simp)
              · rw [if_neg c25] at H
                exact absurd H (by simp)
            case rest =>
              clear HC20
              try clear c1
              try clear c2
              try clear p2
              try clear c3
              try clear c6
              try clear p6
              try clear c7
              try clear c7b0
              try clear c7b1
              try clear c9
              try clear c12
              try clear c12b0
              try clear c12b1
              try clear c12b2
              try clear c13
              try clear c14
              try clear c14b0
              try clear c14b1
              try clear c25
              try clear c25b0
              try clear c25b1
              try clear c26
              try clear c26b0
              try clear c26b1
              try clear c27
              try clear c27b0
              try clear c27b1
              try clear c28
              try clear c28b0
              try clear c28b1
              try clear c29
              try clear c29b0
              try clear c31
              try clear c31b0
              try clear c31b1
              try clear c31b2
              try clear p2
              obtain ⟨kq, x98_19, rfl, HA, HJ19, HO_15, HB⟩ := hcut
              cases kq with
              | zero => exact absurd HA.out (by simp [clochelaw03_VisitsLed.j1])
              | succ kj19 =>
                have H := HA.out
                clear HA
                simp only [clochelaw03_VisitsLed.j1] at H
                by_cases c33 : x98_19 = true
                · subst c33
                  have H1 : (none) = some r := by rw [if_pos rfl] at H; exact H
                  clear H
                  have H := H1
                  clear H1
                  exact absurd H (by simp)
                · replace c33 := Bool.eq_false_iff.mpr c33
                  subst c33
                  have H1 : (if t491 = true then (if 0 ≤ ji13 then (clochelaw03_VisitsLed.l0 kj19 l0 l2 (l0.length : Int) ji13 t497 (shl .i64 1 ji13) 0) else (none)) else ((clochelaw03_alive.f kj19).bind fun t501 => (some t501))) = some r := by rw [if_neg (show ¬ (false = true) by decide)] at H; exact H
                  clear H
                  have H := H1
                  clear H1
                  by_cases c34 : t491 = true
                  · subst c34
                    have H1 : (if 0 ≤ ji13 then (clochelaw03_VisitsLed.l0 kj19 l0 l2 (l0.length : Int) ji13 t497 (shl .i64 1 ji13) 0) else (none)) = some r := by rw [if_pos rfl] at H; exact H
                    clear H
                    have H := H1
                    clear H1
                    by_cases c35 : 0 ≤ ji13
                    · rw [if_pos c35] at H
                      have c35b0 := eq_true c35
                      have c35b1 : decide (0 ≤ ji13) = true := decide_eq_true c35
                      clear c35
                      obtain ⟨ji36, hji36⟩ : ∃ j_ : Int, (shl .i64 1 ji13) = j_ := ⟨_, rfl⟩
                      obtain rfl : ji36 = ji15 := hji36.symm.trans hji15
                      replace H : (clochelaw03_VisitsLed.l0 kj19 l0 l2 (l0.length : Int) ji13 t497 ji36 0) = some r := by first | (rw [hji36] at H; exact H) | (simp only [hji36] at H ⊢; exact H)
                      have hji36_ : (IntKind.i64.wrap (1 * 2 ^ min ji13.toNat 64)) = ji36 := hji36
                      have hji36z : ji13 ≤ 64 → (IntKind.i64.wrap (1 * 2 ^ ji13.toNat)) = ji36 := shl_small hji36
                      have hji36u : (IntKind.i64.wrap (2 ^ min ji13.toNat 64)) = ji36 := by have h_ := hji36_; rw [Int.one_mul] at h_; exact h_
                      have hji36v : ji13 ≤ 64 → (IntKind.i64.wrap (2 ^ ji13.toNat)) = ji36 := fun hle_ => by have h_ := hji36z hle_; rw [Int.one_mul] at h_; exact h_
                      have hji36y : (wrap64 (1 * 2 ^ min ji13.toNat 64)) = ji36 := (i64_w _).symm.trans hji36_
                      have hji36x : ji13 ≤ 64 → (wrap64 (1 * 2 ^ ji13.toNat)) = ji36 := fun h_ => (i64_w _).symm.trans (hji36z h_)
                      have H' := Aside0.mk H
                      clear H
                      go_wp2
                      repeat (go_quiet (fail); try go_wp2)
                      go_loopg [8, 17, 18] kj19 (fun kq v8 v17 v18 w' => ∃ (x8_3 : Int) (x17_3 : Int) (x18_3 : Int), v8 = .int .i64 x8_3 ∧ v17 = .int .i64 x17_3 ∧ v18 = .int .i64 x18_3 ∧ Aside0 (clochelaw03_VisitsLed.l0 kq l0 l2 (l0.length : Int) x8_3 t497 x17_3 x18_3 = some r) ∧ Aside0 (kq ≤ kj19) ∧ Aside0 (Kd.R k43 43 w' w.heap.size (fun _ => True) v499 t497) ∧ Aside0 (Below w.heap.size w w'))
                      case atStart => exact ⟨(ji13), (ji36), (0), (by first | rfl | (simp; done) | (simp only [← hji13] <;> (first | rfl | simp)) | (simp [*]; done)), (by first | rfl | (simp; done) | (simp only [← hji36] <;> (first | rfl | simp)) | (simp [*]; done)), (by first | rfl | (simp; done) | (simp [*]; done)), H', ⟨Nat.le_refl _⟩, ⟨by (with_reducible repeat (first | apply Kd.R_alloc | apply Kd.R_drewN | apply Kd.R_drew)); exact HO_15.out⟩, ⟨by repeat (first | (with_reducible first | exact HB.out | apply below_alloc | apply pw_below_drewN | apply below_drew1) | exact HB.out)⟩⟩
                      case round =>
                        clear H'
                        try clear c1
                        try clear c2
                        try clear p2
                        try clear c3
                        try clear c6
                        try clear p6
                        try clear c7
                        try clear c7b0
                        try clear c7b1
                        try clear c9
                        try clear c12
                        try clear c12b0
                        try clear c12b1
                        try clear c12b2
                        try clear c13
                        try clear c14
                        try clear c14b0
                        try clear c14b1
                        try clear c25
                        try clear c25b0
                        try clear c25b1
                        try clear c26
                        try clear c26b0
                        try clear c26b1
                        try clear c27
                        try clear c27b0
                        try clear c27b1
                        try clear c28
                        try clear c28b0
                        try clear c28b1
                        try clear c29
                        try clear c29b0
                        try clear c31
                        try clear c31b0
                        try clear c31b1
                        try clear c31b2
                        try clear c33
                        try clear c34
                        try clear c35
                        try clear c35b0
                        try clear c35b1
                        try clear p2
                        try clear p6
                        obtain ⟨x8_3, x17_3, x18_3, rfl, rfl, rfl, HA, HK3, HO_15, HB⟩ := hrel
                        cases gk with
                        | zero => exact absurd HA.out (by simp [clochelaw03_VisitsLed.l0])
                        | succ k3 =>
                          have H := HA.out
                          clear HA
                          simp only [clochelaw03_VisitsLed.l0] at H
                          by_cases c37 : x18_3 ≤ (l0.length : Int)
                          · rw [if_pos c37] at H
                            have c37b0 : decide (x18_3 ≤ (l0.length : Int)) = true := decide_eq_true c37
                            clear c37
                            replace H := Option.bind_eq_some_iff.mp H
                            obtain ⟨⟨t502, t503⟩, A380, H⟩ := H
                            replace H : (if t503 = 0 then (if t502 < 0 then (none) else (if t502 ≥ (l0.length : Int) then (none) else (if 0 ≤ t502 then (if (Int.tmod (shr .i64 x17_3 t502) 2) = 1 then (none) else (if 0 ≤ x8_3 then (if x8_3 < (l0.length : Int) then (clochelaw03_VisitsLed.j3 k3 l0 l2 (l0.length : Int) x8_3 t497 x17_3 x18_3 t502 ((Int.tmod (shr .i64 (rd l0 x8_3) t502) 2) == 0)) else (none)) else (none))) else (none)))) else (none)) = some r := H
                            have A38 := Aside0.mk A380
                            clear A380
                            have HC39 := Aside0.mk H
                            clear H
                            obtain ⟨Ao40, co40, eo40⟩ := Kd.R_slice HO_15.out
                            subst eo40
                            go_upto_region 18 with (first | (go_at_call 41; (with_reducible refine (visits_Answer.calls k3 _ _ l0 _ _ t497 x8_3 t502 t503 _ ?side1 ?side2 ?side3 ?side4 A38.out).mono ?_); (case side1 => repeat (first | exact (Kd.C_below HR0.out HB.out) | (with_reducible refine Kd.C_alloc ?_ _) | (with_reducible refine Kd.C_drewN ?_ _) | (with_reducible refine Kd.C_drew ?_))); (case side2 => exact HC0.out); (case side3 => repeat (first | exact (Kd.R_reads' HO_15.out).2.2 | (with_reducible refine Kd.C_alloc ?_ _) | (with_reducible refine Kd.C_drewN ?_ _) | (with_reducible refine Kd.C_drew ?_))); (case side4 => exact (Kd.R_reads' HO_15.out).2.1); rintro e w41 ⟨rfl, hb⟩; have n0_ := Aside0.mk (Kd.R_below (by (with_reducible repeat (first | apply Kd.R_alloc | apply Kd.R_drewN | apply Kd.R_drew)); exact HO_15.out) hb); have n1_ := Aside0.mk (below_step (by repeat (first | (with_reducible first | exact HB.out | apply below_alloc | apply pw_below_drewN | apply below_drew1) | exact HB.out)) hb); clear HO_15; clear HB; have HO_15 := n0_; have HB := n1_; clear n0_ n1_; (try clear hb); (try clear hb2); (try clear hk); (try clear hi)))
                            repeat (go_quiet (first | (go_at_call 41; (with_reducible refine (visits_Answer.calls k3 _ _ l0 _ _ t497 x8_3 t502 t503 _ ?side1 ?side2 ?side3 ?side4 A38.out).mono ?_); (case side1 => repeat (first | exact (Kd.C_below HR0.out HB.out) | (with_reducible refine Kd.C_alloc ?_ _) | (with_reducible refine Kd.C_drewN ?_ _) | (with_reducible refine Kd.C_drew ?_))); (case side2 => exact HC0.out); (case side3 => repeat (first | exact (Kd.R_reads' HO_15.out).2.2 | (with_reducible refine Kd.C_alloc ?_ _) | (with_reducible refine Kd.C_drewN ?_ _) | (with_reducible refine Kd.C_drew ?_))); (case side4 => exact (Kd.R_reads' HO_15.out).2.1); rintro e w41 ⟨rfl, hb⟩; have n0_ := Aside0.mk (Kd.R_below (by (with_reducible repeat (first | apply Kd.R_alloc | apply Kd.R_drewN | apply Kd.R_drew)); exact HO_15.out) hb); have n1_ := Aside0.mk (below_step (by repeat (first | (with_reducible first | exact HB.out | apply below_alloc | apply pw_below_drewN | apply below_drew1) | exact HB.out)) hb); clear HO_15; clear HB; have HO_15 := n0_; have HB := n1_; clear n0_ n1_; (try clear hb); (try clear hb2); (try clear hk); (try clear hi))); go_upto_region 18 with (first | (go_at_call 41; (with_reducible refine (visits_Answer.calls k3 _ _ l0 _ _ t497 x8_3 t502 t503 _ ?side1 ?side2 ?side3 ?side4 A38.out).mono ?_); (case side1 => repeat (first | exact (Kd.C_below HR0.out HB.out) | (with_reducible refine Kd.C_alloc ?_ _) | (with_reducible refine Kd.C_drewN ?_ _) | (with_reducible refine Kd.C_drew ?_))); (case side2 => exact HC0.out); (case side3 => repeat (first | exact (Kd.R_reads' HO_15.out).2.2 | (with_reducible refine Kd.C_alloc ?_ _) | (with_reducible refine Kd.C_drewN ?_ _) | (with_reducible refine Kd.C_drew ?_))); (case side4 => exact (Kd.R_reads' HO_15.out).2.1); rintro e w41 ⟨rfl, hb⟩; have n0_ := Aside0.mk (Kd.R_below (by (with_reducible repeat (first | apply Kd.R_alloc | apply Kd.R_drewN | apply Kd.R_drew)); exact HO_15.out) hb); have n1_ := Aside0.mk (below_step (by repeat (first | (with_reducible first | exact HB.out | apply below_alloc | apply pw_below_drewN | apply below_drew1) | exact HB.out)) hb); clear HO_15; clear HB; have HO_15 := n0_; have HB := n1_; clear n0_ n1_; (try clear hb); (try clear hb2); (try clear hk); (try clear hi))))
                            (try simp only [Act.put, List.setIfInBounds_toArray, List.set_cons_zero, List.set_cons_succ])
                            go_cut [143] (fun v143 wc => ∃ (kq : Nat) (x143_38 : Bool), v143 = .bool x143_38 ∧ Aside0 (clochelaw03_VisitsLed.j3 kq l0 l2 (l0.length : Int) x8_3 t497 x17_3 x18_3 t502 x143_38 = some r) ∧ Aside0 (kq ≤ k3) ∧ Aside0 (Kd.R k43 43 wc w.heap.size (fun _ => True) (.slice Ao40 t497.length co40) t497) ∧ Aside0 (Below w.heap.size w wc))
                            case first =>
                              have H := HC39.out
                              clear HC39
                              by_cases c42 : t503 = 0
                              · rw [if_pos c42] at H
                                have c42b0 : (t503 == 0) = true := beq_iff_eq.mpr c42
                                have c42b1 : (t503 != 0) = false := bne_eq_false_iff_eq.mpr c42
                                clear c42
                                (first | rw [c42b0] | (simp only [i64_w, i32_w]; rw [c42b0]) | skip)
                                by_cases c43 : t502 < 0
                                · rw [if_pos c43] at H
                                  exact absurd H (by simp)
                                · rw [if_neg c43] at H
                                  have c43b0 : decide (t502 < 0) = false := decide_eq_false c43
                                  clear c43
                                  by_cases c44 : t502 ≥ (l0.length : Int)
                                  · rw [if_pos c44] at H
                                    exact absurd H (by simp)
                                  · rw [if_neg c44] at H
                                    have c44b0 : decide ((l0.length : Int) ≤ t502) = false := decide_eq_false c44
                                    clear c44
                                    by_cases c45 : 0 ≤ t502
                                    · rw [if_pos c45] at H
                                      have c45b0 := eq_true c45
                                      have c45b1 : decide (0 ≤ t502) = true := decide_eq_true c45
                                      clear c45
                                      obtain ⟨ji46, hji46⟩ : ∃ j_ : Int, (shr .i64 x17_3 t502) = j_ := ⟨_, rfl⟩
                                      replace H : (if (Int.tmod (ji46) 2) = 1 then (none) else (if 0 ≤ x8_3 then (if x8_3 < (l0.length : Int) then (clochelaw03_VisitsLed.j3 k3 l0 l2 (l0.length : Int) x8_3 t497 x17_3 x18_3 t502 ((Int.tmod (shr .i64 (rd l0 x8_3) t502) 2) == 0)) else (none)) else (none))) = some r := by first | (rw [hji46] at H; exact H) | (simp only [hji46] at H ⊢; exact H)
                                      have hji46_ : (x17_3 / 2 ^ min t502.toNat 64) = ji46 := hji46
                                      have hji46z : t502 ≤ 64 → (x17_3 / 2 ^ t502.toNat) = ji46 := shr_small hji46
                                      by_cases c47 : (Int.tmod (ji46) 2) = 1
                                      · rw [if_pos c47] at H
                                        exact absurd H (by simp)
                                      · rw [if_neg c47] at H
                                        have c47b0 : ((Int.tmod (ji46) 2) == 1) = false := beq_eq_false_iff_ne.mpr c47
                                        have c47b1 : ((Int.tmod (ji46) 2) != 1) = true := bne_iff_ne.mpr c47
                                        by_cases c48 : 0 ≤ x8_3
                                        · rw [if_pos c48] at H
                                          have c48b0 : decide (0 ≤ x8_3) = true := decide_eq_true c48
                                          clear c48
                                          by_cases c49 : x8_3 < (l0.length : Int)
                                          · rw [if_pos c49] at H
                                            have c49b0 : decide (x8_3 < (l0.length : Int)) = true := decide_eq_true c49
                                            clear c49
                                            have c50b0 := eq_true (of_decide_eq_true (by first | (with_reducible assumption) | assumption) : 0 ≤ t502)
                                            obtain ⟨ji51, hji51⟩ : ∃ j_ : Int, (shr .i64 (rd l0 x8_3) t502) = j_ := ⟨_, rfl⟩
                                            replace H : (clochelaw03_VisitsLed.j3 k3 l0 l2 (l0.length : Int) x8_3 t497 x17_3 x18_3 t502 ((Int.tmod (ji51) 2) == 0)) = some r := by first | (rw [hji51] at H; exact H) | (simp only [hji51] at H ⊢; exact H)
                                            have hji51_ : ((rd l0 x8_3) / 2 ^ min t502.toNat 64) = ji51 := hji51
                                            have hji51z : t502 ≤ 64 → ((rd l0 x8_3) / 2 ^ t502.toNat) = ji51 := shr_small hji51
                                            have H' := Aside0.mk H
                                            clear H
                                            have p504 : 0 ≤ (x8_3 : Int) := of_decide_eq_true (by first | (with_reducible assumption) | assumption)
                                            have q504 : x8_3 < (l0.length : Int) := of_decide_eq_true (by first | (with_reducible assumption) | assumption)
                                            obtain ⟨ad504, e504, hx504_0⟩ := Kd.at_int HR0.out x8_3 p504 q504
                                            cases e504
                                            replace hx504_0 := (HB.out.cell (World.block_lt_of_cell? w _ hx504_0)).trans hx504_0
                                            replace p504 := eq_true p504
                                            replace q504 := eq_true q504
                                            go_wp2
                                            repeat (go_quiet (fail); try go_wp2)
                                            go_meet
                                            case rel => exact ⟨_, (((Int.tmod (ji51) 2) == 0)), (by first | rfl | (simp; done) | (simp only [← hji51] <;> (first | rfl | simp)) | (simp [*]; done)), H', ⟨by have := HJ3.out; have := HJ19.out; have := HK3.out; first | omega | exact Nat.le_refl _⟩, ⟨by (with_reducible repeat (first | apply Kd.R_alloc | apply Kd.R_drewN | apply Kd.R_drew)); exact HO_15.out⟩, ⟨by repeat (first | (with_reducible first | exact HB.out | apply below_alloc | apply pw_below_drewN | apply below_drew1) | exact HB.out)⟩⟩
                                          · rw [if_neg c49] at H
                                            exact absurd H (by simp)
                                        · rw [if_neg c48] at H
                                          exact absurd H (by simp)
                                    · rw [if_neg c45] at H
                                      exact absurd H (by simp)
                              · rw [if_neg c42] at H
                                exact absurd H (by simp)
                            case rest =>
                              clear HC39
                              try clear c1
                              try clear c2
                              try clear p2
                              try clear c3
                              try clear c4
                              try clear c5
                              try clear p5
                              try clear q5
                              try clear hx5
                              try clear c6
                              try clear p6
                              try clear c7
                              try clear c7b0
                              try clear c7b1
                              try clear c9
                              try clear c12
                              try clear c12b0
                              try clear c12b1
                              try clear c12b2
                              try clear c13
                              try clear c14
                              try clear c14b0
                              try clear c14b1
                              try clear c25
                              try clear c25b0
                              try clear c25b1
                              try clear c26
                              try clear c26b0
                              try clear c26b1
                              try clear c27
                              try clear c27b0
                              try clear c27b1
                              try clear c28
                              try clear c28b0
                              try clear c28b1
                              try clear c29
                              try clear c29b0
                              try clear c31
                              try clear c31b0
                              try clear c31b1
                              try clear c31b2
                              try clear c33
                              try clear c34
                              try clear c35
                              try clear c35b0
                              try clear c35b1
                              try clear c37
                              try clear c37b0
                              try clear c42
                              try clear c42b0
                              try clear c42b1
                              try clear c43
                              try clear c43b0
                              try clear c44
                              try clear c44b0
                              try clear c45
                              try clear c45b0
                              try clear c45b1
                              try clear c47
                              try clear c47b0
                              try clear c47b1
                              try clear c48
                              try clear c48b0
                              try clear c49
                              try clear c49b0
                              try clear c50
                              try clear c50b0
                              try clear p50
                              try clear q50
                              try clear hx50
                              try clear hx504_0
                              try clear p2
                              try clear p504
                              try clear p6
                              try clear q504
                              obtain ⟨kq, x143_38, rfl, HA, HJ38, HO_15, HB⟩ := hcut
                              cases kq with
                              | zero => exact absurd HA.out (by simp [clochelaw03_VisitsLed.j3])
                              | succ kj38 =>
                                have H := HA.out
                                clear HA
                                simp only [clochelaw03_VisitsLed.j3] at H
                                by_cases c52 : x143_38 = true
                                · subst c52
                                  have H1 : (none) = some r := by rw [if_pos rfl] at H; exact H
                                  clear H
                                  have H := H1
                                  clear H1
                                  exact absurd H (by simp)
                                · replace c52 := Bool.eq_false_iff.mpr c52
                                  subst c52
                                  have H1 : (if 0 ≤ t502 then (if t502 < (l0.length : Int) then (if (Go.bits .andNot .i64 (rd l0 t502) (Go.bits .or .i64 x17_3 (shl .i64 1 t502))) = 0 then ((clochelaw03_alive.f kj38).bind fun t506 => (some t506)) else (if x18_3 < (l2.length : Int) then (if 0 ≤ x18_3 then ((clocheref03_Size.f kj38 (Go.bits .andNot .i64 (rd l0 t502) (Go.bits .or .i64 x17_3 (shl .i64 1 t502)))).bind fun t508 => (if t508 = 0 then (none) else (clochelaw03_VisitsLed.j4 kj38 l0 l2 (l0.length : Int) x8_3 t497 (Go.bits .or .i64 x17_3 (shl .i64 1 t502)) x18_3 (Go.bits .andNot .i64 (rd l0 t502) (Go.bits .or .i64 x17_3 (shl .i64 1 t502))) (Int.tmod (wrap64 (rd l2 x18_3)) t508)))) else (none)) else (clochelaw03_VisitsLed.j4 kj38 l0 l2 (l0.length : Int) x8_3 t497 (Go.bits .or .i64 x17_3 (shl .i64 1 t502)) x18_3 (Go.bits .andNot .i64 (rd l0 t502) (Go.bits .or .i64 x17_3 (shl .i64 1 t502))) 0))) else (none)) else (none)) = some r := by rw [if_neg (show ¬ (false = true) by decide)] at H; exact H
                                  clear H
                                  have H := H1
                                  clear H1
                                  by_cases c53 : 0 ≤ t502
                                  · rw [if_pos c53] at H
                                    have c53b0 := eq_true c53
                                    have c53b1 : decide (0 ≤ t502) = true := decide_eq_true c53
                                    clear c53
                                    obtain ⟨ji54, hji54⟩ : ∃ j_ : Int, (shl .i64 1 t502) = j_ := ⟨_, rfl⟩
                                    replace H : (if t502 < (l0.length : Int) then (if (Go.bits .andNot .i64 (rd l0 t502) (Go.bits .or .i64 x17_3 (ji54))) = 0 then ((clochelaw03_alive.f kj38).bind fun t506 => (some t506)) else (if x18_3 < (l2.length : Int) then (if 0 ≤ x18_3 then ((clocheref03_Size.f kj38 (Go.bits .andNot .i64 (rd l0 t502) (Go.bits .or .i64 x17_3 (ji54)))).bind fun t508 => (if t508 = 0 then (none) else (clochelaw03_VisitsLed.j4 kj38 l0 l2 (l0.length : Int) x8_3 t497 (Go.bits .or .i64 x17_3 (ji54)) x18_3 (Go.bits .andNot .i64 (rd l0 t502) (Go.bits .or .i64 x17_3 (ji54))) (Int.tmod (wrap64 (rd l2 x18_3)) t508)))) else (none)) else (clochelaw03_VisitsLed.j4 kj38 l0 l2 (l0.length : Int) x8_3 t497 (Go.bits .or .i64 x17_3 (ji54)) x18_3 (Go.bits .andNot .i64 (rd l0 t502) (Go.bits .or .i64 x17_3 (ji54))) 0))) else (none)) = some r := by first | (rw [hji54] at H; exact H) | (simp only [hji54] at H ⊢; exact H)
                                    have hji54_ : (IntKind.i64.wrap (1 * 2 ^ min t502.toNat 64)) = ji54 := hji54
                                    have hji54z : t502 ≤ 64 → (IntKind.i64.wrap (1 * 2 ^ t502.toNat)) = ji54 := shl_small hji54
                                    have hji54u : (IntKind.i64.wrap (2 ^ min t502.toNat 64)) = ji54 := by have h_ := hji54_; rw [Int.one_mul] at h_; exact h_
                                    have hji54v : t502 ≤ 64 → (IntKind.i64.wrap (2 ^ t502.toNat)) = ji54 := fun hle_ => by have h_ := hji54z hle_; rw [Int.one_mul] at h_; exact h_
                                    have hji54y : (wrap64 (1 * 2 ^ min t502.toNat 64)) = ji54 := (i64_w _).symm.trans hji54_
                                    have hji54x : t502 ≤ 64 → (wrap64 (1 * 2 ^ t502.toNat)) = ji54 := fun h_ => (i64_w _).symm.trans (hji54z h_)
                                    by_cases c55 : t502 < (l0.length : Int)
                                    · rw [if_pos c55] at H
                                      have c55b0 : decide (t502 < (l0.length : Int)) = true := decide_eq_true c55
                                      clear c55
                                      by_cases c56 : (Go.bits .andNot .i64 (rd l0 t502) (Go.bits .or .i64 x17_3 (ji54))) = 0
                                      · rw [if_pos c56] at H
                                        have c56b0 : ((Go.bits .andNot .i64 (rd l0 t502) (Go.bits .or .i64 x17_3 (ji54))) == 0) = true := beq_iff_eq.mpr c56
                                        have c56b1 : ((Go.bits .andNot .i64 (rd l0 t502) (Go.bits .or .i64 x17_3 (ji54))) != 0) = false := bne_eq_false_iff_eq.mpr c56
                                        clear c56
                                        replace H := Option.bind_eq_some_iff.mp H
                                        obtain ⟨t506, A570, H⟩ := H
                                        replace H : (some t506) = some r := H
                                        have A57 := Aside0.mk A570
                                        clear A570
                                        obtain rfl := Option.some.inj H
                                        have p505 : 0 ≤ (t502 : Int) := of_decide_eq_true (by first | (with_reducible assumption) | assumption)
                                        have q505 : t502 < (l0.length : Int) := of_decide_eq_true (by first | (with_reducible assumption) | assumption)
                                        obtain ⟨ad505, e505, hx505_0⟩ := Kd.at_int HR0.out t502 p505 q505
                                        cases e505
                                        replace hx505_0 := (HB.out.cell (World.block_lt_of_cell? w _ hx505_0)).trans hx505_0
                                        replace p505 := eq_true p505
                                        replace q505 := eq_true q505
                                        go_wp2_with (first | (go_at_call 16; (with_reducible refine (clochelaw03_alive.calls kj38  t506 _ A57.out (by repeat (first | exact HT0.out | exact tabB HT0.out HB.out | (refine tab_alloc ?_ _) | (refine tab_drewN ?_ _) | (refine tab_drew ?_)))).mono ?_); rintro e w58 ⟨rfl, hb⟩; have n0_ := Aside0.mk (Kd.R_below (by (with_reducible repeat (first | apply Kd.R_alloc | apply Kd.R_drewN | apply Kd.R_drew)); exact HO_15.out) hb); have n1_ := Aside0.mk (below_step (by repeat (first | (with_reducible first | exact HB.out | apply below_alloc | apply pw_below_drewN | apply below_drew1) | exact HB.out)) hb); clear HO_15; clear HB; have HO_15 := n0_; have HB := n1_; clear n0_ n1_; (try clear hb); (try clear hb2); (try clear hk); (try clear hi)))
                                        repeat (go_quiet (first | (go_at_call 16; (with_reducible refine (clochelaw03_alive.calls kj38  t506 _ A57.out (by repeat (first | exact HT0.out | exact tabB HT0.out HB.out | (refine tab_alloc ?_ _) | (refine tab_drewN ?_ _) | (refine tab_drew ?_)))).mono ?_); rintro e w58 ⟨rfl, hb⟩; have n0_ := Aside0.mk (Kd.R_below (by (with_reducible repeat (first | apply Kd.R_alloc | apply Kd.R_drewN | apply Kd.R_drew)); exact HO_15.out) hb); have n1_ := Aside0.mk (below_step (by repeat (first | (with_reducible first | exact HB.out | apply below_alloc | apply pw_below_drewN | apply below_drew1) | exact HB.out)) hb); clear HO_15; clear HB; have HO_15 := n0_; have HB := n1_; clear n0_ n1_; (try clear hb); (try clear hb2); (try clear hk); (try clear hi))); try go_wp2_with (first | (go_at_call 16; (with_reducible refine (clochelaw03_alive.calls kj38  t506 _ A57.out (by repeat (first | exact HT0.out | exact tabB HT0.out HB.out | (refine tab_alloc ?_ _) | (refine tab_drewN ?_ _) | (refine tab_drew ?_)))).mono ?_); rintro e w58 ⟨rfl, hb⟩; have n0_ := Aside0.mk (Kd.R_below (by (with_reducible repeat (first | apply Kd.R_alloc | apply Kd.R_drewN | apply Kd.R_drew)); exact HO_15.out) hb); have n1_ := Aside0.mk (below_step (by repeat (first | (with_reducible first | exact HB.out | apply below_alloc | apply pw_below_drewN | apply below_drew1) | exact HB.out)) hb); clear HO_15; clear HB; have HO_15 := n0_; have HB := n1_; clear n0_ n1_; (try clear hb); (try clear hb2); (try clear hk); (try clear hi))))
                                        go_ret
                                        exact ⟨by first | rfl | (simp [errW_none, errW_some] <;> rfl) | (simp only [← hji13, ← hji15, ← hji36, ← hji54]; first | rfl | (simp [errW_none, errW_some] <;> rfl)) | (simp [*, errW_none, errW_some] <;> rfl), by repeat (first | (with_reducible first | exact HB.out | apply below_alloc | apply pw_below_drewN | apply below_drew1) | exact HB.out)⟩
                                      · rw [if_neg c56] at H
                                        have c56b0 : ((Go.bits .andNot .i64 (rd l0 t502) (Go.bits .or .i64 x17_3 (ji54))) == 0) = false := beq_eq_false_iff_ne.mpr c56
                                        have c56b1 : ((Go.bits .andNot .i64 (rd l0 t502) (Go.bits .or .i64 x17_3 (ji54))) != 0) = true := bne_iff_ne.mpr c56
                                        have HC59 := Aside0.mk H
                                        clear H
                                        have p505 : 0 ≤ (t502 : Int) := of_decide_eq_true (by first | (with_reducible assumption) | assumption)
                                        have q505 : t502 < (l0.length : Int) := of_decide_eq_true (by first | (with_reducible assumption) | assumption)
                                        obtain ⟨ad505, e505, hx505_0⟩ := Kd.at_int HR0.out t502 p505 q505
                                        cases e505
                                        replace hx505_0 := (HB.out.cell (World.block_lt_of_cell? w _ hx505_0)).trans hx505_0
                                        replace p505 := eq_true p505
                                        replace q505 := eq_true q505
                                        go_upto_if 160 with (fail)
                                        repeat (go_quiet (fail); go_upto_if 160 with (fail))
                                        go_cut [22] (fun v22 wc => ∃ (kq : Nat) (x22_58 : Int), v22 = .int .i64 x22_58 ∧ Aside0 (clochelaw03_VisitsLed.j4 kq l0 l2 (l0.length : Int) x8_3 t497 (Go.bits .or .i64 x17_3 (ji54)) x18_3 (Go.bits .andNot .i64 (rd l0 t502) (Go.bits .or .i64 x17_3 (ji54))) x22_58 = some r) ∧ Aside0 (kq ≤ kj38) ∧ Aside0 (Kd.R k43 43 wc w.heap.size (fun _ => True) (.slice Ao40 t497.length co40) t497) ∧ Aside0 (Below w.heap.size w wc))
                                        case first =>
                                          have H := HC59.out
                                          clear HC59
                                          by_cases c60 : x18_3 < (l2.length : Int)
                                          · rw [if_pos c60] at H
                                            have c60b0 : decide (x18_3 < (l2.length : Int)) = true := decide_eq_true c60
                                            clear c60
                                            (first | rw [c60b0] | (simp only [i64_w, i32_w]; rw [c60b0]) | skip)
                                            by_cases c61 : 0 ≤ x18_3
                                            · rw [if_pos c61] at H
                                              have c61b0 : decide (0 ≤ x18_3) = true := decide_eq_true c61
                                              clear c61
                                              replace H := Option.bind_eq_some_iff.mp H
                                              obtain ⟨t508, A620, H⟩ := H
                                              replace H : (if t508 = 0 then (none) else (clochelaw03_VisitsLed.j4 kj38 l0 l2 (l0.length : Int) x8_3 t497 (Go.bits .or .i64 x17_3 (ji54)) x18_3 (Go.bits .andNot .i64 (rd l0 t502) (Go.bits .or .i64 x17_3 (ji54))) (Int.tmod (wrap64 (rd l2 x18_3)) t508))) = some r := H
                                              have A62 := Aside0.mk A620
                                              clear A620
                                              by_cases c63 : t508 = 0
                                              · rw [if_pos c63] at H
                                                exact absurd H (by simp)
                                              · rw [if_neg c63] at H
                                                have c63b0 : (t508 == 0) = false := beq_eq_false_iff_ne.mpr c63
                                                have c63b1 : (t508 != 0) = true := bne_iff_ne.mpr c63
                                                have H' := Aside0.mk H
                                                clear H
                                                have p507 : 0 ≤ (x18_3 : Int) := of_decide_eq_true (by first | (with_reducible assumption) | assumption)
                                                have q507 : x18_3 < (l2.length : Int) := of_decide_eq_true (by first | (with_reducible assumption) | assumption)
                                                obtain ⟨ad507, e507, hx507_0⟩ := Kd.at_int HR2.out x18_3 p507 q507
                                                cases e507
                                                replace hx507_0 := (HB.out.cell (World.block_lt_of_cell? w _ hx507_0)).trans hx507_0
                                                replace p507 := eq_true p507
                                                replace q507 := eq_true q507
                                                go_wp2_with (first | (go_at_call 29; (with_reducible refine (clocheref03_Size.calls kj38 (Go.bits .andNot .i64 (rd l0 t502) (Go.bits .or .i64 x17_3 (ji54))) t508 _ A62.out).mono ?_); rintro e w' ⟨rfl, ⟨nd, rfl⟩⟩; (try first | exact ⟨rfl, _, World.drewN_drewN _ _ _⟩ | exact ⟨rfl, _, Eq.trans (World.drewN_drewN _ _ _) (congrArg (World.drewN _) (Nat.add_assoc _ _ _))⟩)))
                                                repeat (go_quiet (first | (go_at_call 29; (with_reducible refine (clocheref03_Size.calls kj38 (Go.bits .andNot .i64 (rd l0 t502) (Go.bits .or .i64 x17_3 (ji54))) t508 _ A62.out).mono ?_); rintro e w' ⟨rfl, ⟨nd, rfl⟩⟩; (try first | exact ⟨rfl, _, World.drewN_drewN _ _ _⟩ | exact ⟨rfl, _, Eq.trans (World.drewN_drewN _ _ _) (congrArg (World.drewN _) (Nat.add_assoc _ _ _))⟩))); try go_wp2_with (first | (go_at_call 29; (with_reducible refine (clocheref03_Size.calls kj38 (Go.bits .andNot .i64 (rd l0 t502) (Go.bits .or .i64 x17_3 (ji54))) t508 _ A62.out).mono ?_); rintro e w' ⟨rfl, ⟨nd, rfl⟩⟩; (try first | exact ⟨rfl, _, World.drewN_drewN _ _ _⟩ | exact ⟨rfl, _, Eq.trans (World.drewN_drewN _ _ _) (congrArg (World.drewN _) (Nat.add_assoc _ _ _))⟩))))
                                                go_meet
                                                case rel => exact ⟨_, (Int.tmod (wrap64 (rd l2 x18_3)) t508), (by first | rfl | (simp; done) | (simp [*]; done)), H', ⟨by have := HJ3.out; have := HJ19.out; have := HK3.out; have := HJ38.out; first | omega | exact Nat.le_refl _⟩, ⟨by (with_reducible repeat (first | apply Kd.R_alloc | apply Kd.R_drewN | apply Kd.R_drew)); exact HO_15.out⟩, ⟨by repeat (first | (with_reducible first | exact HB.out | apply below_alloc | apply pw_below_drewN | apply below_drew1) | exact HB.out)⟩⟩
                                            · rw [if_neg c61] at H
                                              exact absurd H (by simp)
                                          · rw [if_neg c60] at H
                                            have c60b0 : decide (x18_3 < (l2.length : Int)) = false := decide_eq_false c60
                                            clear c60
                                            (first | rw [c60b0] | (simp only [i64_w, i32_w]; rw [c60b0]) | skip)
                                            have H' := Aside0.mk H
                                            clear H
                                            go_wp2
                                            repeat (go_quiet (fail); try go_wp2)
                                            go_meet
                                            case rel => exact ⟨_, (0), (by first | rfl | (simp; done) | (simp [*]; done)), H', ⟨by have := HJ3.out; have := HJ19.out; have := HK3.out; have := HJ38.out; first | omega | exact Nat.le_refl _⟩, ⟨by (with_reducible repeat (first | apply Kd.R_alloc | apply Kd.R_drewN | apply Kd.R_drew)); exact HO_15.out⟩, ⟨by repeat (first | (with_reducible first | exact HB.out | apply below_alloc | apply pw_below_drewN | apply below_drew1) | exact HB.out)⟩⟩
                                        case rest =>
                                          clear HC59
                                          try clear c1
                                          try clear c2
                                          try clear p2
                                          try clear c3
                                          try clear c4
                                          try clear c5
                                          try clear p5
                                          try clear q5
                                          try clear hx5
                                          try clear c6
                                          try clear p6
                                          try clear c7
                                          try clear c7b0
                                          try clear c7b1
                                          try clear c9
                                          try clear c12
                                          try clear c12b0
                                          try clear c12b1
                                          try clear c12b2
                                          try clear c13
                                          try clear c14
                                          try clear c14b0
                                          try clear c14b1
                                          try clear c25
                                          try clear c25b0
                                          try clear c25b1
                                          try clear c26
                                          try clear c26b0
                                          try clear c26b1
                                          try clear c27
                                          try clear c27b0
                                          try clear c27b1
                                          try clear c28
                                          try clear c28b0
                                          try clear c28b1
                                          try clear c29
                                          try clear c29b0
                                          try clear c31
                                          try clear c31b0
                                          try clear c31b1
                                          try clear c31b2
                                          try clear c33
                                          try clear c34
                                          try clear c35
                                          try clear c35b0
                                          try clear c35b1
                                          try clear c37
                                          try clear c37b0
                                          try clear c42
                                          try clear c42b0
                                          try clear c42b1
                                          try clear c43
                                          try clear c43b0
                                          try clear c44
                                          try clear c44b0
                                          try clear c45
                                          try clear c45b0
                                          try clear c45b1
                                          try clear c47
                                          try clear c47b0
                                          try clear c47b1
                                          try clear c48
                                          try clear c48b0
                                          try clear c49
                                          try clear c49b0
                                          try clear c50
                                          try clear c50b0
                                          try clear p50
                                          try clear q50
                                          try clear hx50
                                          try clear c52
                                          try clear c53
                                          try clear c53b0
                                          try clear c53b1
                                          try clear c55
                                          try clear c55b0
                                          try clear c56
                                          try clear c56b0
                                          try clear c56b1
                                          try clear c60
                                          try clear c60b0
                                          try clear c61
                                          try clear c61b0
                                          try clear c63
                                          try clear c63b0
                                          try clear c63b1
                                          try clear hx504_0
                                          try clear hx505_0
                                          try clear hx507_0
                                          try clear p2
                                          try clear p5
                                          try clear p50
                                          try clear p504
                                          try clear p505
                                          try clear p507
                                          try clear p6
                                          try clear q5
                                          try clear q50
                                          try clear q504
                                          try clear q505
                                          try clear q507
                                          obtain ⟨kq, x22_58, rfl, HA, HJ58, HO_15, HB⟩ := hcut
                                          cases kq with
                                          | zero => exact absurd HA.out (by simp [clochelaw03_VisitsLed.j4])
                                          | succ kj58 =>
                                            have H := HA.out
                                            clear HA
                                            simp only [clochelaw03_VisitsLed.j4] at H
                                            have H' := Aside0.mk H
                                            clear H
                                            go_wp2
                                            repeat (go_quiet (fail); try go_wp2)
                                            go_loopg [8, 22, 23] kj58 (fun kq v8 v22 v23 w' => ∃ (x8_6 : Int) (x22_6 : Int) (x23_6 : Int), v8 = .int .i64 x8_6 ∧ v22 = .int .i64 x22_6 ∧ v23 = .int .i64 x23_6 ∧ Aside0 (clochelaw03_VisitsLed.l1 kq l0 l2 (l0.length : Int) x8_6 t497 (Go.bits .or .i64 x17_3 (ji54)) x18_3 (Go.bits .andNot .i64 (rd l0 t502) (Go.bits .or .i64 x17_3 (ji54))) x22_6 x23_6 = some r) ∧ Aside0 (kq ≤ kj58) ∧ Aside0 (Kd.R k43 43 w' w.heap.size (fun _ => True) (.slice Ao40 t497.length co40) t497) ∧ Aside0 (Below w.heap.size w w'))
                                            case atStart => exact ⟨(x8_3), (x22_58), (0), (by first | rfl | (simp; done) | (simp [*]; done)), (by first | rfl | (simp; done) | (simp [*]; done)), (by first | rfl | (simp; done) | (simp [*]; done)), H', ⟨Nat.le_refl _⟩, ⟨by (with_reducible repeat (first | apply Kd.R_alloc | apply Kd.R_drewN | apply Kd.R_drew)); exact HO_15.out⟩, ⟨by repeat (first | (with_reducible first | exact HB.out | apply below_alloc | apply pw_below_drewN | apply below_drew1) | exact HB.out)⟩⟩
                                            case round =>
                                              clear H'
                                              try clear c1
                                              try clear c2
                                              try clear p2
                                              try clear c3
                                              try clear c4
                                              try clear c5
                                              try clear p5
                                              try clear q5
                                              try clear hx5
                                              try clear c6
                                              try clear p6
                                              try clear c7
                                              try clear c7b0
                                              try clear c7b1
                                              try clear c9
                                              try clear c12
                                              try clear c12b0
                                              try clear c12b1
                                              try clear c12b2
                                              try clear c13
                                              try clear c14
                                              try clear c14b0
                                              try clear c14b1
                                              try clear c25
                                              try clear c25b0
                                              try clear c25b1
                                              try clear c26
                                              try clear c26b0
                                              try clear c26b1
                                              try clear c27
                                              try clear c27b0
                                              try clear c27b1
                                              try clear c28
                                              try clear c28b0
                                              try clear c28b1
                                              try clear c29
                                              try clear c29b0
                                              try clear c31
                                              try clear c31b0
                                              try clear c31b1
                                              try clear c31b2
                                              try clear c33
                                              try clear c34
                                              try clear c35
                                              try clear c35b0
                                              try clear c35b1
                                              try clear c37
                                              try clear c37b0
                                              try clear c42
                                              try clear c42b0
                                              try clear c42b1
                                              try clear c43
                                              try clear c43b0
                                              try clear c44
                                              try clear c44b0
                                              try clear c45
                                              try clear c45b0
                                              try clear c45b1
                                              try clear c47
                                              try clear c47b0
                                              try clear c47b1
                                              try clear c48
                                              try clear c48b0
                                              try clear c49
                                              try clear c49b0
                                              try clear c50
                                              try clear c50b0
                                              try clear p50
                                              try clear q50
                                              try clear hx50
                                              try clear c52
                                              try clear c53
                                              try clear c53b0
                                              try clear c53b1
                                              try clear c55
                                              try clear c55b0
                                              try clear c56
                                              try clear c56b0
                                              try clear c56b1
                                              try clear c60
                                              try clear c60b0
                                              try clear c61
                                              try clear c61b0
                                              try clear c63
                                              try clear c63b0
                                              try clear c63b1
                                              try clear hx504_0
                                              try clear hx505_0
                                              try clear hx507_0
                                              try clear p2
                                              try clear p5
                                              try clear p50
                                              try clear p504
                                              try clear p505
                                              try clear p507
                                              try clear p6
                                              try clear q5
                                              try clear q50
                                              try clear q504
                                              try clear q505
                                              try clear q507
                                              obtain ⟨x8_6, x22_6, x23_6, rfl, rfl, rfl, HA, HK6, HO_15, HB⟩ := hrel
                                              cases gk with
                                              | zero => exact absurd HA.out (by simp [clochelaw03_VisitsLed.l1])
                                              | succ k6 =>
                                                have H := HA.out
                                                clear HA
                                                simp only [clochelaw03_VisitsLed.l1] at H
                                                by_cases c64 : x23_6 < (l0.length : Int)
                                                · rw [if_pos c64] at H
                                                  have c64b0 : decide (x23_6 < (l0.length : Int)) = true := decide_eq_true c64
                                                  clear c64
                                                  by_cases c65 : 0 ≤ x23_6
                                                  · rw [if_pos c65] at H
                                                    have c65b0 := eq_true c65
                                                    have c65b1 : decide (0 ≤ x23_6) = true := decide_eq_true c65
                                                    clear c65
                                                    obtain ⟨ji66, hji66⟩ : ∃ j_ : Int, (shr .i64 (Go.bits .andNot .i64 (rd l0 t502) (Go.bits .or .i64 x17_3 (ji54))) x23_6) = j_ := ⟨_, rfl⟩
                                                    replace H : (if (Int.tmod (ji66) 2) = 1 then (if x22_6 = 0 then (clochelaw03_VisitsLed.l0 k6 l0 l2 (l0.length : Int) x23_6 t497 (Go.bits .or .i64 (Go.bits .or .i64 x17_3 (ji54)) (shl .i64 1 x23_6)) (wrap64 (x18_3 + 1))) else (clochelaw03_VisitsLed.l1 k6 l0 l2 (l0.length : Int) x8_6 t497 (Go.bits .or .i64 x17_3 (ji54)) x18_3 (Go.bits .andNot .i64 (rd l0 t502) (Go.bits .or .i64 x17_3 (ji54))) (wrap64 (x22_6 - 1)) (wrap64 (x23_6 + 1)))) else (clochelaw03_VisitsLed.l1 k6 l0 l2 (l0.length : Int) x8_6 t497 (Go.bits .or .i64 x17_3 (ji54)) x18_3 (Go.bits .andNot .i64 (rd l0 t502) (Go.bits .or .i64 x17_3 (ji54))) x22_6 (wrap64 (x23_6 + 1)))) = some r := by first | (rw [hji66] at H; exact H) | (simp only [hji66] at H ⊢; exact H)
                                                    have hji66_ : ((Go.bits .andNot .i64 (rd l0 t502) (Go.bits .or .i64 x17_3 (ji54))) / 2 ^ min x23_6.toNat 64) = ji66 := hji66
                                                    have hji66z : x23_6 ≤ 64 → ((Go.bits .andNot .i64 (rd l0 t502) (Go.bits .or .i64 x17_3 (ji54))) / 2 ^ x23_6.toNat) = ji66 := shr_small hji66
                                                    by_cases c67 : (Int.tmod (ji66) 2) = 1
                                                    · rw [if_pos c67] at H
                                                      have c67b0 : ((Int.tmod (ji66) 2) == 1) = true := beq_iff_eq.mpr c67
                                                      have c67b1 : ((Int.tmod (ji66) 2) != 1) = false := bne_eq_false_iff_eq.mpr c67
                                                      clear c67
                                                      by_cases c68 : x22_6 = 0
                                                      · rw [if_pos c68] at H
                                                        have c68b0 : (x22_6 == 0) = true := beq_iff_eq.mpr c68
                                                        have c68b1 : (x22_6 != 0) = false := bne_eq_false_iff_eq.mpr c68
                                                        clear c68
                                                        have c69b0 := eq_true (of_decide_eq_true (by first | (with_reducible assumption) | assumption) : 0 ≤ x23_6)
                                                        obtain ⟨ji70, hji70⟩ : ∃ j_ : Int, (shl .i64 1 x23_6) = j_ := ⟨_, rfl⟩
                                                        replace H : (clochelaw03_VisitsLed.l0 k6 l0 l2 (l0.length : Int) x23_6 t497 (Go.bits .or .i64 (Go.bits .or .i64 x17_3 (ji54)) (ji70)) (wrap64 (x18_3 + 1))) = some r := by first | (rw [hji70] at H; exact H) | (simp only [hji70] at H ⊢; exact H)
                                                        have hji70_ : (IntKind.i64.wrap (1 * 2 ^ min x23_6.toNat 64)) = ji70 := hji70
                                                        have hji70z : x23_6 ≤ 64 → (IntKind.i64.wrap (1 * 2 ^ x23_6.toNat)) = ji70 := shl_small hji70
                                                        have hji70u : (IntKind.i64.wrap (2 ^ min x23_6.toNat 64)) = ji70 := by have h_ := hji70_; rw [Int.one_mul] at h_; exact h_
                                                        have hji70v : x23_6 ≤ 64 → (IntKind.i64.wrap (2 ^ x23_6.toNat)) = ji70 := fun hle_ => by have h_ := hji70z hle_; rw [Int.one_mul] at h_; exact h_
                                                        have hji70y : (wrap64 (1 * 2 ^ min x23_6.toNat 64)) = ji70 := (i64_w _).symm.trans hji70_
                                                        have hji70x : x23_6 ≤ 64 → (wrap64 (1 * 2 ^ x23_6.toNat)) = ji70 := fun h_ => (i64_w _).symm.trans (hji70z h_)
                                                        have H' := Aside0.mk H
                                                        clear H
                                                        go_wp2
                                                        repeat (go_quiet (fail); try go_wp2)
                                                        go_roundg k6
                                                        case measure => have := HJ3.out; have := HJ19.out; have := HK3.out; have := HJ38.out; have := HJ58.out; have := HK6.out; omega
                                                        case rel => exact ⟨(x23_6), (Go.bits .or .i64 (Go.bits .or .i64 x17_3 (ji54)) (ji70)), (wrap64 (x18_3 + 1)), (by first | rfl | (simp; done) | (simp [*]; done)), (by first | rfl | (simp; done) | (simp only [← hji54, ← hji70] <;> (first | rfl | simp)) | (simp [*]; done)), (by first | rfl | (simp; done) | (simp [*]; done)), H', ⟨by have := HJ3.out; have := HJ19.out; have := HK3.out; have := HJ38.out; have := HJ58.out; have := HK6.out; omega⟩, ⟨by (with_reducible repeat (first | apply Kd.R_alloc | apply Kd.R_drewN | apply Kd.R_drew)); exact HO_15.out⟩, ⟨by repeat (first | (with_reducible first | exact HB.out | apply below_alloc | apply pw_below_drewN | apply below_drew1) | exact HB.out)⟩⟩
                                                      · rw [if_neg c68] at H
                                                        have c68b0 : (x22_6 == 0) = false := beq_eq_false_iff_ne.mpr c68
                                                        have c68b1 : (x22_6 != 0) = true := bne_iff_ne.mpr c68
                                                        have H' := Aside0.mk H
                                                        clear H
                                                        go_wp2
                                                        repeat (go_quiet (fail); try go_wp2)
                                                        go_roundg k6
                                                        case measure => have := HJ3.out; have := HJ19.out; have := HK3.out; have := HJ38.out; have := HJ58.out; have := HK6.out; omega
                                                        case rel => exact ⟨(x8_6), (wrap64 (x22_6 - 1)), (wrap64 (x23_6 + 1)), (by first | rfl | (simp; done) | (simp [*]; done)), (by first | rfl | (simp; done) | (simp [*]; done)), (by first | rfl | (simp; done) | (simp [*]; done)), H', ⟨by have := HJ3.out; have := HJ19.out; have := HK3.out; have := HJ38.out; have := HJ58.out; have := HK6.out; omega⟩, ⟨by (with_reducible repeat (first | apply Kd.R_alloc | apply Kd.R_drewN | apply Kd.R_drew)); exact HO_15.out⟩, ⟨by repeat (first | (with_reducible first | exact HB.out | apply below_alloc | apply pw_below_drewN | apply below_drew1) | exact HB.out)⟩⟩
                                                    · rw [if_neg c67] at H
                                                      have c67b0 : ((Int.tmod (ji66) 2) == 1) = false := beq_eq_false_iff_ne.mpr c67
                                                      have c67b1 : ((Int.tmod (ji66) 2) != 1) = true := bne_iff_ne.mpr c67
                                                      have H' := Aside0.mk H
                                                      clear H
                                                      go_wp2
                                                      repeat (go_quiet (fail); try go_wp2)
                                                      go_roundg k6
                                                      case measure => have := HJ3.out; have := HJ19.out; have := HK3.out; have := HJ38.out; have := HJ58.out; have := HK6.out; omega
                                                      case rel => exact ⟨(x8_6), (x22_6), (wrap64 (x23_6 + 1)), (by first | rfl | (simp; done) | (simp [*]; done)), (by first | rfl | (simp; done) | (simp [*]; done)), (by first | rfl | (simp; done) | (simp [*]; done)), H', ⟨by have := HJ3.out; have := HJ19.out; have := HK3.out; have := HJ38.out; have := HJ58.out; have := HK6.out; omega⟩, ⟨by (with_reducible repeat (first | apply Kd.R_alloc | apply Kd.R_drewN | apply Kd.R_drew)); exact HO_15.out⟩, ⟨by repeat (first | (with_reducible first | exact HB.out | apply below_alloc | apply pw_below_drewN | apply below_drew1) | exact HB.out)⟩⟩
                                                  · rw [if_neg c65] at H
                                                    exact absurd H (by simp)
                                                · rw [if_neg c64] at H
                                                  have c64b0 : decide (x23_6 < (l0.length : Int)) = false := decide_eq_false c64
                                                  clear c64
                                                  by_cases c71 : 0 ≤ x8_6
                                                  · rw [if_pos c71] at H
                                                    have c71b0 := eq_true c71
                                                    have c71b1 : decide (0 ≤ x8_6) = true := decide_eq_true c71
                                                    clear c71
                                                    obtain ⟨ji72, hji72⟩ : ∃ j_ : Int, (shl .i64 1 x8_6) = j_ := ⟨_, rfl⟩
                                                    replace H : (clochelaw03_VisitsLed.l0 k6 l0 l2 (l0.length : Int) x8_6 t497 (Go.bits .or .i64 (Go.bits .or .i64 x17_3 (ji54)) (ji72)) (wrap64 (x18_3 + 1))) = some r := by first | (rw [hji72] at H; exact H) | (simp only [hji72] at H ⊢; exact H)
                                                    have hji72_ : (IntKind.i64.wrap (1 * 2 ^ min x8_6.toNat 64)) = ji72 := hji72
                                                    have hji72z : x8_6 ≤ 64 → (IntKind.i64.wrap (1 * 2 ^ x8_6.toNat)) = ji72 := shl_small hji72
                                                    have hji72u : (IntKind.i64.wrap (2 ^ min x8_6.toNat 64)) = ji72 := by have h_ := hji72_; rw [Int.one_mul] at h_; exact h_
                                                    have hji72v : x8_6 ≤ 64 → (IntKind.i64.wrap (2 ^ x8_6.toNat)) = ji72 := fun hle_ => by have h_ := hji72z hle_; rw [Int.one_mul] at h_; exact h_
                                                    have hji72y : (wrap64 (1 * 2 ^ min x8_6.toNat 64)) = ji72 := (i64_w _).symm.trans hji72_
                                                    have hji72x : x8_6 ≤ 64 → (wrap64 (1 * 2 ^ x8_6.toNat)) = ji72 := fun h_ => (i64_w _).symm.trans (hji72z h_)
                                                    have H' := Aside0.mk H
                                                    clear H
                                                    go_wp2
                                                    repeat (go_quiet (fail); try go_wp2)
                                                    go_roundg k6
                                                    case measure => have := HJ3.out; have := HJ19.out; have := HK3.out; have := HJ38.out; have := HJ58.out; have := HK6.out; omega
                                                    case rel => exact ⟨(x8_6), (Go.bits .or .i64 (Go.bits .or .i64 x17_3 (ji54)) (ji72)), (wrap64 (x18_3 + 1)), (by first | rfl | (simp; done) | (simp [*]; done)), (by first | rfl | (simp; done) | (simp only [← hji54, ← hji72] <;> (first | rfl | simp)) | (simp [*]; done)), (by first | rfl | (simp; done) | (simp [*]; done)), H', ⟨by have := HJ3.out; have := HJ19.out; have := HK3.out; have := HJ38.out; have := HJ58.out; have := HK6.out; omega⟩, ⟨by (with_reducible repeat (first | apply Kd.R_alloc | apply Kd.R_drewN | apply Kd.R_drew)); exact HO_15.out⟩, ⟨by repeat (first | (with_reducible first | exact HB.out | apply below_alloc | apply pw_below_drewN | apply below_drew1) | exact HB.out)⟩⟩
                                                  · rw [if_neg c71] at H
                                                    exact absurd H (by simp)
                                    · rw [if_neg c55] at H
                                      exact absurd H (by simp)
                                  · rw [if_neg c53] at H
                                    exact absurd H (by simp)
                          · rw [if_neg c37] at H
                            exact absurd H (by simp)
                    · rw [if_neg c35] at H
                      exact absurd H (by simp)
                  · replace c34 := Bool.eq_false_iff.mpr c34
                    subst c34
                    have H1 : ((clochelaw03_alive.f kj19).bind fun t501 => (some t501)) = some r := by rw [if_neg (show ¬ (false = true) by decide)] at H; exact H
                    clear H
                    have H := H1
                    clear H1
                    replace H := Option.bind_eq_some_iff.mp H
                    obtain ⟨t501, A730, H⟩ := H
                    replace H : (some t501) = some r := H
                    have A73 := Aside0.mk A730
                    clear A730
                    obtain rfl := Option.some.inj H
                    go_wp2_with (first | (go_at_call 16; (with_reducible refine (clochelaw03_alive.calls kj19  t501 _ A73.out (by repeat (first | exact HT0.out | exact tabB HT0.out HB.out | (refine tab_alloc ?_ _) | (refine tab_drewN ?_ _) | (refine tab_drew ?_)))).mono ?_); rintro e w74 ⟨rfl, hb⟩; have n0_ := Aside0.mk (Kd.R_below (by (with_reducible repeat (first | apply Kd.R_alloc | apply Kd.R_drewN | apply Kd.R_drew)); exact HO_15.out) hb); have n1_ := Aside0.mk (below_step (by repeat (first | (with_reducible first | exact HB.out | apply below_alloc | apply pw_below_drewN | apply below_drew1) | exact HB.out)) hb); clear HO_15; clear HB; have HO_15 := n0_; have HB := n1_; clear n0_ n1_; (try clear hb); (try clear hb2); (try clear hk); (try clear hi)))
                    repeat (go_quiet (first | (go_at_call 16; (with_reducible refine (clochelaw03_alive.calls kj19  t501 _ A73.out (by repeat (first | exact HT0.out | exact tabB HT0.out HB.out | (refine tab_alloc ?_ _) | (refine tab_drewN ?_ _) | (refine tab_drew ?_)))).mono ?_); rintro e w74 ⟨rfl, hb⟩; have n0_ := Aside0.mk (Kd.R_below (by (with_reducible repeat (first | apply Kd.R_alloc | apply Kd.R_drewN | apply Kd.R_drew)); exact HO_15.out) hb); have n1_ := Aside0.mk (below_step (by repeat (first | (with_reducible first | exact HB.out | apply below_alloc | apply pw_below_drewN | apply below_drew1) | exact HB.out)) hb); clear HO_15; clear HB; have HO_15 := n0_; have HB := n1_; clear n0_ n1_; (try clear hb); (try clear hb2); (try clear hk); (try clear hi))); try go_wp2_with (first | (go_at_call 16; (with_reducible refine (clochelaw03_alive.calls kj19  t501 _ A73.out (by repeat (first | exact HT0.out | exact tabB HT0.out HB.out | (refine tab_alloc ?_ _) | (refine tab_drewN ?_ _) | (refine tab_drew ?_)))).mono ?_); rintro e w74 ⟨rfl, hb⟩; have n0_ := Aside0.mk (Kd.R_below (by (with_reducible repeat (first | apply Kd.R_alloc | apply Kd.R_drewN | apply Kd.R_drew)); exact HO_15.out) hb); have n1_ := Aside0.mk (below_step (by repeat (first | (with_reducible first | exact HB.out | apply below_alloc | apply pw_below_drewN | apply below_drew1) | exact HB.out)) hb); clear HO_15; clear HB; have HO_15 := n0_; have HB := n1_; clear n0_ n1_; (try clear hb); (try clear hb2); (try clear hk); (try clear hi))))
                    go_ret
                    exact ⟨by first | rfl | (simp [errW_none, errW_some] <;> rfl) | (simp only [← hji13, ← hji15]; first | rfl | (simp [errW_none, errW_some] <;> rfl)) | (simp [*, errW_none, errW_some] <;> rfl), by repeat (first | (with_reducible first | exact HB.out | apply below_alloc | apply pw_below_drewN | apply below_drew1) | exact HB.out)⟩
          · rw [if_neg c14] at H
            exact absurd H (by simp)

/-- THE ONE PURE STATEMENT of clochelaw03_VisitsLed: yours. -/
def clochelaw03_VisitsLed.Pure : Prop := ∀ (l0 : List Int) (a1 : Int) (l2 : List Int), l0.length ≤ maxLen → l0.length * 8 ≤ 140737488351232 → (∀ x ∈ l0, (Lit.int .i64 x).wf = true) → (Lit.int .u8 a1).wf = true → l2.length ≤ maxLen → l2.length * 1 ≤ 140737488351232 → (∀ x ∈ l2, (Lit.int .u8 x).wf = true) → ∃ k, clochelaw03_VisitsLed.f k l0 a1 l2 = some true
theorem clochelaw03_VisitsLed.walk (P : clochelaw03_VisitsLed.Pure) (a0 : Option Addr) (len0 cap0 : Nat) (z0 : List Int) (a1 : Int) (a2 : Option Addr) (len2 cap2 : Nat) (z2 : List Int) (w : World) (w0 : (a0 = none ∧ len0 = 0 ∧ cap0 = 0 ∧ z0 = []) ∨ ∃ x, a0 = some x ∧ len0 ≤ cap0 ∧ cap0 ≤ maxLen ∧ z0.length = cap0 ∧ (∀ i, i < z0.length → w.cell? (x.add i) = some (.int .i64 (z0.getD i 0))) ∧ ∀ n ∈ z0, (Lit.int .i64 n).wf = true) (y0 : len0 * 8 ≤ 140737488351232) (w1 : (Lit.int .u8 a1).wf = true) (w2 : (a2 = none ∧ len2 = 0 ∧ cap2 = 0 ∧ z2 = []) ∨ ∃ x, a2 = some x ∧ len2 ≤ cap2 ∧ cap2 ≤ maxLen ∧ z2.length = cap2 ∧ (∀ i, i < z2.length → w.cell? (x.add i) = some (.int .u8 (z2.getD i 0))) ∧ ∀ n ∈ z2, (Lit.int .u8 n).wf = true) (y2 : len2 * 1 ≤ 140737488351232) (hT : Tab w) :
    Calls Tryd.prog 13 #[.slice a0 len0 cap0, .int .u8 a1, .slice a2 len2 cap2] w fun e w' => e = .returned (.bool true) ∧ Below w.heap.size w w' := by
  obtain ⟨l0, rfl, hr0, hm0, hw0, hc0⟩ := ReadsInt.ofRowC w0
  obtain ⟨l2, rfl, hr2, hm2, hw2, hc2⟩ := ReadsInt.ofRowC w2
  obtain ⟨k, h⟩ := P l0 a1 l2 hm0 y0 hw0 w1 hm2 y2 hw2
  refine (clochelaw03_VisitsLed.calls k _ _ l0 a1 _ _ l2 true w (Kd.C_of_reads (d := (0 : Int)) (h1 := fun _ => rfl) hr0) hc0 (Kd.C_of_reads (d := (0 : Int)) (h1 := fun _ => rfl) hr2) hc2 h hT).mono ?_
  rintro e w' ⟨rfl, hd⟩
  exact ⟨rfl, hd⟩

end Go.Proofs.YtadfcplobidmeaaDoor.Print
