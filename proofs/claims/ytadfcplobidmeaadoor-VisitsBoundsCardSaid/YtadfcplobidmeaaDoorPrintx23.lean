/- What the functions of the visits compute, printed by this repo's hand printer. -/
import Derived.Test.YtadfcplobidmeaaDoorPrintx0
import Derived.Test.YtadfcplobidmeaaDoorPrintx2
import Derived.Test.YtadfcplobidmeaaDoorPrintx6
import Derived.Test.YtadfcplobidmeaaDoorPrintx10
import Derived.Test.YtadfcplobidmeaaDoorPrintx11
import Derived.Test.YtadfcplobidmeaaDoorPrintx21
import Derived.Test.YtadfcplobidmeaaDoorPrintx22
namespace Go.Proofs.YtadfcplobidmeaaDoor.Print
open Go.RowKit Go.Proofs.YtadfcplobidmeaaDoorW.PrintWords Go.Proofs.YtadfcplobidmeaaDoorW.PrintLast Go.Proofs.YtadfcplobidmeaaDoorW.PrintMore
attribute [local go_sem] max2_int min2_int max_two min_two max_three min_three max_four min_four   -- for this text's walks alone
set_option linter.unusedVariables false
set_option linter.unusedSimpArgs false

/-! ### clochelaw03_VisitsBounds: function 7 -/
mutual
def clochelaw03_VisitsBounds.j0 : Nat → List Int → Int → List (S43) → Bool → Option (Bool)
  | 0, _, _, _, _ => none
  | k + 1, x0, x1, x2, x27 => if x27 = true then ((clochelaw03_alive.f k).bind fun t296 => (some t296)) else ((visits_Largest.f k x0).bind fun bt297 => ((visits_IsMatching.f k x0 x2).bind fun bt301 => (if bt297.2 = 0 then (clochelaw03_VisitsBounds.j1 k x0 x1 x2 (x0.length : Int) bt297.1 bt301.1 (bt301.2 != 0)) else (none))))
def clochelaw03_VisitsBounds.j1 : Nat → List Int → Int → List (S43) → Int → List (S43) → Bool → Bool → Option (Bool)
  | 0, _, _, _, _, _, _, _ => none
  | k + 1, x0, x1, x2, x7, x8, x10, x47 => if x47 = true then (none) else (if 0 ≤ x7 then (if (shl .i64 1 x7) = 0 then (none) else (clochelaw03_VisitsBounds.l0 k x0 x2 x7 x8 x10 (Int.tmod (wrap64 (x1)) (shl .i64 1 x7)) true 0)) else (none))
def clochelaw03_VisitsBounds.l0 : Nat → List Int → List (S43) → Int → List (S43) → Bool → Int → Bool → Int → Option (Bool)
  | 0, _, _, _, _, _, _, _, _ => none
  | k + 1, x0, x2, x7, x8, x10, x12, x13, x14 => if x14 < x7 then (if x13 = true then (if 0 ≤ x14 then (if (Int.tmod (shr .i64 x12 x14) 2) = 1 then (clochelaw03_VisitsBounds.l0 k x0 x2 x7 x8 x10 x12 true (wrap64 (x14 + 1))) else (if x14 < (x0.length : Int) then (clochelaw03_VisitsBounds.l0 k x0 x2 x7 x8 x10 x12 ((Go.bits .andNot .i64 (rd x0 x14) x12) == 0) (wrap64 (x14 + 1))) else (none))) else (none)) else (clochelaw03_VisitsBounds.l0 k x0 x2 x7 x8 x10 x12 false (wrap64 (x14 + 1)))) else (if x13 = true then ((clocheref03_Size.f k x12).bind fun t304 => (clochelaw03_VisitsBounds.j3 k x0 x2 x7 x8 x10 (decide ((x8.length : Int) > t304)))) else (clochelaw03_VisitsBounds.j3 k x0 x2 x7 x8 x10 false))
def clochelaw03_VisitsBounds.j3 : Nat → List Int → List (S43) → Int → List (S43) → Bool → Bool → Option (Bool)
  | 0, _, _, _, _, _, _ => none
  | k + 1, x0, x2, x7, x8, x10, x82 => if x82 = true then (none) else (if x10 = true then (clochelaw03_VisitsBounds.l1 k x0 x2 x7 x8 0 0) else ((clochelaw03_alive.f k).bind fun t305 => (some t305)))
def clochelaw03_VisitsBounds.l1 : Nat → List Int → List (S43) → Int → List (S43) → Int → Int → Option (Bool)
  | 0, _, _, _, _, _, _ => none
  | k + 1, x0, x2, x7, x8, x15, x16 => if x16 < (x2.length : Int) then (if 0 ≤ x16 then (if ((rd_T43 x2 x16).f0) < 0 then (none) else (if ((rd_T43 x2 x16).f1) < 0 then (none) else (if ((rd_T43 x2 x16).f0) ≥ x7 then (none) else (if ((rd_T43 x2 x16).f1) ≥ x7 then (none) else (if 0 ≤ ((rd_T43 x2 x16).f0) then (if 0 ≤ ((rd_T43 x2 x16).f1) then (clochelaw03_VisitsBounds.l1 k x0 x2 x7 x8 (Go.bits .or .i64 (Go.bits .or .i64 x15 (shl .i64 1 ((rd_T43 x2 x16).f0))) (shl .i64 1 ((rd_T43 x2 x16).f1))) (wrap64 (x16 + 1))) else (none)) else (none)))))) else (none)) else (clochelaw03_VisitsBounds.l2 k x0 x2 x7 x8 x15 true 0)
def clochelaw03_VisitsBounds.l2 : Nat → List Int → List (S43) → Int → List (S43) → Int → Bool → Int → Option (Bool)
  | 0, _, _, _, _, _, _, _ => none
  | k + 1, x0, x2, x7, x8, x15, x17, x18 => if x18 < x7 then (if x17 = true then (if 0 ≤ x18 then (if (Int.tmod (shr .i64 x15 x18) 2) = 1 then (clochelaw03_VisitsBounds.l2 k x0 x2 x7 x8 x15 true (wrap64 (x18 + 1))) else (if x18 < (x0.length : Int) then (clochelaw03_VisitsBounds.l2 k x0 x2 x7 x8 x15 ((Go.bits .andNot .i64 (rd x0 x18) x15) == 0) (wrap64 (x18 + 1))) else (none))) else (none)) else (clochelaw03_VisitsBounds.l2 k x0 x2 x7 x8 x15 false (wrap64 (x18 + 1)))) else (if x17 = true then (if (wrap64 (2 * (x2.length : Int))) ≥ (x8.length : Int) then (if (x2.length : Int) ≤ (x8.length : Int) then ((clochelaw03_alive.f k).bind fun t313 => (some t313)) else (none)) else (none)) else (if (x2.length : Int) ≤ (x8.length : Int) then ((clochelaw03_alive.f k).bind fun t314 => (some t314)) else (none)))
end
def clochelaw03_VisitsBounds.f (k : Nat) (l0 : List Int) (a1 : Int) (l2 : List (S43)) : Option (Bool) := (clochelaw03_few.f l0 l2).bind fun t294 => (if t294 = true then ((clocheref03_IsShop.f k l0).bind fun t295 => (clochelaw03_VisitsBounds.j0 k l0 a1 l2 (!t295))) else (clochelaw03_VisitsBounds.j0 k l0 a1 l2 true))
theorem clochelaw03_VisitsBounds.mono_l : ∀ k, (∀ y0 y1 y2 y3, LeO (clochelaw03_VisitsBounds.j0 k y0 y1 y2 y3) (clochelaw03_VisitsBounds.j0 (k + 1) y0 y1 y2 y3)) ∧ (∀ y0 y1 y2 y3 y4 y5 y6, LeO (clochelaw03_VisitsBounds.j1 k y0 y1 y2 y3 y4 y5 y6) (clochelaw03_VisitsBounds.j1 (k + 1) y0 y1 y2 y3 y4 y5 y6)) ∧ (∀ y0 y1 y2 y3 y4 y5 y6 y7, LeO (clochelaw03_VisitsBounds.l0 k y0 y1 y2 y3 y4 y5 y6 y7) (clochelaw03_VisitsBounds.l0 (k + 1) y0 y1 y2 y3 y4 y5 y6 y7)) ∧ (∀ y0 y1 y2 y3 y4 y5, LeO (clochelaw03_VisitsBounds.j3 k y0 y1 y2 y3 y4 y5) (clochelaw03_VisitsBounds.j3 (k + 1) y0 y1 y2 y3 y4 y5)) ∧ (∀ y0 y1 y2 y3 y4 y5, LeO (clochelaw03_VisitsBounds.l1 k y0 y1 y2 y3 y4 y5) (clochelaw03_VisitsBounds.l1 (k + 1) y0 y1 y2 y3 y4 y5)) ∧ (∀ y0 y1 y2 y3 y4 y5 y6, LeO (clochelaw03_VisitsBounds.l2 k y0 y1 y2 y3 y4 y5 y6) (clochelaw03_VisitsBounds.l2 (k + 1) y0 y1 y2 y3 y4 y5 y6))
  | 0 => ⟨fun _ _ _ _ r h => by simp [clochelaw03_VisitsBounds.j0] at h, fun _ _ _ _ _ _ _ r h => by simp [clochelaw03_VisitsBounds.j1] at h, fun _ _ _ _ _ _ _ _ r h => by simp [clochelaw03_VisitsBounds.l0] at h, fun _ _ _ _ _ _ r h => by simp [clochelaw03_VisitsBounds.j3] at h, fun _ _ _ _ _ _ r h => by simp [clochelaw03_VisitsBounds.l1] at h, fun _ _ _ _ _ _ _ r h => by simp [clochelaw03_VisitsBounds.l2] at h⟩
  | k + 1 => by
    obtain ⟨ih0, ih1, ih2, ih3, ih4, ih5⟩ := clochelaw03_VisitsBounds.mono_l k
    refine ⟨?_, ?_, ?_, ?_, ?_, ?_⟩
    · intro y0 y1 y2 y3
      unfold clochelaw03_VisitsBounds.j0
      repeat' first
      | (with_reducible exact ih0 _ _ _ _)
      | (with_reducible exact ih1 _ _ _ _ _ _ _)
      | (with_reducible exact ih2 _ _ _ _ _ _ _ _)
      | (with_reducible exact ih3 _ _ _ _ _ _)
      | (with_reducible exact ih4 _ _ _ _ _ _)
      | (with_reducible exact ih5 _ _ _ _ _ _ _)
      | (with_reducible exact clochelaw03_alive.mono _)
      | (with_reducible exact clocheref03_IsShop.mono _ _)
      | (with_reducible exact clocheref03_Size.mono _ _)
      | (with_reducible exact visits_IsMatching.mono _ _ _)
      | (with_reducible exact visits_Largest.mono _ _)
      | (with_reducible exact LeO.refl _)
      | (with_reducible exact LeO.none _)
      | (with_reducible refine LeO.ite ?_ ?_)
      | (with_reducible refine LeO.bind ?_ (fun _ => ?_))
      | exact ih0 _ _ _ _
      | exact ih1 _ _ _ _ _ _ _
      | exact ih2 _ _ _ _ _ _ _ _
      | exact ih3 _ _ _ _ _ _
      | exact ih4 _ _ _ _ _ _
      | exact ih5 _ _ _ _ _ _ _
      | exact clochelaw03_alive.mono _
      | exact clocheref03_IsShop.mono _ _
      | exact clocheref03_Size.mono _ _
      | exact visits_IsMatching.mono _ _ _
      | exact visits_Largest.mono _ _
      | exact LeO.none _
      | refine LeO.ite ?_ ?_
      | refine LeO.bind ?_ (fun _ => ?_)
    · intro y0 y1 y2 y3 y4 y5 y6
      unfold clochelaw03_VisitsBounds.j1
      repeat' first
      | (with_reducible exact ih0 _ _ _ _)
      | (with_reducible exact ih1 _ _ _ _ _ _ _)
      | (with_reducible exact ih2 _ _ _ _ _ _ _ _)
      | (with_reducible exact ih3 _ _ _ _ _ _)
      | (with_reducible exact ih4 _ _ _ _ _ _)
      | (with_reducible exact ih5 _ _ _ _ _ _ _)
      | (with_reducible exact clochelaw03_alive.mono _)
      | (with_reducible exact clocheref03_IsShop.mono _ _)
      | (with_reducible exact clocheref03_Size.mono _ _)
      | (with_reducible exact visits_IsMatching.mono _ _ _)
      | (with_reducible exact visits_Largest.mono _ _)
      | (with_reducible exact LeO.refl _)
      | (with_reducible exact LeO.none _)
      | (with_reducible refine LeO.ite ?_ ?_)
      | (with_reducible refine LeO.bind ?_ (fun _ => ?_))
      | exact ih0 _ _ _ _
      | exact ih1 _ _ _ _ _ _ _
      | exact ih2 _ _ _ _ _ _ _ _
      | exact ih3 _ _ _ _ _ _
      | exact ih4 _ _ _ _ _ _
      | exact ih5 _ _ _ _ _ _ _
      | exact clochelaw03_alive.mono _
      | exact clocheref03_IsShop.mono _ _
      | exact clocheref03_Size.mono _ _
      | exact visits_IsMatching.mono _ _ _
      | exact visits_Largest.mono _ _
      | exact LeO.none _
      | refine LeO.ite ?_ ?_
      | refine LeO.bind ?_ (fun _ => ?_)
    · intro y0 y1 y2 y3 y4 y5 y6 y7
      unfold clochelaw03_VisitsBounds.l0
      repeat' first
      | (with_reducible exact ih0 _ _ _ _)
      | (with_reducible exact ih1 _ _ _ _ _ _ _)
      | (with_reducible exact ih2 _ _ _ _ _ _ _ _)
      | (with_reducible exact ih3 _ _ _ _ _ _)
      | (with_reducible exact ih4 _ _ _ _ _ _)
      | (with_reducible exact ih5 _ _ _ _ _ _ _)
      | (with_reducible exact clochelaw03_alive.mono _)
      | (with_reducible exact clocheref03_IsShop.mono _ _)
      | (with_reducible exact clocheref03_Size.mono _ _)
      | (with_reducible exact visits_IsMatching.mono _ _ _)
      | (with_reducible exact visits_Largest.mono _ _)
      | (with_reducible exact LeO.refl _)
      | (with_reducible exact LeO.none _)
      | (with_reducible refine LeO.ite ?_ ?_)
      | (with_reducible refine LeO.bind ?_ (fun _ => ?_))
      | exact ih0 _ _ _ _
      | exact ih1 _ _ _ _ _ _ _
      | exact ih2 _ _ _ _ _ _ _ _
      | exact ih3 _ _ _ _ _ _
      | exact ih4 _ _ _ _ _ _
      | exact ih5 _ _ _ _ _ _ _
      | exact clochelaw03_alive.mono _
      | exact clocheref03_IsShop.mono _ _
      | exact clocheref03_Size.mono _ _
      | exact visits_IsMatching.mono _ _ _
      | exact visits_Largest.mono _ _
      | exact LeO.none _
      | refine LeO.ite ?_ ?_
      | refine LeO.bind ?_ (fun _ => ?_)
    · intro y0 y1 y2 y3 y4 y5
      unfold clochelaw03_VisitsBounds.j3
      repeat' first
      | (with_reducible exact ih0 _ _ _ _)
      | (with_reducible exact ih1 _ _ _ _ _ _ _)
      | (with_reducible exact ih2 _ _ _ _ _ _ _ _)
      | (with_reducible exact ih3 _ _ _ _ _ _)
      | (with_reducible exact ih4 _ _ _ _ _ _)
      | (with_reducible exact ih5 _ _ _ _ _ _ _)
      | (with_reducible exact clochelaw03_alive.mono _)
      | (with_reducible exact clocheref03_IsShop.mono _ _)
      | (with_reducible exact clocheref03_Size.mono _ _)
      | (with_reducible exact visits_IsMatching.mono _ _ _)
      | (with_reducible exact visits_Largest.mono _ _)
      | (with_reducible exact LeO.refl _)
      | (with_reducible exact LeO.none _)
      | (with_reducible refine LeO.ite ?_ ?_)
      | (with_reducible refine LeO.bind ?_ (fun _ => ?_))
      | exact ih0 _ _ _ _
      | exact ih1 _ _ _ _ _ _ _
      | exact ih2 _ _ _ _ _ _ _ _
      | exact ih3 _ _ _ _ _ _
      | exact ih4 _ _ _ _ _ _
      | exact ih5 _ _ _ _ _ _ _
      | exact clochelaw03_alive.mono _
      | exact clocheref03_IsShop.mono _ _
      | exact clocheref03_Size.mono _ _
      | exact visits_IsMatching.mono _ _ _
      | exact visits_Largest.mono _ _
      | exact LeO.none _
      | refine LeO.ite ?_ ?_
      | refine LeO.bind ?_ (fun _ => ?_)
    · intro y0 y1 y2 y3 y4 y5
      unfold clochelaw03_VisitsBounds.l1
      repeat' first
      | (with_reducible exact ih0 _ _ _ _)
      | (with_reducible exact ih1 _ _ _ _ _ _ _)
      | (with_reducible exact ih2 _ _ _ _ _ _ _ _)
      | (with_reducible exact ih3 _ _ _ _ _ _)
      | (with_reducible exact ih4 _ _ _ _ _ _)
      | (with_reducible exact ih5 _ _ _ _ _ _ _)
      | (with_reducible exact clochelaw03_alive.mono _)
      | (with_reducible exact clocheref03_IsShop.mono _ _)
      | (with_reducible exact clocheref03_Size.mono _ _)
      | (with_reducible exact visits_IsMatching.mono _ _ _)
      | (with_reducible exact visits_Largest.mono _ _)
      | (with_reducible exact LeO.refl _)
      | (with_reducible exact LeO.none _)
      | (with_reducible refine LeO.ite ?_ ?_)
      | (with_reducible refine LeO.bind ?_ (fun _ => ?_))
      | exact ih0 _ _ _ _
      | exact ih1 _ _ _ _ _ _ _
      | exact ih2 _ _ _ _ _ _ _ _
      | exact ih3 _ _ _ _ _ _
      | exact ih4 _ _ _ _ _ _
      | exact ih5 _ _ _ _ _ _ _
      | exact clochelaw03_alive.mono _
      | exact clocheref03_IsShop.mono _ _
      | exact clocheref03_Size.mono _ _
      | exact visits_IsMatching.mono _ _ _
      | exact visits_Largest.mono _ _
      | exact LeO.none _
      | refine LeO.ite ?_ ?_
      | refine LeO.bind ?_ (fun _ => ?_)
    · intro y0 y1 y2 y3 y4 y5 y6
      unfold clochelaw03_VisitsBounds.l2
      repeat' first
      | (with_reducible exact ih0 _ _ _ _)
      | (with_reducible exact ih1 _ _ _ _ _ _ _)
      | (with_reducible exact ih2 _ _ _ _ _ _ _ _)
      | (with_reducible exact ih3 _ _ _ _ _ _)
      | (with_reducible exact ih4 _ _ _ _ _ _)
      | (with_reducible exact ih5 _ _ _ _ _ _ _)
      | (with_reducible exact clochelaw03_alive.mono _)
      | (with_reducible exact clocheref03_IsShop.mono _ _)
      | (with_reducible exact clocheref03_Size.mono _ _)
      | (with_reducible exact visits_IsMatching.mono _ _ _)
      | (with_reducible exact visits_Largest.mono _ _)
      | (with_reducible exact LeO.refl _)
      | (with_reducible exact LeO.none _)
      | (with_reducible refine LeO.ite ?_ ?_)
      | (with_reducible refine LeO.bind ?_ (fun _ => ?_))
      | exact ih0 _ _ _ _
      | exact ih1 _ _ _ _ _ _ _
      | exact ih2 _ _ _ _ _ _ _ _
      | exact ih3 _ _ _ _ _ _
      | exact ih4 _ _ _ _ _ _
      | exact ih5 _ _ _ _ _ _ _
      | exact clochelaw03_alive.mono _
      | exact clocheref03_IsShop.mono _ _
      | exact clocheref03_Size.mono _ _
      | exact visits_IsMatching.mono _ _ _
      | exact visits_Largest.mono _ _
      | exact LeO.none _
      | refine LeO.ite ?_ ?_
      | refine LeO.bind ?_ (fun _ => ?_)
theorem clochelaw03_VisitsBounds.mono : ∀ a0 a1 a2 k, LeO (clochelaw03_VisitsBounds.f k a0 a1 a2) (clochelaw03_VisitsBounds.f (k + 1) a0 a1 a2) := by
  intro a0 a1 a2 k
  obtain ⟨ih0, ih1, ih2, ih3, ih4, ih5⟩ := clochelaw03_VisitsBounds.mono_l k
  unfold clochelaw03_VisitsBounds.f
  repeat' first
      | (with_reducible exact ih0 _ _ _ _)
      | (with_reducible exact ih1 _ _ _ _ _ _ _)
      | (with_reducible exact ih2 _ _ _ _ _ _ _ _)
      | (with_reducible exact ih3 _ _ _ _ _ _)
      | (with_reducible exact ih4 _ _ _ _ _ _)
      | (with_reducible exact ih5 _ _ _ _ _ _ _)
      | (with_reducible exact clochelaw03_alive.mono _)
      | (with_reducible exact clocheref03_IsShop.mono _ _)
      | (with_reducible exact clocheref03_Size.mono _ _)
      | (with_reducible exact visits_IsMatching.mono _ _ _)
      | (with_reducible exact visits_Largest.mono _ _)
      | (with_reducible exact LeO.refl _)
      | (with_reducible exact LeO.none _)
      | (with_reducible refine LeO.ite ?_ ?_)
      | (with_reducible refine LeO.bind ?_ (fun _ => ?_))
      | exact ih0 _ _ _ _
      | exact ih1 _ _ _ _ _ _ _
      | exact ih2 _ _ _ _ _ _ _ _
      | exact ih3 _ _ _ _ _ _
      | exact ih4 _ _ _ _ _ _
      | exact ih5 _ _ _ _ _ _ _
      | exact clochelaw03_alive.mono _
      | exact clocheref03_IsShop.mono _ _
      | exact clocheref03_Size.mono _ _
      | exact visits_IsMatching.mono _ _ _
      | exact visits_Largest.mono _ _
      | exact LeO.none _
      | refine LeO.ite ?_ ?_
      | refine LeO.bind ?_ (fun _ => ?_)
set_option maxHeartbeats 8000000 in
set_option maxRecDepth 100000 in
theorem clochelaw03_VisitsBounds.calls (k : Nat) (A0 : Option Addr) (c0 : Nat) (l0 : List Int) (a1 : Int) (A2 : Option Addr) (c2 : Nat) (l2 : List (S43)) (r : Bool) (w : World) (hr0 : Kd.C (Kd.int .i64) w A0 l0.length l0) (hc0 : l0.length ≤ c0) (hr2 : Kd.C k43 w A2 l2.length l2) (hc2 : l2.length ≤ c2) (h : clochelaw03_VisitsBounds.f k l0 a1 l2 = some r) (hT : Tab w) :
    Calls Tryd.prog 7 #[.slice A0 l0.length c0, .int .u16 a1, .slice A2 l2.length c2] w fun e w' => e = .returned (.bool r) ∧ Below w.heap.size w w' := by
  have HR0 := Aside0.mk hr0
  have HC0 := Aside0.mk hc0
  clear hr0 hc0
  have HR2 := Aside0.mk hr2
  have HC2 := Aside0.mk hc2
  clear hr2 hc2
  have HT0 := Aside0.mk hT
  clear hT
  have HB := Aside0.mk (Below.refl w.heap.size w)
  have H : ((clochelaw03_few.f l0 l2).bind fun t294 => (if t294 = true then ((clocheref03_IsShop.f k l0).bind fun t295 => (clochelaw03_VisitsBounds.j0 k l0 a1 l2 (!t295))) else (clochelaw03_VisitsBounds.j0 k l0 a1 l2 true))) = some r := h
  clear h
  have HC4 := Aside0.mk H
  clear H
  go_enter Tryd.func7, Tryd.ntmps7
  go_upto_region 1 with (fail)
  repeat (go_quiet (fail); go_upto_region 1 with (fail))
  go_cut [27] (fun v27 wc => ∃ (kq : Nat) (x27_3 : Bool), v27 = .bool x27_3 ∧ Aside0 (clochelaw03_VisitsBounds.j0 kq l0 a1 l2 x27_3 = some r) ∧ Aside0 (kq ≤ k) ∧ Aside0 (Below w.heap.size w wc))
  case first =>
    have H := HC4.out
    clear HC4
    replace H := Option.bind_eq_some_iff.mp H
    obtain ⟨t294, A50, H⟩ := H
    replace H : (if t294 = true then ((clocheref03_IsShop.f k l0).bind fun t295 => (clochelaw03_VisitsBounds.j0 k l0 a1 l2 (!t295))) else (clochelaw03_VisitsBounds.j0 k l0 a1 l2 true)) = some r := H
    have A5 := Aside0.mk A50
    clear A50
    by_cases c6 : t294 = true
    · subst c6
      have H1 : ((clocheref03_IsShop.f k l0).bind fun t295 => (clochelaw03_VisitsBounds.j0 k l0 a1 l2 (!t295))) = some r := by rw [if_pos rfl] at H; exact H
      clear H
      have H := H1
      clear H1
      replace H := Option.bind_eq_some_iff.mp H
      obtain ⟨t295, A70, H⟩ := H
      replace H : (clochelaw03_VisitsBounds.j0 k l0 a1 l2 (!t295)) = some r := H
      have A7 := Aside0.mk A70
      clear A70
      have H' := Aside0.mk H
      clear H
      go_wp2_with (first | (go_at_call 15; (with_reducible refine (clochelaw03_few.calls _ _ l0 _ _ l2 true _ ?side1 ?side2 ?side3 ?side4 A5.out).mono ?_); (case side1 => repeat (first | exact (Kd.C_below HR0.out HB.out) | (with_reducible refine Kd.C_alloc ?_ _) | (with_reducible refine Kd.C_drewN ?_ _) | (with_reducible refine Kd.C_drew ?_))); (case side2 => exact HC0.out); (case side3 => repeat (first | exact (Kd.C_below HR2.out HB.out) | (with_reducible refine Kd.C_alloc ?_ _) | (with_reducible refine Kd.C_drewN ?_ _) | (with_reducible refine Kd.C_drew ?_))); (case side4 => exact HC2.out); rintro e w' ⟨rfl, ⟨nd, rfl⟩⟩; (try first | exact ⟨rfl, _, World.drewN_drewN _ _ _⟩ | exact ⟨rfl, _, Eq.trans (World.drewN_drewN _ _ _) (congrArg (World.drewN _) (Nat.add_assoc _ _ _))⟩)) | (go_at_call 21; (with_reducible refine (clocheref03_IsShop.calls k _ _ l0 t295 _ ?side1 ?side2 A7.out).mono ?_); (case side1 => repeat (first | exact (Kd.C_below HR0.out (by repeat (first | (with_reducible first | exact HB.out | apply below_alloc | apply pw_below_drewN | apply below_drew1) | exact HB.out))) | (with_reducible refine Kd.C_alloc ?_ _) | (with_reducible refine Kd.C_drewN ?_ _) | (with_reducible refine Kd.C_drew ?_))); (case side2 => exact HC0.out); rintro e w' ⟨rfl, ⟨nd, rfl⟩⟩; (try first | exact ⟨rfl, _, World.drewN_drewN _ _ _⟩ | exact ⟨rfl, _, Eq.trans (World.drewN_drewN _ _ _) (congrArg (World.drewN _) (Nat.add_assoc _ _ _))⟩)))
      repeat (go_quiet (first | (go_at_call 15; (with_reducible refine (clochelaw03_few.calls _ _ l0 _ _ l2 true _ ?side1 ?side2 ?side3 ?side4 A5.out).mono ?_); (case side1 => repeat (first | exact (Kd.C_below HR0.out HB.out) | (with_reducible refine Kd.C_alloc ?_ _) | (with_reducible refine Kd.C_drewN ?_ _) | (with_reducible refine Kd.C_drew ?_))); (case side2 => exact HC0.out); (case side3 => repeat (first | exact (Kd.C_below HR2.out HB.out) | (with_reducible refine Kd.C_alloc ?_ _) | (with_reducible refine Kd.C_drewN ?_ _) | (with_reducible refine Kd.C_drew ?_))); (case side4 => exact HC2.out); rintro e w' ⟨rfl, ⟨nd, rfl⟩⟩; (try first | exact ⟨rfl, _, World.drewN_drewN _ _ _⟩ | exact ⟨rfl, _, Eq.trans (World.drewN_drewN _ _ _) (congrArg (World.drewN _) (Nat.add_assoc _ _ _))⟩)) | (go_at_call 21; (with_reducible refine (clocheref03_IsShop.calls k _ _ l0 t295 _ ?side1 ?side2 A7.out).mono ?_); (case side1 => repeat (first | exact (Kd.C_below HR0.out (by repeat (first | (with_reducible first | exact HB.out | apply below_alloc | apply pw_below_drewN | apply below_drew1) | exact HB.out))) | (with_reducible refine Kd.C_alloc ?_ _) | (with_reducible refine Kd.C_drewN ?_ _) | (with_reducible refine Kd.C_drew ?_))); (case side2 => exact HC0.out); rintro e w' ⟨rfl, ⟨nd, rfl⟩⟩; (try first | exact ⟨rfl, _, World.drewN_drewN _ _ _⟩ | exact ⟨rfl, _, Eq.trans (World.drewN_drewN _ _ _) (congrArg (World.drewN _) (Nat.add_assoc _ _ _))⟩))); try go_wp2_with (first | (go_at_call 15; (with_reducible refine (clochelaw03_few.calls _ _ l0 _ _ l2 true _ ?side1 ?side2 ?side3 ?side4 A5.out).mono ?_); (case side1 => repeat (first | exact (Kd.C_below HR0.out HB.out) | (with_reducible refine Kd.C_alloc ?_ _) | (with_reducible refine Kd.C_drewN ?_ _) | (with_reducible refine Kd.C_drew ?_))); (case side2 => exact HC0.out); (case side3 => repeat (first | exact (Kd.C_below HR2.out HB.out) | (with_reducible refine Kd.C_alloc ?_ _) | (with_reducible refine Kd.C_drewN ?_ _) | (with_reducible refine Kd.C_drew ?_))); (case side4 => exact HC2.out); rintro e w' ⟨rfl, ⟨nd, rfl⟩⟩; (try first | exact ⟨rfl, _, World.drewN_drewN _ _ _⟩ | exact ⟨rfl, _, Eq.trans (World.drewN_drewN _ _ _) (congrArg (World.drewN _) (Nat.add_assoc _ _ _))⟩)) | (go_at_call 21; (with_reducible refine (clocheref03_IsShop.calls k _ _ l0 t295 _ ?side1 ?side2 A7.out).mono ?_); (case side1 => repeat (first | exact (Kd.C_below HR0.out (by repeat (first | (with_reducible first | exact HB.out | apply below_alloc | apply pw_below_drewN | apply below_drew1) | exact HB.out))) | (with_reducible refine Kd.C_alloc ?_ _) | (with_reducible refine Kd.C_drewN ?_ _) | (with_reducible refine Kd.C_drew ?_))); (case side2 => exact HC0.out); rintro e w' ⟨rfl, ⟨nd, rfl⟩⟩; (try first | exact ⟨rfl, _, World.drewN_drewN _ _ _⟩ | exact ⟨rfl, _, Eq.trans (World.drewN_drewN _ _ _) (congrArg (World.drewN _) (Nat.add_assoc _ _ _))⟩))))
      go_meet
      case rel => exact ⟨_, (!t295), (by first | rfl | (simp; done) | (simp [*]; done)), H', ⟨by first | omega | exact Nat.le_refl _⟩, ⟨by repeat (first | (with_reducible first | exact HB.out | apply below_alloc | apply pw_below_drewN | apply below_drew1) | exact HB.out)⟩⟩
    · replace c6 := Bool.eq_false_iff.mpr c6
      subst c6
      have H1 : (clochelaw03_VisitsBounds.j0 k l0 a1 l2 true) = some r := by rw [if_neg (show ¬ (false = true) by decide)] at H; exact H
      clear H
      have H := H1
      clear H1
      have H' := Aside0.mk H
      clear H
      go_wp2_with (first | (go_at_call 15; (with_reducible refine (clochelaw03_few.calls _ _ l0 _ _ l2 false _ ?side1 ?side2 ?side3 ?side4 A5.out).mono ?_); (case side1 => repeat (first | exact (Kd.C_below HR0.out HB.out) | (with_reducible refine Kd.C_alloc ?_ _) | (with_reducible refine Kd.C_drewN ?_ _) | (with_reducible refine Kd.C_drew ?_))); (case side2 => exact HC0.out); (case side3 => repeat (first | exact (Kd.C_below HR2.out HB.out) | (with_reducible refine Kd.C_alloc ?_ _) | (with_reducible refine Kd.C_drewN ?_ _) | (with_reducible refine Kd.C_drew ?_))); (case side4 => exact HC2.out); rintro e w' ⟨rfl, ⟨nd, rfl⟩⟩; (try first | exact ⟨rfl, _, World.drewN_drewN _ _ _⟩ | exact ⟨rfl, _, Eq.trans (World.drewN_drewN _ _ _) (congrArg (World.drewN _) (Nat.add_assoc _ _ _))⟩)))
      repeat (go_quiet (first | (go_at_call 15; (with_reducible refine (clochelaw03_few.calls _ _ l0 _ _ l2 false _ ?side1 ?side2 ?side3 ?side4 A5.out).mono ?_); (case side1 => repeat (first | exact (Kd.C_below HR0.out HB.out) | (with_reducible refine Kd.C_alloc ?_ _) | (with_reducible refine Kd.C_drewN ?_ _) | (with_reducible refine Kd.C_drew ?_))); (case side2 => exact HC0.out); (case side3 => repeat (first | exact (Kd.C_below HR2.out HB.out) | (with_reducible refine Kd.C_alloc ?_ _) | (with_reducible refine Kd.C_drewN ?_ _) | (with_reducible refine Kd.C_drew ?_))); (case side4 => exact HC2.out); rintro e w' ⟨rfl, ⟨nd, rfl⟩⟩; (try first | exact ⟨rfl, _, World.drewN_drewN _ _ _⟩ | exact ⟨rfl, _, Eq.trans (World.drewN_drewN _ _ _) (congrArg (World.drewN _) (Nat.add_assoc _ _ _))⟩))); try go_wp2_with (first | (go_at_call 15; (with_reducible refine (clochelaw03_few.calls _ _ l0 _ _ l2 false _ ?side1 ?side2 ?side3 ?side4 A5.out).mono ?_); (case side1 => repeat (first | exact (Kd.C_below HR0.out HB.out) | (with_reducible refine Kd.C_alloc ?_ _) | (with_reducible refine Kd.C_drewN ?_ _) | (with_reducible refine Kd.C_drew ?_))); (case side2 => exact HC0.out); (case side3 => repeat (first | exact (Kd.C_below HR2.out HB.out) | (with_reducible refine Kd.C_alloc ?_ _) | (with_reducible refine Kd.C_drewN ?_ _) | (with_reducible refine Kd.C_drew ?_))); (case side4 => exact HC2.out); rintro e w' ⟨rfl, ⟨nd, rfl⟩⟩; (try first | exact ⟨rfl, _, World.drewN_drewN _ _ _⟩ | exact ⟨rfl, _, Eq.trans (World.drewN_drewN _ _ _) (congrArg (World.drewN _) (Nat.add_assoc _ _ _))⟩))))
      go_meet
      case rel => exact ⟨_, (true), (by first | rfl | (simp; done) | (simp [*]; done)), H', ⟨by first | omega | exact Nat.le_refl _⟩, ⟨by repeat (first | (with_reducible first | exact HB.out | apply below_alloc | apply pw_below_drewN | apply below_drew1) | exact HB.out)⟩⟩
  case rest =>
    clear HC4
    try clear c2
    try clear p2
    try clear c6
    try clear c7
    obtain ⟨kq, x27_3, rfl, HA, HJ3, HB⟩ := hcut
    cases kq with
    | zero => exact absurd HA.out (by simp [clochelaw03_VisitsBounds.j0])
    | succ kj3 =>
      have H := HA.out
      clear HA
      simp only [clochelaw03_VisitsBounds.j0] at H
      by_cases c8 : x27_3 = true
      · subst c8
        have H1 : ((clochelaw03_alive.f kj3).bind fun t296 => (some t296)) = some r := by rw [if_pos rfl] at H; exact H
        clear H
        have H := H1
        clear H1
        replace H := Option.bind_eq_some_iff.mp H
        obtain ⟨t296, A90, H⟩ := H
        replace H : (some t296) = some r := H
        have A9 := Aside0.mk A90
        clear A90
        obtain rfl := Option.some.inj H
        go_wp2_with (first | (go_at_call 16; (with_reducible refine (clochelaw03_alive.calls kj3  t296 _ A9.out (by repeat (first | exact HT0.out | exact tabB HT0.out HB.out | (refine tab_alloc ?_ _) | (refine tab_drewN ?_ _) | (refine tab_drew ?_)))).mono ?_); rintro e w10 ⟨rfl, hb⟩; have n0_ := Aside0.mk (below_step (by repeat (first | (with_reducible first | exact HB.out | apply below_alloc | apply pw_below_drewN | apply below_drew1) | exact HB.out)) hb); clear HB; have HB := n0_; clear n0_; (try clear hb); (try clear hb2); (try clear hk); (try clear hi)))
        repeat (go_quiet (first | (go_at_call 16; (with_reducible refine (clochelaw03_alive.calls kj3  t296 _ A9.out (by repeat (first | exact HT0.out | exact tabB HT0.out HB.out | (refine tab_alloc ?_ _) | (refine tab_drewN ?_ _) | (refine tab_drew ?_)))).mono ?_); rintro e w10 ⟨rfl, hb⟩; have n0_ := Aside0.mk (below_step (by repeat (first | (with_reducible first | exact HB.out | apply below_alloc | apply pw_below_drewN | apply below_drew1) | exact HB.out)) hb); clear HB; have HB := n0_; clear n0_; (try clear hb); (try clear hb2); (try clear hk); (try clear hi))); try go_wp2_with (first | (go_at_call 16; (with_reducible refine (clochelaw03_alive.calls kj3  t296 _ A9.out (by repeat (first | exact HT0.out | exact tabB HT0.out HB.out | (refine tab_alloc ?_ _) | (refine tab_drewN ?_ _) | (refine tab_drew ?_)))).mono ?_); rintro e w10 ⟨rfl, hb⟩; have n0_ := Aside0.mk (below_step (by repeat (first | (with_reducible first | exact HB.out | apply below_alloc | apply pw_below_drewN | apply below_drew1) | exact HB.out)) hb); clear HB; have HB := n0_; clear n0_; (try clear hb); (try clear hb2); (try clear hk); (try clear hi))))
        go_ret
        exact ⟨by first | rfl | (simp [errW_none, errW_some] <;> rfl) | (simp [*, errW_none, errW_some] <;> rfl), by repeat (first | (with_reducible first | exact HB.out | apply below_alloc | apply pw_below_drewN | apply below_drew1) | exact HB.out)⟩
      · replace c8 := Bool.eq_false_iff.mpr c8
        subst c8
        have H1 : ((visits_Largest.f kj3 l0).bind fun bt297 => ((visits_IsMatching.f kj3 l0 l2).bind fun bt301 => (if bt297.2 = 0 then (clochelaw03_VisitsBounds.j1 kj3 l0 a1 l2 (l0.length : Int) bt297.1 bt301.1 (bt301.2 != 0)) else (none)))) = some r := by rw [if_neg (show ¬ (false = true) by decide)] at H; exact H
        clear H
        have H := H1
        clear H1
        replace H := Option.bind_eq_some_iff.mp H
        obtain ⟨⟨t297, t298⟩, A110, H⟩ := H
        replace H : ((visits_IsMatching.f kj3 l0 l2).bind fun bt301 => (if t298 = 0 then (clochelaw03_VisitsBounds.j1 kj3 l0 a1 l2 (l0.length : Int) t297 bt301.1 (bt301.2 != 0)) else (none))) = some r := H
        have A11 := Aside0.mk A110
        clear A110
        replace H := Option.bind_eq_some_iff.mp H
        obtain ⟨⟨t301, t302⟩, A120, H⟩ := H
        replace H : (if t298 = 0 then (clochelaw03_VisitsBounds.j1 kj3 l0 a1 l2 (l0.length : Int) t297 t301 (t302 != 0)) else (none)) = some r := H
        have A12 := Aside0.mk A120
        clear A120
        have HC13 := Aside0.mk H
        clear H
        go_upto_region 6 with (first | (go_at_call 22; (with_reducible refine (visits_Largest.calls kj3 _ _ l0 t297 t298 _ ?side1 ?side2 A11.out (by repeat (first | exact HT0.out | exact tabB HT0.out HB.out | (refine tab_alloc ?_ _) | (refine tab_drewN ?_ _) | (refine tab_drew ?_)))).mono ?_); (case side1 => repeat (first | exact (Kd.C_below HR0.out HB.out) | (with_reducible refine Kd.C_alloc ?_ _) | (with_reducible refine Kd.C_drewN ?_ _) | (with_reducible refine Kd.C_drew ?_))); (case side2 => exact HC0.out); rintro e w14 ⟨v299, rfl, ho0, hb⟩; have n0_ := Aside0.mk (Kd.R_lower ho0 (below_size (by repeat (first | (with_reducible first | exact HB.out | apply below_alloc | apply pw_below_drewN | apply below_drew1) | exact HB.out)))); have n1_ := Aside0.mk (below_step (by repeat (first | (with_reducible first | exact HB.out | apply below_alloc | apply pw_below_drewN | apply below_drew1) | exact HB.out)) hb); clear HB; have HO300 := n0_; have HB := n1_; clear n0_ n1_; (try clear hb); (try clear hb2); (try clear hk); (try clear hi); (try clear ho0)) | (go_at_call 28; (with_reducible refine (visits_IsMatching.calls kj3 _ _ l0 _ _ l2 t301 t302 _ ?side1 ?side2 ?side3 ?side4 A12.out).mono ?_); (case side1 => repeat (first | exact (Kd.C_below HR0.out HB.out) | (with_reducible refine Kd.C_alloc ?_ _) | (with_reducible refine Kd.C_drewN ?_ _) | (with_reducible refine Kd.C_drew ?_))); (case side2 => exact HC0.out); (case side3 => repeat (first | exact (Kd.C_below HR2.out HB.out) | (with_reducible refine Kd.C_alloc ?_ _) | (with_reducible refine Kd.C_drewN ?_ _) | (with_reducible refine Kd.C_drew ?_))); (case side4 => exact HC2.out); rintro e w15 ⟨rfl, hb⟩; have n0_ := Aside0.mk (Kd.R_below (by (with_reducible repeat (first | apply Kd.R_alloc | apply Kd.R_drewN | apply Kd.R_drew)); exact HO300.out) hb); have n1_ := Aside0.mk (below_step (by repeat (first | (with_reducible first | exact HB.out | apply below_alloc | apply pw_below_drewN | apply below_drew1) | exact HB.out)) hb); clear HO300; clear HB; have HO300 := n0_; have HB := n1_; clear n0_ n1_; (try clear hb); (try clear hb2); (try clear hk); (try clear hi)))
        repeat (go_quiet (first | (go_at_call 22; (with_reducible refine (visits_Largest.calls kj3 _ _ l0 t297 t298 _ ?side1 ?side2 A11.out (by repeat (first | exact HT0.out | exact tabB HT0.out HB.out | (refine tab_alloc ?_ _) | (refine tab_drewN ?_ _) | (refine tab_drew ?_)))).mono ?_); (case side1 => repeat (first | exact (Kd.C_below HR0.out HB.out) | (with_reducible refine Kd.C_alloc ?_ _) | (with_reducible refine Kd.C_drewN ?_ _) | (with_reducible refine Kd.C_drew ?_))); (case side2 => exact HC0.out); rintro e w14 ⟨v299, rfl, ho0, hb⟩; have n0_ := Aside0.mk (Kd.R_lower ho0 (below_size (by repeat (first | (with_reducible first | exact HB.out | apply below_alloc | apply pw_below_drewN | apply below_drew1) | exact HB.out)))); have n1_ := Aside0.mk (below_step (by repeat (first | (with_reducible first | exact HB.out | apply below_alloc | apply pw_below_drewN | apply below_drew1) | exact HB.out)) hb); clear HB; have HO300 := n0_; have HB := n1_; clear n0_ n1_; (try clear hb); (try clear hb2); (try clear hk); (try clear hi); (try clear ho0)) | (go_at_call 28; (with_reducible refine (visits_IsMatching.calls kj3 _ _ l0 _ _ l2 t301 t302 _ ?side1 ?side2 ?side3 ?side4 A12.out).mono ?_); (case side1 => repeat (first | exact (Kd.C_below HR0.out HB.out) | (with_reducible refine Kd.C_alloc ?_ _) | (with_reducible refine Kd.C_drewN ?_ _) | (with_reducible refine Kd.C_drew ?_))); (case side2 => exact HC0.out); (case side3 => repeat (first | exact (Kd.C_below HR2.out HB.out) | (with_reducible refine Kd.C_alloc ?_ _) | (with_reducible refine Kd.C_drewN ?_ _) | (with_reducible refine Kd.C_drew ?_))); (case side4 => exact HC2.out); rintro e w15 ⟨rfl, hb⟩; have n0_ := Aside0.mk (Kd.R_below (by (with_reducible repeat (first | apply Kd.R_alloc | apply Kd.R_drewN | apply Kd.R_drew)); exact HO300.out) hb); have n1_ := Aside0.mk (below_step (by repeat (first | (with_reducible first | exact HB.out | apply below_alloc | apply pw_below_drewN | apply below_drew1) | exact HB.out)) hb); clear HO300; clear HB; have HO300 := n0_; have HB := n1_; clear n0_ n1_; (try clear hb); (try clear hb2); (try clear hk); (try clear hi))); go_upto_region 6 with (first | (go_at_call 22; (with_reducible refine (visits_Largest.calls kj3 _ _ l0 t297 t298 _ ?side1 ?side2 A11.out (by repeat (first | exact HT0.out | exact tabB HT0.out HB.out | (refine tab_alloc ?_ _) | (refine tab_drewN ?_ _) | (refine tab_drew ?_)))).mono ?_); (case side1 => repeat (first | exact (Kd.C_below HR0.out HB.out) | (with_reducible refine Kd.C_alloc ?_ _) | (with_reducible refine Kd.C_drewN ?_ _) | (with_reducible refine Kd.C_drew ?_))); (case side2 => exact HC0.out); rintro e w14 ⟨v299, rfl, ho0, hb⟩; have n0_ := Aside0.mk (Kd.R_lower ho0 (below_size (by repeat (first | (with_reducible first | exact HB.out | apply below_alloc | apply pw_below_drewN | apply below_drew1) | exact HB.out)))); have n1_ := Aside0.mk (below_step (by repeat (first | (with_reducible first | exact HB.out | apply below_alloc | apply pw_below_drewN | apply below_drew1) | exact HB.out)) hb); clear HB; have HO300 := n0_; have HB := n1_; clear n0_ n1_; (try clear hb); (try clear hb2); (try clear hk); (try clear hi); (try clear ho0)) | (go_at_call 28; (with_reducible refine (visits_IsMatching.calls kj3 _ _ l0 _ _ l2 t301 t302 _ ?side1 ?side2 ?side3 ?side4 A12.out).mono ?_); (case side1 => repeat (first | exact (Kd.C_below HR0.out HB.out) | (with_reducible refine Kd.C_alloc ?_ _) | (with_reducible refine Kd.C_drewN ?_ _) | (with_reducible refine Kd.C_drew ?_))); (case side2 => exact HC0.out); (case side3 => repeat (first | exact (Kd.C_below HR2.out HB.out) | (with_reducible refine Kd.C_alloc ?_ _) | (with_reducible refine Kd.C_drewN ?_ _) | (with_reducible refine Kd.C_drew ?_))); (case side4 => exact HC2.out); rintro e w15 ⟨rfl, hb⟩; have n0_ := Aside0.mk (Kd.R_below (by (with_reducible repeat (first | apply Kd.R_alloc | apply Kd.R_drewN | apply Kd.R_drew)); exact HO300.out) hb); have n1_ := Aside0.mk (below_step (by repeat (first | (with_reducible first | exact HB.out | apply below_alloc | apply pw_below_drewN | apply below_drew1) | exact HB.out)) hb); clear HO300; clear HB; have HO300 := n0_; have HB := n1_; clear n0_ n1_; (try clear hb); (try clear hb2); (try clear hk); (try clear hi))))
        (try simp only [Act.put, List.setIfInBounds_toArray, List.set_cons_zero, List.set_cons_succ])
        go_cut [47] (fun v47 wc => ∃ (kq : Nat) (x47_12 : Bool), v47 = .bool x47_12 ∧ Aside0 (clochelaw03_VisitsBounds.j1 kq l0 a1 l2 (l0.length : Int) t297 t301 x47_12 = some r) ∧ Aside0 (kq ≤ kj3) ∧ Aside0 (Kd.R k43 43 wc w.heap.size (fun _ => True) v299 t297) ∧ Aside0 (Below w.heap.size w wc))
        case first =>
          have H := HC13.out
          clear HC13
          by_cases c16 : t298 = 0
          · rw [if_pos c16] at H
            have c16b0 : (t298 == 0) = true := beq_iff_eq.mpr c16
            have c16b1 : (t298 != 0) = false := bne_eq_false_iff_eq.mpr c16
            clear c16
            (first | rw [c16b0] | (simp only [i64_w, i32_w]; rw [c16b0]) | skip)
            have H' := Aside0.mk H
            clear H
            go_wp2
            repeat (go_quiet (fail); try go_wp2)
            go_meet
            case rel => exact ⟨_, ((t302 != 0)), (by first | rfl | (simp; done) | (simp [*]; done)), H', ⟨by have := HJ3.out; first | omega | exact Nat.le_refl _⟩, ⟨by (with_reducible repeat (first | apply Kd.R_alloc | apply Kd.R_drewN | apply Kd.R_drew)); exact HO300.out⟩, ⟨by repeat (first | (with_reducible first | exact HB.out | apply below_alloc | apply pw_below_drewN | apply below_drew1) | exact HB.out)⟩⟩
          · rw [if_neg c16] at H
            exact absurd H (by simp)
        case rest =>
          clear HC13
          try clear c1
          try clear c2
          try clear p2
          try clear c6
          try clear c7
          try clear c8
          try clear c16
          try clear c16b0
          try clear c16b1
          try clear p2
          obtain ⟨kq, x47_12, rfl, HA, HJ12, HO_8, HB⟩ := hcut
          cases kq with
          | zero => exact absurd HA.out (by simp [clochelaw03_VisitsBounds.j1])
          | succ kj12 =>
            have H := HA.out
            clear HA
            simp only [clochelaw03_VisitsBounds.j1] at H
            by_cases c17 : x47_12 = true
            · subst c17
              have H1 : (none) = some r := by rw [if_pos rfl] at H; exact H
              clear H
              have H := H1
              clear H1
              exact absurd H (by simp)
            · replace c17 := Bool.eq_false_iff.mpr c17
              subst c17
              have H1 : (if 0 ≤ (l0.length : Int) then (if (shl .i64 1 (l0.length : Int)) = 0 then (none) else (clochelaw03_VisitsBounds.l0 kj12 l0 l2 (l0.length : Int) t297 t301 (Int.tmod (wrap64 (a1)) (shl .i64 1 (l0.length : Int))) true 0)) else (none)) = some r := by rw [if_neg (show ¬ (false = true) by decide)] at H; exact H
              clear H
              have H := H1
              clear H1
              by_cases c18 : 0 ≤ (l0.length : Int)
              · rw [if_pos c18] at H
                have c18b0 := eq_true c18
                have c18b1 : decide (0 ≤ (l0.length : Int)) = true := decide_eq_true c18
                clear c18
                obtain ⟨ji19, hji19⟩ : ∃ j_ : Int, (shl .i64 1 (l0.length : Int)) = j_ := ⟨_, rfl⟩
                replace H : (if (ji19) = 0 then (none) else (clochelaw03_VisitsBounds.l0 kj12 l0 l2 (l0.length : Int) t297 t301 (Int.tmod (wrap64 (a1)) (ji19)) true 0)) = some r := by first | (rw [hji19] at H; exact H) | (simp only [hji19] at H ⊢; exact H)
                have hji19_ : (IntKind.i64.wrap (1 * 2 ^ min (l0.length : Int).toNat 64)) = ji19 := hji19
                have hji19z : (l0.length : Int) ≤ 64 → (IntKind.i64.wrap (1 * 2 ^ (l0.length : Int).toNat)) = ji19 := shl_small hji19
                have hji19p : (IntKind.i64.wrap (1 * 2 ^ min l0.length 64)) = ji19 := hji19_
                have hji19q : (l0.length : Int) ≤ 64 → (IntKind.i64.wrap (1 * 2 ^ l0.length)) = ji19 := hji19z
                have hji19r : (IntKind.i64.wrap (2 ^ min l0.length 64)) = ji19 := by have h_ := hji19p; rw [Int.one_mul] at h_; exact h_
                have hji19s : (l0.length : Int) ≤ 64 → (IntKind.i64.wrap (2 ^ l0.length)) = ji19 := fun hle_ => by have h_ := hji19q hle_; rw [Int.one_mul] at h_; exact h_
                have hji19u : (IntKind.i64.wrap (2 ^ min (l0.length : Int).toNat 64)) = ji19 := by have h_ := hji19_; rw [Int.one_mul] at h_; exact h_
                have hji19v : (l0.length : Int) ≤ 64 → (IntKind.i64.wrap (2 ^ (l0.length : Int).toNat)) = ji19 := fun hle_ => by have h_ := hji19z hle_; rw [Int.one_mul] at h_; exact h_
                have hji19y : (wrap64 (1 * 2 ^ min (l0.length : Int).toNat 64)) = ji19 := (i64_w _).symm.trans hji19_
                have hji19x : (l0.length : Int) ≤ 64 → (wrap64 (1 * 2 ^ (l0.length : Int).toNat)) = ji19 := fun h_ => (i64_w _).symm.trans (hji19z h_)
                by_cases c20 : (ji19) = 0
                · rw [if_pos c20] at H
                  exact absurd H (by simp)
                · rw [if_neg c20] at H
                  have c20b0 : ((ji19) == 0) = false := beq_eq_false_iff_ne.mpr c20
                  have c20b1 : ((ji19) != 0) = true := bne_iff_ne.mpr c20
                  have H' := Aside0.mk H
                  clear H
                  go_wp2
                  repeat (go_quiet (fail); try go_wp2)
                  go_loopg [13, 14] kj12 (fun kq v13 v14 w' => ∃ (x13_3 : Bool) (x14_3 : Int), v13 = .bool x13_3 ∧ v14 = .int .i64 x14_3 ∧ Aside0 (clochelaw03_VisitsBounds.l0 kq l0 l2 (l0.length : Int) t297 t301 (Int.tmod (wrap64 (a1)) (ji19)) x13_3 x14_3 = some r) ∧ Aside0 (kq ≤ kj12) ∧ Aside0 (Kd.R k43 43 w' w.heap.size (fun _ => True) v299 t297) ∧ Aside0 (Below w.heap.size w w'))
                  case atStart => exact ⟨(true), (0), (by first | rfl | (simp; done) | (simp [*]; done)), (by first | rfl | (simp; done) | (simp [*]; done)), H', ⟨Nat.le_refl _⟩, ⟨by (with_reducible repeat (first | apply Kd.R_alloc | apply Kd.R_drewN | apply Kd.R_drew)); exact HO_8.out⟩, ⟨by repeat (first | (with_reducible first | exact HB.out | apply below_alloc | apply pw_below_drewN | apply below_drew1) | exact HB.out)⟩⟩
                  case round =>
                    clear H'
                    try clear c1
                    try clear c2
                    try clear p2
                    try clear c6
                    try clear p6
                    try clear c7
                    try clear c8
                    try clear c16
                    try clear c16b0
                    try clear c16b1
                    try clear c17
                    try clear c18
                    try clear c18b0
                    try clear c18b1
                    try clear c20
                    try clear c20b0
                    try clear c20b1
                    try clear p2
                    obtain ⟨x13_3, x14_3, rfl, rfl, HA, HK3, HO_8, HB⟩ := hrel
                    cases gk with
                    | zero => exact absurd HA.out (by simp [clochelaw03_VisitsBounds.l0])
                    | succ k3 =>
                      have H := HA.out
                      clear HA
                      simp only [clochelaw03_VisitsBounds.l0] at H
                      by_cases c21 : x14_3 < (l0.length : Int)
                      · rw [if_pos c21] at H
                        have c21b0 : decide (x14_3 < (l0.length : Int)) = true := decide_eq_true c21
                        clear c21
                        by_cases c22 : x13_3 = true
                        · subst c22
                          have H1 : (if 0 ≤ x14_3 then (if (Int.tmod (shr .i64 (Int.tmod (wrap64 (a1)) (ji19)) x14_3) 2) = 1 then (clochelaw03_VisitsBounds.l0 k3 l0 l2 (l0.length : Int) t297 t301 (Int.tmod (wrap64 (a1)) (ji19)) true (wrap64 (x14_3 + 1))) else (if x14_3 < (l0.length : Int) then (clochelaw03_VisitsBounds.l0 k3 l0 l2 (l0.length : Int) t297 t301 (Int.tmod (wrap64 (a1)) (ji19)) ((Go.bits .andNot .i64 (rd l0 x14_3) (Int.tmod (wrap64 (a1)) (ji19))) == 0) (wrap64 (x14_3 + 1))) else (none))) else (none)) = some r := by rw [if_pos rfl] at H; exact H
                          clear H
                          have H := H1
                          clear H1
                          by_cases c23 : 0 ≤ x14_3
                          · rw [if_pos c23] at H
                            have c23b0 := eq_true c23
                            have c23b1 : decide (0 ≤ x14_3) = true := decide_eq_true c23
                            clear c23
                            obtain ⟨ji24, hji24⟩ : ∃ j_ : Int, (shr .i64 (Int.tmod (wrap64 (a1)) (ji19)) x14_3) = j_ := ⟨_, rfl⟩
                            replace H : (if (Int.tmod (ji24) 2) = 1 then (clochelaw03_VisitsBounds.l0 k3 l0 l2 (l0.length : Int) t297 t301 (Int.tmod (wrap64 (a1)) (ji19)) true (wrap64 (x14_3 + 1))) else (if x14_3 < (l0.length : Int) then (clochelaw03_VisitsBounds.l0 k3 l0 l2 (l0.length : Int) t297 t301 (Int.tmod (wrap64 (a1)) (ji19)) ((Go.bits .andNot .i64 (rd l0 x14_3) (Int.tmod (wrap64 (a1)) (ji19))) == 0) (wrap64 (x14_3 + 1))) else (none))) = some r := by first | (rw [hji24] at H; exact H) | (simp only [hji24] at H ⊢; exact H)
                            have hji24_ : ((Int.tmod (wrap64 (a1)) (ji19)) / 2 ^ min x14_3.toNat 64) = ji24 := hji24
                            have hji24z : x14_3 ≤ 64 → ((Int.tmod (wrap64 (a1)) (ji19)) / 2 ^ x14_3.toNat) = ji24 := shr_small hji24
                            by_cases c25 : (Int.tmod (ji24) 2) = 1
                            · rw [if_pos c25] at H
                              have c25b0 : ((Int.tmod (ji24) 2) == 1) = true := beq_iff_eq.mpr c25
                              have c25b1 : ((Int.tmod (ji24) 2) != 1) = false := bne_eq_false_iff_eq.mpr c25
                              clear c25
                              have H' := Aside0.mk H
                              clear H
                              go_wp2
                              repeat (go_quiet (fail); try go_wp2)
                              go_roundg k3
                              case measure => have := HJ3.out; have := HJ12.out; have := HK3.out; omega
                              case rel => exact ⟨(true), (wrap64 (x14_3 + 1)), (by first | rfl | (simp; done) | (simp [*]; done)), (by first | rfl | (simp; done) | (simp [*]; done)), H', ⟨by have := HJ3.out; have := HJ12.out; have := HK3.out; omega⟩, ⟨by (with_reducible repeat (first | apply Kd.R_alloc | apply Kd.R_drewN | apply Kd.R_drew)); exact HO_8.out⟩, ⟨by repeat (first | (with_reducible first | exact HB.out | apply below_alloc | apply pw_below_drewN | apply below_drew1) | exact HB.out)⟩⟩
                            · rw [if_neg c25] at H
                              have c25b0 : ((Int.tmod (ji24) 2) == 1) = false := beq_eq_false_iff_ne.mpr c25
                              have c25b1 : ((Int.tmod (ji24) 2) != 1) = true := bne_iff_ne.mpr c25
                              by_cases c26 : x14_3 < (l0.length : Int)
                              · rw [if_pos c26] at H
                                have c26b0 : decide (x14_3 < (l0.length : Int)) = true := decide_eq_true c26
                                clear c26
                                have H' := Aside0.mk H
                                clear H
                                have p303 : 0 ≤ (x14_3 : Int) := of_decide_eq_true (by first | (with_reducible assumption) | assumption)
                                have q303 : x14_3 < (l0.length : Int) := of_decide_eq_true (by first | (with_reducible assumption) | assumption)
                                obtain ⟨ad303, e303, hx303_0⟩ := Kd.at_int HR0.out x14_3 p303 q303
                                cases e303
                                replace hx303_0 := (HB.out.cell (World.block_lt_of_cell? w _ hx303_0)).trans hx303_0
                                replace p303 := eq_true p303
                                replace q303 := eq_true q303
                                go_wp2
                                repeat (go_quiet (fail); try go_wp2)
                                go_roundg k3
                                case measure => have := HJ3.out; have := HJ12.out; have := HK3.out; omega
                                case rel => exact ⟨(((Go.bits .andNot .i64 (rd l0 x14_3) (Int.tmod (wrap64 (a1)) (ji19))) == 0)), (wrap64 (x14_3 + 1)), (by first | rfl | (simp; done) | (simp only [← hji19] <;> (first | rfl | simp)) | (simp [*]; done)), (by first | rfl | (simp; done) | (simp [*]; done)), H', ⟨by have := HJ3.out; have := HJ12.out; have := HK3.out; omega⟩, ⟨by (with_reducible repeat (first | apply Kd.R_alloc | apply Kd.R_drewN | apply Kd.R_drew)); exact HO_8.out⟩, ⟨by repeat (first | (with_reducible first | exact HB.out | apply below_alloc | apply pw_below_drewN | apply below_drew1) | exact HB.out)⟩⟩
                              · rw [if_neg c26] at H
                                exact absurd H (by simp)
                          · rw [if_neg c23] at H
                            exact absurd H (by simp)
                        · replace c22 := Bool.eq_false_iff.mpr c22
                          subst c22
                          have H1 : (clochelaw03_VisitsBounds.l0 k3 l0 l2 (l0.length : Int) t297 t301 (Int.tmod (wrap64 (a1)) (ji19)) false (wrap64 (x14_3 + 1))) = some r := by rw [if_neg (show ¬ (false = true) by decide)] at H; exact H
                          clear H
                          have H := H1
                          clear H1
                          have H' := Aside0.mk H
                          clear H
                          go_wp2
                          repeat (go_quiet (fail); try go_wp2)
                          go_roundg k3
                          case measure => have := HJ3.out; have := HJ12.out; have := HK3.out; omega
                          case rel => exact ⟨(false), (wrap64 (x14_3 + 1)), (by first | rfl | (simp; done) | (simp [*]; done)), (by first | rfl | (simp; done) | (simp [*]; done)), H', ⟨by have := HJ3.out; have := HJ12.out; have := HK3.out; omega⟩, ⟨by (with_reducible repeat (first | apply Kd.R_alloc | apply Kd.R_drewN | apply Kd.R_drew)); exact HO_8.out⟩, ⟨by repeat (first | (with_reducible first | exact HB.out | apply below_alloc | apply pw_below_drewN | apply below_drew1) | exact HB.out)⟩⟩
                      · rw [if_neg c21] at H
                        have c21b0 : decide (x14_3 < (l0.length : Int)) = false := decide_eq_false c21
                        clear c21
                        have HC27 := Aside0.mk H
                        clear H
                        go_upto_region 14 with (fail)
                        repeat (go_quiet (fail); go_upto_region 14 with (fail))
                        go_cut [82] (fun v82 wc => ∃ (kq : Nat) (x82_26 : Bool), v82 = .bool x82_26 ∧ Aside0 (clochelaw03_VisitsBounds.j3 kq l0 l2 (l0.length : Int) t297 t301 x82_26 = some r) ∧ Aside0 (kq ≤ k3) ∧ Aside0 (Kd.R k43 43 wc w.heap.size (fun _ => True) v299 t297) ∧ Aside0 (Below w.heap.size w wc))
                        case first =>
                          have H := HC27.out
                          clear HC27
                          by_cases c28 : x13_3 = true
                          · subst c28
                            have H1 : ((clocheref03_Size.f k3 (Int.tmod (wrap64 (a1)) (ji19))).bind fun t304 => (clochelaw03_VisitsBounds.j3 k3 l0 l2 (l0.length : Int) t297 t301 (decide ((t297.length : Int) > t304)))) = some r := by rw [if_pos rfl] at H; exact H
                            clear H
                            have H := H1
                            clear H1
                            replace H := Option.bind_eq_some_iff.mp H
                            obtain ⟨t304, A290, H⟩ := H
                            replace H : (clochelaw03_VisitsBounds.j3 k3 l0 l2 (l0.length : Int) t297 t301 (decide ((t297.length : Int) > t304))) = some r := H
                            have A29 := Aside0.mk A290
                            clear A290
                            have H' := Aside0.mk H
                            clear H
                            obtain ⟨Ao30, co30, eo30⟩ := Kd.R_slice HO_8.out
                            subst eo30
                            go_wp2_with (first | (go_at_call 29; (with_reducible refine (clocheref03_Size.calls k3 (Int.tmod (wrap64 (a1)) (ji19)) t304 _ A29.out).mono ?_); rintro e w' ⟨rfl, ⟨nd, rfl⟩⟩; (try first | exact ⟨rfl, _, World.drewN_drewN _ _ _⟩ | exact ⟨rfl, _, Eq.trans (World.drewN_drewN _ _ _) (congrArg (World.drewN _) (Nat.add_assoc _ _ _))⟩)))
                            repeat (go_quiet (first | (go_at_call 29; (with_reducible refine (clocheref03_Size.calls k3 (Int.tmod (wrap64 (a1)) (ji19)) t304 _ A29.out).mono ?_); rintro e w' ⟨rfl, ⟨nd, rfl⟩⟩; (try first | exact ⟨rfl, _, World.drewN_drewN _ _ _⟩ | exact ⟨rfl, _, Eq.trans (World.drewN_drewN _ _ _) (congrArg (World.drewN _) (Nat.add_assoc _ _ _))⟩))); try go_wp2_with (first | (go_at_call 29; (with_reducible refine (clocheref03_Size.calls k3 (Int.tmod (wrap64 (a1)) (ji19)) t304 _ A29.out).mono ?_); rintro e w' ⟨rfl, ⟨nd, rfl⟩⟩; (try first | exact ⟨rfl, _, World.drewN_drewN _ _ _⟩ | exact ⟨rfl, _, Eq.trans (World.drewN_drewN _ _ _) (congrArg (World.drewN _) (Nat.add_assoc _ _ _))⟩))))
                            go_meet
                            case rel => exact ⟨_, (decide ((t297.length : Int) > t304)), (by first | rfl | (simp; done) | (simp [*]; done)), H', ⟨by have := HJ3.out; have := HJ12.out; have := HK3.out; first | omega | exact Nat.le_refl _⟩, ⟨by (with_reducible repeat (first | apply Kd.R_alloc | apply Kd.R_drewN | apply Kd.R_drew)); exact HO_8.out⟩, ⟨by repeat (first | (with_reducible first | exact HB.out | apply below_alloc | apply pw_below_drewN | apply below_drew1) | exact HB.out)⟩⟩
                          · replace c28 := Bool.eq_false_iff.mpr c28
                            subst c28
                            have H1 : (clochelaw03_VisitsBounds.j3 k3 l0 l2 (l0.length : Int) t297 t301 false) = some r := by rw [if_neg (show ¬ (false = true) by decide)] at H; exact H
                            clear H
                            have H := H1
                            clear H1
                            have H' := Aside0.mk H
                            clear H
                            go_wp2
                            repeat (go_quiet (fail); try go_wp2)
                            go_meet
                            case rel => exact ⟨_, (false), (by first | rfl | (simp; done) | (simp [*]; done)), H', ⟨by have := HJ3.out; have := HJ12.out; have := HK3.out; first | omega | exact Nat.le_refl _⟩, ⟨by (with_reducible repeat (first | apply Kd.R_alloc | apply Kd.R_drewN | apply Kd.R_drew)); exact HO_8.out⟩, ⟨by repeat (first | (with_reducible first | exact HB.out | apply below_alloc | apply pw_below_drewN | apply below_drew1) | exact HB.out)⟩⟩
                        case rest =>
                          clear HC27
                          try clear c1
                          try clear c2
                          try clear p2
                          try clear p3
                          try clear q3
                          try clear hx3
                          try clear c6
                          try clear p6
                          try clear c7
                          try clear c8
                          try clear c16
                          try clear c16b0
                          try clear c16b1
                          try clear c17
                          try clear c18
                          try clear c18b0
                          try clear c18b1
                          try clear c20
                          try clear c20b0
                          try clear c20b1
                          try clear c21
                          try clear c21b0
                          try clear c22
                          try clear c23
                          try clear c23b0
                          try clear c23b1
                          try clear c25
                          try clear c25b0
                          try clear c25b1
                          try clear c26
                          try clear c26b0
                          try clear c28
                          try clear p30
                          try clear q30
                          try clear hx30
                          try clear hx303_0
                          try clear p2
                          try clear p303
                          try clear p6
                          try clear q303
                          obtain ⟨kq, x82_26, rfl, HA, HJ26, HO_8, HB⟩ := hcut
                          cases kq with
                          | zero => exact absurd HA.out (by simp [clochelaw03_VisitsBounds.j3])
                          | succ kj26 =>
                            have H := HA.out
                            clear HA
                            simp only [clochelaw03_VisitsBounds.j3] at H
                            by_cases c31 : x82_26 = true
                            · subst c31
                              have H1 : (none) = some r := by rw [if_pos rfl] at H; exact H
                              clear H
                              have H := H1
                              clear H1
                              exact absurd H (by simp)
                            · replace c31 := Bool.eq_false_iff.mpr c31
                              subst c31
                              have H1 : (if t301 = true then (clochelaw03_VisitsBounds.l1 kj26 l0 l2 (l0.length : Int) t297 0 0) else ((clochelaw03_alive.f kj26).bind fun t305 => (some t305))) = some r := by rw [if_neg (show ¬ (false = true) by decide)] at H; exact H
                              clear H
                              have H := H1
                              clear H1
                              by_cases c32 : t301 = true
                              · subst c32
                                have H1 : (clochelaw03_VisitsBounds.l1 kj26 l0 l2 (l0.length : Int) t297 0 0) = some r := by rw [if_pos rfl] at H; exact H
                                clear H
                                have H := H1
                                clear H1
                                have H' := Aside0.mk H
                                clear H
                                go_wp2
                                repeat (go_quiet (fail); try go_wp2)
                                go_loopg [15, 16] kj26 (fun kq v15 v16 w' => ∃ (x15_5 : Int) (x16_5 : Int), v15 = .int .i64 x15_5 ∧ v16 = .int .i64 x16_5 ∧ Aside0 (clochelaw03_VisitsBounds.l1 kq l0 l2 (l0.length : Int) t297 x15_5 x16_5 = some r) ∧ Aside0 (kq ≤ kj26) ∧ Aside0 (Kd.R k43 43 w' w.heap.size (fun _ => True) v299 t297) ∧ Aside0 (Below w.heap.size w w'))
                                case atStart => exact ⟨(0), (0), (by first | rfl | (simp; done) | (simp [*]; done)), (by first | rfl | (simp; done) | (simp [*]; done)), H', ⟨Nat.le_refl _⟩, ⟨by (with_reducible repeat (first | apply Kd.R_alloc | apply Kd.R_drewN | apply Kd.R_drew)); exact HO_8.out⟩, ⟨by repeat (first | (with_reducible first | exact HB.out | apply below_alloc | apply pw_below_drewN | apply below_drew1) | exact HB.out)⟩⟩
                                case round =>
                                  clear H'
                                  try clear c1
                                  try clear c2
                                  try clear p2
                                  try clear c3
                                  try clear p3
                                  try clear q3
                                  try clear hx3
                                  try clear c6
                                  try clear p6
                                  try clear c7
                                  try clear c8
                                  try clear c16
                                  try clear c16b0
                                  try clear c16b1
                                  try clear c17
                                  try clear c18
                                  try clear c18b0
                                  try clear c18b1
                                  try clear c20
                                  try clear c20b0
                                  try clear c20b1
                                  try clear c21
                                  try clear c21b0
                                  try clear c22
                                  try clear c23
                                  try clear c23b0
                                  try clear c23b1
                                  try clear c25
                                  try clear c25b0
                                  try clear c25b1
                                  try clear c26
                                  try clear c26b0
                                  try clear c28
                                  try clear p30
                                  try clear q30
                                  try clear hx30
                                  try clear c31
                                  try clear c32
                                  try clear hx303_0
                                  try clear p2
                                  try clear p3
                                  try clear p30
                                  try clear p303
                                  try clear p6
                                  try clear q3
                                  try clear q30
                                  try clear q303
                                  obtain ⟨x15_5, x16_5, rfl, rfl, HA, HK5, HO_8, HB⟩ := hrel
                                  cases gk with
                                  | zero => exact absurd HA.out (by simp [clochelaw03_VisitsBounds.l1])
                                  | succ k5 =>
                                    have H := HA.out
                                    clear HA
                                    simp only [clochelaw03_VisitsBounds.l1] at H
                                    by_cases c33 : x16_5 < (l2.length : Int)
                                    · rw [if_pos c33] at H
                                      have c33b0 : decide (x16_5 < (l2.length : Int)) = true := decide_eq_true c33
                                      clear c33
                                      by_cases c34 : 0 ≤ x16_5
                                      · rw [if_pos c34] at H
                                        have c34b0 : decide (0 ≤ x16_5) = true := decide_eq_true c34
                                        clear c34
                                        by_cases c35 : ((rd_T43 l2 x16_5).f0) < 0
                                        · rw [if_pos c35] at H
                                          exact absurd H (by simp)
                                        · rw [if_neg c35] at H
                                          have c35b0 : decide (((rd_T43 l2 x16_5).f0) < 0) = false := decide_eq_false c35
                                          clear c35
                                          by_cases c36 : ((rd_T43 l2 x16_5).f1) < 0
                                          · rw [if_pos c36] at H
                                            exact absurd H (by simp)
                                          · rw [if_neg c36] at H
                                            have c36b0 : decide (((rd_T43 l2 x16_5).f1) < 0) = false := decide_eq_false c36
                                            clear c36
                                            by_cases c37 : ((rd_T43 l2 x16_5).f0) ≥ (l0.length : Int)
                                            · rw [if_pos c37] at H
                                              exact absurd H (by simp)
                                            · rw [if_neg c37] at H
                                              have c37b0 : decide ((l0.length : Int) ≤ ((rd_T43 l2 x16_5).f0)) = false := decide_eq_false c37
                                              clear c37
                                              by_cases c38 : ((rd_T43 l2 x16_5).f1) ≥ (l0.length : Int)
                                              · rw [if_pos c38] at H
                                                exact absurd H (by simp)
                                              · rw [if_neg c38] at H
                                                have c38b0 : decide ((l0.length : Int) ≤ ((rd_T43 l2 x16_5).f1)) = false := decide_eq_false c38
                                                clear c38
                                                by_cases c39 : 0 ≤ ((rd_T43 l2 x16_5).f0)
                                                · rw [if_pos c39] at H
                                                  have c39b0 := eq_true c39
                                                  have c39b1 : decide (0 ≤ ((rd_T43 l2 x16_5).f0)) = true := decide_eq_true c39
                                                  clear c39
                                                  obtain ⟨ji40, hji40⟩ : ∃ j_ : Int, (shl .i64 1 ((rd_T43 l2 x16_5).f0)) = j_ := ⟨_, rfl⟩
                                                  replace H : (if 0 ≤ ((rd_T43 l2 x16_5).f1) then (clochelaw03_VisitsBounds.l1 k5 l0 l2 (l0.length : Int) t297 (Go.bits .or .i64 (Go.bits .or .i64 x15_5 (ji40)) (shl .i64 1 ((rd_T43 l2 x16_5).f1))) (wrap64 (x16_5 + 1))) else (none)) = some r := by first | (rw [hji40] at H; exact H) | (simp only [hji40] at H ⊢; exact H)
                                                  have hji40_ : (IntKind.i64.wrap (1 * 2 ^ min ((rd_T43 l2 x16_5).f0).toNat 64)) = ji40 := hji40
                                                  have hji40z : ((rd_T43 l2 x16_5).f0) ≤ 64 → (IntKind.i64.wrap (1 * 2 ^ ((rd_T43 l2 x16_5).f0).toNat)) = ji40 := shl_small hji40
                                                  have hji40u : (IntKind.i64.wrap (2 ^ min ((rd_T43 l2 x16_5).f0).toNat 64)) = ji40 := by have h_ := hji40_; rw [Int.one_mul] at h_; exact h_
                                                  have hji40v : ((rd_T43 l2 x16_5).f0) ≤ 64 → (IntKind.i64.wrap (2 ^ ((rd_T43 l2 x16_5).f0).toNat)) = ji40 := fun hle_ => by have h_ := hji40z hle_; rw [Int.one_mul] at h_; exact h_
                                                  have hji40y : (wrap64 (1 * 2 ^ min ((rd_T43 l2 x16_5).f0).toNat 64)) = ji40 := (i64_w _).symm.trans hji40_
                                                  have hji40x : ((rd_T43 l2 x16_5).f0) ≤ 64 → (wrap64 (1 * 2 ^ ((rd_T43 l2 x16_5).f0).toNat)) = ji40 := fun h_ => (i64_w _).symm.trans (hji40z h_)
                                                  by_cases c41 : 0 ≤ ((rd_T43 l2 x16_5).f1)
                                                  · rw [if_pos c41] at H
                                                    have c41b0 := eq_true c41
                                                    have c41b1 : decide (0 ≤ ((rd_T43 l2 x16_5).f1)) = true := decide_eq_true c41
                                                    clear c41
                                                    obtain ⟨ji42, hji42⟩ : ∃ j_ : Int, (shl .i64 1 ((rd_T43 l2 x16_5).f1)) = j_ := ⟨_, rfl⟩
                                                    replace H : (clochelaw03_VisitsBounds.l1 k5 l0 l2 (l0.length : Int) t297 (Go.bits .or .i64 (Go.bits .or .i64 x15_5 (ji40)) (ji42)) (wrap64 (x16_5 + 1))) = some r := by first | (rw [hji42] at H; exact H) | (simp only [hji42] at H ⊢; exact H)
                                                    have hji42_ : (IntKind.i64.wrap (1 * 2 ^ min ((rd_T43 l2 x16_5).f1).toNat 64)) = ji42 := hji42
                                                    have hji42z : ((rd_T43 l2 x16_5).f1) ≤ 64 → (IntKind.i64.wrap (1 * 2 ^ ((rd_T43 l2 x16_5).f1).toNat)) = ji42 := shl_small hji42
                                                    have hji42u : (IntKind.i64.wrap (2 ^ min ((rd_T43 l2 x16_5).f1).toNat 64)) = ji42 := by have h_ := hji42_; rw [Int.one_mul] at h_; exact h_
                                                    have hji42v : ((rd_T43 l2 x16_5).f1) ≤ 64 → (IntKind.i64.wrap (2 ^ ((rd_T43 l2 x16_5).f1).toNat)) = ji42 := fun hle_ => by have h_ := hji42z hle_; rw [Int.one_mul] at h_; exact h_
                                                    have hji42y : (wrap64 (1 * 2 ^ min ((rd_T43 l2 x16_5).f1).toNat 64)) = ji42 := (i64_w _).symm.trans hji42_
                                                    have hji42x : ((rd_T43 l2 x16_5).f1) ≤ 64 → (wrap64 (1 * 2 ^ ((rd_T43 l2 x16_5).f1).toNat)) = ji42 := fun h_ => (i64_w _).symm.trans (hji42z h_)
                                                    have H' := Aside0.mk H
                                                    clear H
                                                    have p306 : 0 ≤ (x16_5 : Int) := of_decide_eq_true (by first | (with_reducible assumption) | assumption)
                                                    have q306 : x16_5 < (l2.length : Int) := of_decide_eq_true (by first | (with_reducible assumption) | assumption)
                                                    obtain ⟨ad306, e306, hx306_0, hx306_1⟩ := at_T43 HR2.out x16_5 p306 q306
                                                    cases e306
                                                    replace hx306_0 := (HB.out.cell (World.block_lt_of_cell? w _ hx306_0)).trans hx306_0
                                                    replace hx306_1 := (HB.out.cell (World.block_lt_of_cell? w _ hx306_1)).trans hx306_1
                                                    replace p306 := eq_true p306
                                                    replace q306 := eq_true q306
                                                    have p307 : 0 ≤ (x16_5 : Int) := of_decide_eq_true (by first | (with_reducible assumption) | assumption)
                                                    have q307 : x16_5 < (l2.length : Int) := of_decide_eq_true (by first | (with_reducible assumption) | assumption)
                                                    obtain ⟨ad307, e307, hx307_0, hx307_1⟩ := at_T43 HR2.out x16_5 p307 q307
                                                    obtain rfl : ad306 = ad307 := (by injection e307)
                                                    replace hx307_0 := (HB.out.cell (World.block_lt_of_cell? w _ hx307_0)).trans hx307_0
                                                    replace hx307_1 := (HB.out.cell (World.block_lt_of_cell? w _ hx307_1)).trans hx307_1
                                                    replace p307 := eq_true p307
                                                    replace q307 := eq_true q307
                                                    have p308 : 0 ≤ (x16_5 : Int) := of_decide_eq_true (by first | (with_reducible assumption) | assumption)
                                                    have q308 : x16_5 < (l2.length : Int) := of_decide_eq_true (by first | (with_reducible assumption) | assumption)
                                                    obtain ⟨ad308, e308, hx308_0, hx308_1⟩ := at_T43 HR2.out x16_5 p308 q308
                                                    obtain rfl : ad306 = ad308 := (by injection e308)
                                                    replace hx308_0 := (HB.out.cell (World.block_lt_of_cell? w _ hx308_0)).trans hx308_0
                                                    replace hx308_1 := (HB.out.cell (World.block_lt_of_cell? w _ hx308_1)).trans hx308_1
                                                    replace p308 := eq_true p308
                                                    replace q308 := eq_true q308
                                                    have p309 : 0 ≤ (x16_5 : Int) := of_decide_eq_true (by first | (with_reducible assumption) | assumption)
                                                    have q309 : x16_5 < (l2.length : Int) := of_decide_eq_true (by first | (with_reducible assumption) | assumption)
                                                    obtain ⟨ad309, e309, hx309_0, hx309_1⟩ := at_T43 HR2.out x16_5 p309 q309
                                                    obtain rfl : ad306 = ad309 := (by injection e309)
                                                    replace hx309_0 := (HB.out.cell (World.block_lt_of_cell? w _ hx309_0)).trans hx309_0
                                                    replace hx309_1 := (HB.out.cell (World.block_lt_of_cell? w _ hx309_1)).trans hx309_1
                                                    replace p309 := eq_true p309
                                                    replace q309 := eq_true q309
                                                    have p310 : 0 ≤ (x16_5 : Int) := of_decide_eq_true (by first | (with_reducible assumption) | assumption)
                                                    have q310 : x16_5 < (l2.length : Int) := of_decide_eq_true (by first | (with_reducible assumption) | assumption)
                                                    obtain ⟨ad310, e310, hx310_0, hx310_1⟩ := at_T43 HR2.out x16_5 p310 q310
                                                    obtain rfl : ad306 = ad310 := (by injection e310)
                                                    replace hx310_0 := (HB.out.cell (World.block_lt_of_cell? w _ hx310_0)).trans hx310_0
                                                    replace hx310_1 := (HB.out.cell (World.block_lt_of_cell? w _ hx310_1)).trans hx310_1
                                                    replace p310 := eq_true p310
                                                    replace q310 := eq_true q310
                                                    have p311 : 0 ≤ (x16_5 : Int) := of_decide_eq_true (by first | (with_reducible assumption) | assumption)
                                                    have q311 : x16_5 < (l2.length : Int) := of_decide_eq_true (by first | (with_reducible assumption) | assumption)
                                                    obtain ⟨ad311, e311, hx311_0, hx311_1⟩ := at_T43 HR2.out x16_5 p311 q311
                                                    obtain rfl : ad306 = ad311 := (by injection e311)
                                                    replace hx311_0 := (HB.out.cell (World.block_lt_of_cell? w _ hx311_0)).trans hx311_0
                                                    replace hx311_1 := (HB.out.cell (World.block_lt_of_cell? w _ hx311_1)).trans hx311_1
                                                    replace p311 := eq_true p311
                                                    replace q311 := eq_true q311
                                                    go_wp2
                                                    repeat (go_quiet (fail); try go_wp2)
                                                    go_roundg k5
                                                    case measure => have := HJ3.out; have := HJ12.out; have := HK3.out; have := HJ26.out; have := HK5.out; omega
                                                    case rel => exact ⟨(Go.bits .or .i64 (Go.bits .or .i64 x15_5 (ji40)) (ji42)), (wrap64 (x16_5 + 1)), (by first | rfl | (simp; done) | (simp only [← hji40, ← hji42] <;> (first | rfl | simp)) | (simp [*]; done)), (by first | rfl | (simp; done) | (simp [*]; done)), H', ⟨by have := HJ3.out; have := HJ12.out; have := HK3.out; have := HJ26.out; have := HK5.out; omega⟩, ⟨by (with_reducible repeat (first | apply Kd.R_alloc | apply Kd.R_drewN | apply Kd.R_drew)); exact HO_8.out⟩, ⟨by repeat (first | (with_reducible first | exact HB.out | apply below_alloc | apply pw_below_drewN | apply below_drew1) | exact HB.out)⟩⟩
                                                  · rw [if_neg c41] at H
                                                    exact absurd H (by simp)
                                                · rw [if_neg c39] at H
                                                  exact absurd H (by simp)
                                      · rw [if_neg c34] at H
                                        exact absurd H (by simp)
                                    · rw [if_neg c33] at H
                                      have c33b0 : decide (x16_5 < (l2.length : Int)) = false := decide_eq_false c33
                                      clear c33
                                      have H' := Aside0.mk H
                                      clear H
                                      go_wp2
                                      repeat (go_quiet (fail); try go_wp2)
                                      go_loopg [17, 18] k5 (fun kq v17 v18 w' => ∃ (x17_6 : Bool) (x18_6 : Int), v17 = .bool x17_6 ∧ v18 = .int .i64 x18_6 ∧ Aside0 (clochelaw03_VisitsBounds.l2 kq l0 l2 (l0.length : Int) t297 x15_5 x17_6 x18_6 = some r) ∧ Aside0 (kq ≤ k5) ∧ Aside0 (Kd.R k43 43 w' w.heap.size (fun _ => True) v299 t297) ∧ Aside0 (Below w.heap.size w w'))
                                      case atStart => exact ⟨(true), (0), (by first | rfl | (simp; done) | (simp [*]; done)), (by first | rfl | (simp; done) | (simp [*]; done)), H', ⟨Nat.le_refl _⟩, ⟨by (with_reducible repeat (first | apply Kd.R_alloc | apply Kd.R_drewN | apply Kd.R_drew)); exact HO_8.out⟩, ⟨by repeat (first | (with_reducible first | exact HB.out | apply below_alloc | apply pw_below_drewN | apply below_drew1) | exact HB.out)⟩⟩
                                      case round =>
                                        clear H'
                                        try clear c1
                                        try clear c2
                                        try clear p2
                                        try clear c3
                                        try clear p3
                                        try clear q3
                                        try clear hx3
                                        try clear c4
                                        try clear c6
                                        try clear p6
                                        try clear c7
                                        try clear c8
                                        try clear c16
                                        try clear c16b0
                                        try clear c16b1
                                        try clear c17
                                        try clear c18
                                        try clear c18b0
                                        try clear c18b1
                                        try clear c20
                                        try clear c20b0
                                        try clear c20b1
                                        try clear c21
                                        try clear c21b0
                                        try clear c22
                                        try clear c23
                                        try clear c23b0
                                        try clear c23b1
                                        try clear c25
                                        try clear c25b0
                                        try clear c25b1
                                        try clear c26
                                        try clear c26b0
                                        try clear c28
                                        try clear p30
                                        try clear q30
                                        try clear hx30
                                        try clear c31
                                        try clear p31
                                        try clear q31
                                        try clear hx31
                                        try clear c32
                                        try clear c33
                                        try clear c33b0
                                        try clear c34
                                        try clear c34b0
                                        try clear c35
                                        try clear c35b0
                                        try clear c36
                                        try clear c36b0
                                        try clear c37
                                        try clear c37b0
                                        try clear c38
                                        try clear c38b0
                                        try clear c39
                                        try clear c39b0
                                        try clear c39b1
                                        try clear c41
                                        try clear c41b0
                                        try clear c41b1
                                        try clear hx303_0
                                        try clear hx306_0
                                        try clear hx306_1
                                        try clear hx307_0
                                        try clear hx307_1
                                        try clear hx308_0
                                        try clear hx308_1
                                        try clear hx309_0
                                        try clear hx309_1
                                        try clear hx310_0
                                        try clear hx310_1
                                        try clear hx311_0
                                        try clear hx311_1
                                        try clear p2
                                        try clear p3
                                        try clear p30
                                        try clear p303
                                        try clear p306
                                        try clear p307
                                        try clear p308
                                        try clear p309
                                        try clear p310
                                        try clear p311
                                        try clear p6
                                        try clear q3
                                        try clear q30
                                        try clear q303
                                        try clear q306
                                        try clear q307
                                        try clear q308
                                        try clear q309
                                        try clear q310
                                        try clear q311
                                        obtain ⟨x17_6, x18_6, rfl, rfl, HA, HK6, HO_8, HB⟩ := hrel
                                        cases gk with
                                        | zero => exact absurd HA.out (by simp [clochelaw03_VisitsBounds.l2])
                                        | succ k6 =>
                                          have H := HA.out
                                          clear HA
                                          simp only [clochelaw03_VisitsBounds.l2] at H
                                          by_cases c43 : x18_6 < (l0.length : Int)
                                          · rw [if_pos c43] at H
                                            have c43b0 : decide (x18_6 < (l0.length : Int)) = true := decide_eq_true c43
                                            clear c43
                                            by_cases c44 : x17_6 = true
                                            · subst c44
                                              have H1 : (if 0 ≤ x18_6 then (if (Int.tmod (shr .i64 x15_5 x18_6) 2) = 1 then (clochelaw03_VisitsBounds.l2 k6 l0 l2 (l0.length : Int) t297 x15_5 true (wrap64 (x18_6 + 1))) else (if x18_6 < (l0.length : Int) then (clochelaw03_VisitsBounds.l2 k6 l0 l2 (l0.length : Int) t297 x15_5 ((Go.bits .andNot .i64 (rd l0 x18_6) x15_5) == 0) (wrap64 (x18_6 + 1))) else (none))) else (none)) = some r := by rw [if_pos rfl] at H; exact H
                                              clear H
                                              have H := H1
                                              clear H1
                                              by_cases c45 : 0 ≤ x18_6
                                              · rw [if_pos c45] at H
                                                have c45b0 := eq_true c45
                                                have c45b1 : decide (0 ≤ x18_6) = true := decide_eq_true c45
                                                clear c45
                                                obtain ⟨ji46, hji46⟩ : ∃ j_ : Int, (shr .i64 x15_5 x18_6) = j_ := ⟨_, rfl⟩
                                                replace H : (if (Int.tmod (ji46) 2) = 1 then (clochelaw03_VisitsBounds.l2 k6 l0 l2 (l0.length : Int) t297 x15_5 true (wrap64 (x18_6 + 1))) else (if x18_6 < (l0.length : Int) then (clochelaw03_VisitsBounds.l2 k6 l0 l2 (l0.length : Int) t297 x15_5 ((Go.bits .andNot .i64 (rd l0 x18_6) x15_5) == 0) (wrap64 (x18_6 + 1))) else (none))) = some r := by first | (rw [hji46] at H; exact H) | (simp only [hji46] at H ⊢; exact H)
                                                have hji46_ : (x15_5 / 2 ^ min x18_6.toNat 64) = ji46 := hji46
                                                have hji46z : x18_6 ≤ 64 → (x15_5 / 2 ^ x18_6.toNat) = ji46 := shr_small hji46
                                                by_cases c47 : (Int.tmod (ji46) 2) = 1
                                                · rw [if_pos c47] at H
                                                  have c47b0 : ((Int.tmod (ji46) 2) == 1) = true := beq_iff_eq.mpr c47
                                                  have c47b1 : ((Int.tmod (ji46) 2) != 1) = false := bne_eq_false_iff_eq.mpr c47
                                                  clear c47
                                                  have H' := Aside0.mk H
                                                  clear H
                                                  go_wp2
                                                  repeat (go_quiet (fail); try go_wp2)
                                                  go_roundg k6
                                                  case measure => have := HJ3.out; have := HJ12.out; have := HK3.out; have := HJ26.out; have := HK5.out; have := HK6.out; omega
                                                  case rel => exact ⟨(true), (wrap64 (x18_6 + 1)), (by first | rfl | (simp; done) | (simp [*]; done)), (by first | rfl | (simp; done) | (simp [*]; done)), H', ⟨by have := HJ3.out; have := HJ12.out; have := HK3.out; have := HJ26.out; have := HK5.out; have := HK6.out; omega⟩, ⟨by (with_reducible repeat (first | apply Kd.R_alloc | apply Kd.R_drewN | apply Kd.R_drew)); exact HO_8.out⟩, ⟨by repeat (first | (with_reducible first | exact HB.out | apply below_alloc | apply pw_below_drewN | apply below_drew1) | exact HB.out)⟩⟩
                                                · rw [if_neg c47] at H
                                                  have c47b0 : ((Int.tmod (ji46) 2) == 1) = false := beq_eq_false_iff_ne.mpr c47
                                                  have c47b1 : ((Int.tmod (ji46) 2) != 1) = true := bne_iff_ne.mpr c47
                                                  by_cases c48 : x18_6 < (l0.length : Int)
                                                  · rw [if_pos c48] at H
                                                    have c48b0 : decide (x18_6 < (l0.length : Int)) = true := decide_eq_true c48
                                                    clear c48
                                                    have H' := Aside0.mk H
                                                    clear H
                                                    have p312 : 0 ≤ (x18_6 : Int) := of_decide_eq_true (by first | (with_reducible assumption) | assumption)
                                                    have q312 : x18_6 < (l0.length : Int) := of_decide_eq_true (by first | (with_reducible assumption) | assumption)
                                                    obtain ⟨ad312, e312, hx312_0⟩ := Kd.at_int HR0.out x18_6 p312 q312
                                                    cases e312
                                                    replace hx312_0 := (HB.out.cell (World.block_lt_of_cell? w _ hx312_0)).trans hx312_0
                                                    replace p312 := eq_true p312
                                                    replace q312 := eq_true q312
                                                    go_wp2
                                                    repeat (go_quiet (fail); try go_wp2)
                                                    go_roundg k6
                                                    case measure => have := HJ3.out; have := HJ12.out; have := HK3.out; have := HJ26.out; have := HK5.out; have := HK6.out; omega
                                                    case rel => exact ⟨(((Go.bits .andNot .i64 (rd l0 x18_6) x15_5) == 0)), (wrap64 (x18_6 + 1)), (by first | rfl | (simp; done) | (simp [*]; done)), (by first | rfl | (simp; done) | (simp [*]; done)), H', ⟨by have := HJ3.out; have := HJ12.out; have := HK3.out; have := HJ26.out; have := HK5.out; have := HK6.out; omega⟩, ⟨by (with_reducible repeat (first | apply Kd.R_alloc | apply Kd.R_drewN | apply Kd.R_drew)); exact HO_8.out⟩, ⟨by repeat (first | (with_reducible first | exact HB.out | apply below_alloc | apply pw_below_drewN | apply below_drew1) | exact HB.out)⟩⟩
                                                  · rw [if_neg c48] at H
                                                    exact absurd H (by simp)
                                              · rw [if_neg c45] at H
                                                exact absurd H (by simp)
                                            · replace c44 := Bool.eq_false_iff.mpr c44
                                              subst c44
                                              have H1 : (clochelaw03_VisitsBounds.l2 k6 l0 l2 (l0.length : Int) t297 x15_5 false (wrap64 (x18_6 + 1))) = some r := by rw [if_neg (show ¬ (false = true) by decide)] at H; exact H
                                              clear H
                                              have H := H1
                                              clear H1
                                              have H' := Aside0.mk H
                                              clear H
                                              go_wp2
                                              repeat (go_quiet (fail); try go_wp2)
                                              go_roundg k6
                                              case measure => have := HJ3.out; have := HJ12.out; have := HK3.out; have := HJ26.out; have := HK5.out; have := HK6.out; omega
                                              case rel => exact ⟨(false), (wrap64 (x18_6 + 1)), (by first | rfl | (simp; done) | (simp [*]; done)), (by first | rfl | (simp; done) | (simp [*]; done)), H', ⟨by have := HJ3.out; have := HJ12.out; have := HK3.out; have := HJ26.out; have := HK5.out; have := HK6.out; omega⟩, ⟨by (with_reducible repeat (first | apply Kd.R_alloc | apply Kd.R_drewN | apply Kd.R_drew)); exact HO_8.out⟩, ⟨by repeat (first | (with_reducible first | exact HB.out | apply below_alloc | apply pw_below_drewN | apply below_drew1) | exact HB.out)⟩⟩
                                          · rw [if_neg c43] at H
                                            have c43b0 : decide (x18_6 < (l0.length : Int)) = false := decide_eq_false c43
                                            clear c43
                                            by_cases c49 : x17_6 = true
                                            · subst c49
                                              have H1 : (if (wrap64 (2 * (l2.length : Int))) ≥ (t297.length : Int) then (if (l2.length : Int) ≤ (t297.length : Int) then ((clochelaw03_alive.f k6).bind fun t313 => (some t313)) else (none)) else (none)) = some r := by rw [if_pos rfl] at H; exact H
                                              clear H
                                              have H := H1
                                              clear H1
                                              by_cases c50 : (wrap64 (2 * (l2.length : Int))) ≥ (t297.length : Int)
                                              · rw [if_pos c50] at H
                                                have c50b0 : decide ((t297.length : Int) ≤ (wrap64 (2 * (l2.length : Int)))) = true := decide_eq_true c50
                                                clear c50
                                                by_cases c51 : (l2.length : Int) ≤ (t297.length : Int)
                                                · rw [if_pos c51] at H
                                                  have c51b0 : decide ((l2.length : Int) ≤ (t297.length : Int)) = true := decide_eq_true c51
                                                  have c51b1 : decide (l2.length ≤ t297.length) = true := decide_eq_true (Int.ofNat_le.mp c51)
                                                  clear c51
                                                  replace H := Option.bind_eq_some_iff.mp H
                                                  obtain ⟨t313, A520, H⟩ := H
                                                  replace H : (some t313) = some r := H
                                                  have A52 := Aside0.mk A520
                                                  clear A520
                                                  obtain rfl := Option.some.inj H
                                                  obtain ⟨Ao53, co53, eo53⟩ := Kd.R_slice HO_8.out
                                                  subst eo53
                                                  go_wp2_with (first | (go_at_call 16; (with_reducible refine (clochelaw03_alive.calls k6  t313 _ A52.out (by repeat (first | exact HT0.out | exact tabB HT0.out HB.out | (refine tab_alloc ?_ _) | (refine tab_drewN ?_ _) | (refine tab_drew ?_)))).mono ?_); rintro e w54 ⟨rfl, hb⟩; have n0_ := Aside0.mk (Kd.R_below (by (with_reducible repeat (first | apply Kd.R_alloc | apply Kd.R_drewN | apply Kd.R_drew)); exact HO_8.out) hb); have n1_ := Aside0.mk (below_step (by repeat (first | (with_reducible first | exact HB.out | apply below_alloc | apply pw_below_drewN | apply below_drew1) | exact HB.out)) hb); clear HO_8; clear HB; have HO_8 := n0_; have HB := n1_; clear n0_ n1_; (try clear hb); (try clear hb2); (try clear hk); (try clear hi)))
                                                  repeat (go_quiet (first | (go_at_call 16; (with_reducible refine (clochelaw03_alive.calls k6  t313 _ A52.out (by repeat (first | exact HT0.out | exact tabB HT0.out HB.out | (refine tab_alloc ?_ _) | (refine tab_drewN ?_ _) | (refine tab_drew ?_)))).mono ?_); rintro e w54 ⟨rfl, hb⟩; have n0_ := Aside0.mk (Kd.R_below (by (with_reducible repeat (first | apply Kd.R_alloc | apply Kd.R_drewN | apply Kd.R_drew)); exact HO_8.out) hb); have n1_ := Aside0.mk (below_step (by repeat (first | (with_reducible first | exact HB.out | apply below_alloc | apply pw_below_drewN | apply below_drew1) | exact HB.out)) hb); clear HO_8; clear HB; have HO_8 := n0_; have HB := n1_; clear n0_ n1_; (try clear hb); (try clear hb2); (try clear hk); (try clear hi))); try go_wp2_with (first | (go_at_call 16; (with_reducible refine (clochelaw03_alive.calls k6  t313 _ A52.out (by repeat (first | exact HT0.out | exact tabB HT0.out HB.out | (refine tab_alloc ?_ _) | (refine tab_drewN ?_ _) | (refine tab_drew ?_)))).mono ?_); rintro e w54 ⟨rfl, hb⟩; have n0_ := Aside0.mk (Kd.R_below (by (with_reducible repeat (first | apply Kd.R_alloc | apply Kd.R_drewN | apply Kd.R_drew)); exact HO_8.out) hb); have n1_ := Aside0.mk (below_step (by repeat (first | (with_reducible first | exact HB.out | apply below_alloc | apply pw_below_drewN | apply below_drew1) | exact HB.out)) hb); clear HO_8; clear HB; have HO_8 := n0_; have HB := n1_; clear n0_ n1_; (try clear hb); (try clear hb2); (try clear hk); (try clear hi))))
                                                  go_ret
                                                  exact ⟨by first | rfl | (simp [errW_none, errW_some] <;> rfl) | (simp only [← hji19]; first | rfl | (simp [errW_none, errW_some] <;> rfl)) | (simp [*, errW_none, errW_some] <;> rfl), by repeat (first | (with_reducible first | exact HB.out | apply below_alloc | apply pw_below_drewN | apply below_drew1) | exact HB.out)⟩
                                                · rw [if_neg c51] at H
                                                  exact absurd H (by simp)
                                              · rw [if_neg c50] at H
                                                exact absurd H (by simp)
                                            · replace c49 := Bool.eq_false_iff.mpr c49
                                              subst c49
                                              have H1 : (if (l2.length : Int) ≤ (t297.length : Int) then ((clochelaw03_alive.f k6).bind fun t314 => (some t314)) else (none)) = some r := by rw [if_neg (show ¬ (false = true) by decide)] at H; exact H
                                              clear H
                                              have H := H1
                                              clear H1
                                              by_cases c55 : (l2.length : Int) ≤ (t297.length : Int)
                                              · rw [if_pos c55] at H
                                                have c55b0 : decide ((l2.length : Int) ≤ (t297.length : Int)) = true := decide_eq_true c55
                                                have c55b1 : decide (l2.length ≤ t297.length) = true := decide_eq_true (Int.ofNat_le.mp c55)
                                                clear c55
                                                replace H := Option.bind_eq_some_iff.mp H
                                                obtain ⟨t314, A560, H⟩ := H
                                                replace H : (some t314) = some r := H
                                                have A56 := Aside0.mk A560
                                                clear A560
                                                obtain rfl := Option.some.inj H
                                                obtain ⟨Ao57, co57, eo57⟩ := Kd.R_slice HO_8.out
                                                subst eo57
                                                go_wp2_with (first | (go_at_call 16; (with_reducible refine (clochelaw03_alive.calls k6  t314 _ A56.out (by repeat (first | exact HT0.out | exact tabB HT0.out HB.out | (refine tab_alloc ?_ _) | (refine tab_drewN ?_ _) | (refine tab_drew ?_)))).mono ?_); rintro e w58 ⟨rfl, hb⟩; have n0_ := Aside0.mk (Kd.R_below (by (with_reducible repeat (first | apply Kd.R_alloc | apply Kd.R_drewN | apply Kd.R_drew)); exact HO_8.out) hb); have n1_ := Aside0.mk (below_step (by repeat (first | (with_reducible first | exact HB.out | apply below_alloc | apply pw_below_drewN | apply below_drew1) | exact HB.out)) hb); clear HO_8; clear HB; have HO_8 := n0_; have HB := n1_; clear n0_ n1_; (try clear hb); (try clear hb2); (try clear hk); (try clear hi)))
                                                repeat (go_quiet (first | (go_at_call 16; (with_reducible refine (clochelaw03_alive.calls k6  t314 _ A56.out (by repeat (first | exact HT0.out | exact tabB HT0.out HB.out | (refine tab_alloc ?_ _) | (refine tab_drewN ?_ _) | (refine tab_drew ?_)))).mono ?_); rintro e w58 ⟨rfl, hb⟩; have n0_ := Aside0.mk (Kd.R_below (by (with_reducible repeat (first | apply Kd.R_alloc | apply Kd.R_drewN | apply Kd.R_drew)); exact HO_8.out) hb); have n1_ := Aside0.mk (below_step (by repeat (first | (with_reducible first | exact HB.out | apply below_alloc | apply pw_below_drewN | apply below_drew1) | exact HB.out)) hb); clear HO_8; clear HB; have HO_8 := n0_; have HB := n1_; clear n0_ n1_; (try clear hb); (try clear hb2); (try clear hk); (try clear hi))); try go_wp2_with (first | (go_at_call 16; (with_reducible refine (clochelaw03_alive.calls k6  t314 _ A56.out (by repeat (first | exact HT0.out | exact tabB HT0.out HB.out | (refine tab_alloc ?_ _) | (refine tab_drewN ?_ _) | (refine tab_drew ?_)))).mono ?_); rintro e w58 ⟨rfl, hb⟩; have n0_ := Aside0.mk (Kd.R_below (by (with_reducible repeat (first | apply Kd.R_alloc | apply Kd.R_drewN | apply Kd.R_drew)); exact HO_8.out) hb); have n1_ := Aside0.mk (below_step (by repeat (first | (with_reducible first | exact HB.out | apply below_alloc | apply pw_below_drewN | apply below_drew1) | exact HB.out)) hb); clear HO_8; clear HB; have HO_8 := n0_; have HB := n1_; clear n0_ n1_; (try clear hb); (try clear hb2); (try clear hk); (try clear hi))))
                                                go_ret
                                                exact ⟨by first | rfl | (simp [errW_none, errW_some] <;> rfl) | (simp only [← hji19]; first | rfl | (simp [errW_none, errW_some] <;> rfl)) | (simp [*, errW_none, errW_some] <;> rfl), by repeat (first | (with_reducible first | exact HB.out | apply below_alloc | apply pw_below_drewN | apply below_drew1) | exact HB.out)⟩
                                              · rw [if_neg c55] at H
                                                exact absurd H (by simp)
                              · replace c32 := Bool.eq_false_iff.mpr c32
                                subst c32
                                have H1 : ((clochelaw03_alive.f kj26).bind fun t305 => (some t305)) = some r := by rw [if_neg (show ¬ (false = true) by decide)] at H; exact H
                                clear H
                                have H := H1
                                clear H1
                                replace H := Option.bind_eq_some_iff.mp H
                                obtain ⟨t305, A590, H⟩ := H
                                replace H : (some t305) = some r := H
                                have A59 := Aside0.mk A590
                                clear A590
                                obtain rfl := Option.some.inj H
                                go_wp2_with (first | (go_at_call 16; (with_reducible refine (clochelaw03_alive.calls kj26  t305 _ A59.out (by repeat (first | exact HT0.out | exact tabB HT0.out HB.out | (refine tab_alloc ?_ _) | (refine tab_drewN ?_ _) | (refine tab_drew ?_)))).mono ?_); rintro e w60 ⟨rfl, hb⟩; have n0_ := Aside0.mk (Kd.R_below (by (with_reducible repeat (first | apply Kd.R_alloc | apply Kd.R_drewN | apply Kd.R_drew)); exact HO_8.out) hb); have n1_ := Aside0.mk (below_step (by repeat (first | (with_reducible first | exact HB.out | apply below_alloc | apply pw_below_drewN | apply below_drew1) | exact HB.out)) hb); clear HO_8; clear HB; have HO_8 := n0_; have HB := n1_; clear n0_ n1_; (try clear hb); (try clear hb2); (try clear hk); (try clear hi)))
                                repeat (go_quiet (first | (go_at_call 16; (with_reducible refine (clochelaw03_alive.calls kj26  t305 _ A59.out (by repeat (first | exact HT0.out | exact tabB HT0.out HB.out | (refine tab_alloc ?_ _) | (refine tab_drewN ?_ _) | (refine tab_drew ?_)))).mono ?_); rintro e w60 ⟨rfl, hb⟩; have n0_ := Aside0.mk (Kd.R_below (by (with_reducible repeat (first | apply Kd.R_alloc | apply Kd.R_drewN | apply Kd.R_drew)); exact HO_8.out) hb); have n1_ := Aside0.mk (below_step (by repeat (first | (with_reducible first | exact HB.out | apply below_alloc | apply pw_below_drewN | apply below_drew1) | exact HB.out)) hb); clear HO_8; clear HB; have HO_8 := n0_; have HB := n1_; clear n0_ n1_; (try clear hb); (try clear hb2); (try clear hk); (try clear hi))); try go_wp2_with (first | (go_at_call 16; (with_reducible refine (clochelaw03_alive.calls kj26  t305 _ A59.out (by repeat (first | exact HT0.out | exact tabB HT0.out HB.out | (refine tab_alloc ?_ _) | (refine tab_drewN ?_ _) | (refine tab_drew ?_)))).mono ?_); rintro e w60 ⟨rfl, hb⟩; have n0_ := Aside0.mk (Kd.R_below (by (with_reducible repeat (first | apply Kd.R_alloc | apply Kd.R_drewN | apply Kd.R_drew)); exact HO_8.out) hb); have n1_ := Aside0.mk (below_step (by repeat (first | (with_reducible first | exact HB.out | apply below_alloc | apply pw_below_drewN | apply below_drew1) | exact HB.out)) hb); clear HO_8; clear HB; have HO_8 := n0_; have HB := n1_; clear n0_ n1_; (try clear hb); (try clear hb2); (try clear hk); (try clear hi))))
                                go_ret
                                exact ⟨by first | rfl | (simp [errW_none, errW_some] <;> rfl) | (simp only [← hji19]; first | rfl | (simp [errW_none, errW_some] <;> rfl)) | (simp [*, errW_none, errW_some] <;> rfl), by repeat (first | (with_reducible first | exact HB.out | apply below_alloc | apply pw_below_drewN | apply below_drew1) | exact HB.out)⟩
              · rw [if_neg c18] at H
                exact absurd H (by simp)

end Go.Proofs.YtadfcplobidmeaaDoor.Print
