/- What the functions of the visits compute, printed by this repo's hand printer. -/
import Derived.Test.YtadfcplobidmeaaDoorPrintx0
import Derived.Test.YtadfcplobidmeaaDoorPrintx2
import Derived.Test.YtadfcplobidmeaaDoorPrintx8
import Derived.Test.YtadfcplobidmeaaDoorPrintx10
import Derived.Test.YtadfcplobidmeaaDoorPrintx11
import Derived.Test.YtadfcplobidmeaaDoorPrintx16
import Derived.Test.YtadfcplobidmeaaDoorPrintx18
namespace Go.Proofs.YtadfcplobidmeaaDoor.Print
open Go.RowKit Go.Proofs.YtadfcplobidmeaaDoorW.PrintWords Go.Proofs.YtadfcplobidmeaaDoorW.PrintLast Go.Proofs.YtadfcplobidmeaaDoorW.PrintMore
attribute [local go_sem] max2_int min2_int max_two min_two max_three min_three max_four min_four   -- for this text's walks alone
set_option linter.unusedVariables false
set_option linter.unusedSimpArgs false

/-! ### clochelaw03_VisitsLess: function 6 -/
mutual
def clochelaw03_VisitsLess.j0 : Nat → List Int → Int → Int → Bool → Option (Bool)
  | 0, _, _, _, _ => none
  | k + 1, x0, x1, x2, x27 => if x27 = true then ((clochelaw03_alive.f k).bind fun t273 => (some t273)) else (if (x0.length : Int) = 0 then (none) else (if (shl .i64 1 (x0.length : Int)) = 0 then (none) else (if 0 ≤ (Int.tmod (wrap64 (x2)) (x0.length : Int)) then ((clocheref03_Without.f k x0 (Go.bits .andNot .i64 (Go.bits .or .i64 (Int.tmod (wrap64 (x1)) (shl .i64 1 (x0.length : Int))) (shl .i64 1 (Int.tmod (wrap64 (x2)) (x0.length : Int)))) (shl .i64 1 (Int.tmod (wrap64 (x2)) (x0.length : Int))))).bind fun t274 => (clochelaw03_VisitsLess.l0 k x0 (x0.length : Int) (Int.tmod (wrap64 (x2)) (x0.length : Int)) (Go.bits .or .i64 (Int.tmod (wrap64 (x1)) (shl .i64 1 (x0.length : Int))) (shl .i64 1 (Int.tmod (wrap64 (x2)) (x0.length : Int)))) t274 0 0)) else (none))))
def clochelaw03_VisitsLess.l0 : Nat → List Int → Int → Int → Int → List Int → Int → Int → Option (Bool)
  | 0, _, _, _, _, _, _, _ => none
  | k + 1, x0, x7, x8, x9, x10, x11, x12 => if x12 < x8 then (if 0 ≤ x12 then (if (Int.tmod (shr .i64 x9 x12) 2) = 0 then (clochelaw03_VisitsLess.l0 k x0 x7 x8 x9 x10 (wrap64 (x11 + 1)) (wrap64 (x12 + 1))) else (clochelaw03_VisitsLess.l0 k x0 x7 x8 x9 x10 x11 (wrap64 (x12 + 1)))) else (none)) else ((visits_Wins.f k x0 x9 x8).bind fun bt277 => (if 0 ≤ x11 then ((visits_Wins.f k x10 (shl .i64 1 x11) x11).bind fun bt279 => ((visits_Move.f k x0 x9 x8).bind fun bt281 => (if bt277.2 = 0 then (if bt279.2 = 0 then (if (bt277.1 != bt279.1) = true then (none) else (if ((bt281.2 == 0) != bt277.1) = true then (none) else (if bt281.2 = 0 then (clochelaw03_VisitsLess.j2 k x0 x7 x8 x9 bt277.1 bt281.1 false) else (clochelaw03_VisitsLess.j2 k x0 x7 x8 x9 bt277.1 bt281.1 (bt281.2 != 10))))) else (none)) else (none)))) else (none)))
def clochelaw03_VisitsLess.j2 : Nat → List Int → Int → Int → Int → Bool → Int → Bool → Option (Bool)
  | 0, _, _, _, _, _, _, _ => none
  | k + 1, x0, x7, x8, x9, x13, x17, x107 => if x107 = true then (none) else (if x13 = true then (if x17 < 0 then (none) else (if x17 ≥ x7 then (none) else (if 0 ≤ x8 then (if x8 < (x0.length : Int) then (if 0 ≤ x17 then (clochelaw03_VisitsLess.j3 k x0 x9 x17 ((Int.tmod (shr .i64 (Go.bits .andNot .i64 (rd x0 x8) x9) x17) 2) == 0)) else (none)) else (none)) else (none)))) else (if x17 = 0 then ((clochelaw03_alive.f k).bind fun t283 => (some t283)) else (none)))
def clochelaw03_VisitsLess.j3 : Nat → List Int → Int → Int → Bool → Option (Bool)
  | 0, _, _, _, _ => none
  | k + 1, x0, x9, x17, x133 => if x133 = true then (none) else (if 0 ≤ x17 then ((visits_Wins.f k x0 (Go.bits .or .i64 x9 (shl .i64 1 x17)) x17).bind fun bt285 => (if bt285.2 = 0 then (if bt285.1 = true then (none) else ((clochelaw03_alive.f k).bind fun t287 => (some t287))) else (none))) else (none))
end
def clochelaw03_VisitsLess.f (k : Nat) (l0 : List Int) (a1 : Int) (a2 : Int) : Option (Bool) := (clochelaw03_few.f l0 ([] : List (S43))).bind fun t271 => (if t271 = true then ((clocheref03_IsShop.f k l0).bind fun t272 => (clochelaw03_VisitsLess.j0 k l0 a1 a2 (!t272))) else (clochelaw03_VisitsLess.j0 k l0 a1 a2 true))
theorem clochelaw03_VisitsLess.mono_l : ∀ k, (∀ y0 y1 y2 y3, LeO (clochelaw03_VisitsLess.j0 k y0 y1 y2 y3) (clochelaw03_VisitsLess.j0 (k + 1) y0 y1 y2 y3)) ∧ (∀ y0 y1 y2 y3 y4 y5 y6, LeO (clochelaw03_VisitsLess.l0 k y0 y1 y2 y3 y4 y5 y6) (clochelaw03_VisitsLess.l0 (k + 1) y0 y1 y2 y3 y4 y5 y6)) ∧ (∀ y0 y1 y2 y3 y4 y5 y6, LeO (clochelaw03_VisitsLess.j2 k y0 y1 y2 y3 y4 y5 y6) (clochelaw03_VisitsLess.j2 (k + 1) y0 y1 y2 y3 y4 y5 y6)) ∧ (∀ y0 y1 y2 y3, LeO (clochelaw03_VisitsLess.j3 k y0 y1 y2 y3) (clochelaw03_VisitsLess.j3 (k + 1) y0 y1 y2 y3))
  | 0 => ⟨fun _ _ _ _ r h => by simp [clochelaw03_VisitsLess.j0] at h, fun _ _ _ _ _ _ _ r h => by simp [clochelaw03_VisitsLess.l0] at h, fun _ _ _ _ _ _ _ r h => by simp [clochelaw03_VisitsLess.j2] at h, fun _ _ _ _ r h => by simp [clochelaw03_VisitsLess.j3] at h⟩
  | k + 1 => by
    obtain ⟨ih0, ih1, ih2, ih3⟩ := clochelaw03_VisitsLess.mono_l k
    refine ⟨?_, ?_, ?_, ?_⟩
    · intro y0 y1 y2 y3
      unfold clochelaw03_VisitsLess.j0
      repeat' first
      | (with_reducible exact ih0 _ _ _ _)
      | (with_reducible exact ih1 _ _ _ _ _ _ _)
      | (with_reducible exact ih2 _ _ _ _ _ _ _)
      | (with_reducible exact ih3 _ _ _ _)
      | (with_reducible exact clochelaw03_alive.mono _)
      | (with_reducible exact clocheref03_IsShop.mono _ _)
      | (with_reducible exact clocheref03_Without.mono _ _ _)
      | (with_reducible exact visits_Move.mono _ _ _ _)
      | (with_reducible exact visits_Wins.mono _ _ _ _)
      | (with_reducible exact LeO.refl _)
      | (with_reducible exact LeO.none _)
      | (with_reducible refine LeO.ite ?_ ?_)
      | (with_reducible refine LeO.bind ?_ (fun _ => ?_))
      | exact ih0 _ _ _ _
      | exact ih1 _ _ _ _ _ _ _
      | exact ih2 _ _ _ _ _ _ _
      | exact ih3 _ _ _ _
      | exact clochelaw03_alive.mono _
      | exact clocheref03_IsShop.mono _ _
      | exact clocheref03_Without.mono _ _ _
      | exact visits_Move.mono _ _ _ _
      | exact visits_Wins.mono _ _ _ _
      | exact LeO.none _
      | refine LeO.ite ?_ ?_
      | refine LeO.bind ?_ (fun _ => ?_)
    · intro y0 y1 y2 y3 y4 y5 y6
      unfold clochelaw03_VisitsLess.l0
      repeat' first
      | (with_reducible exact ih0 _ _ _ _)
      | (with_reducible exact ih1 _ _ _ _ _ _ _)
      | (with_reducible exact ih2 _ _ _ _ _ _ _)
      | (with_reducible exact ih3 _ _ _ _)
      | (with_reducible exact clochelaw03_alive.mono _)
      | (with_reducible exact clocheref03_IsShop.mono _ _)
      | (with_reducible exact clocheref03_Without.mono _ _ _)
      | (with_reducible exact visits_Move.mono _ _ _ _)
      | (with_reducible exact visits_Wins.mono _ _ _ _)
      | (with_reducible exact LeO.refl _)
      | (with_reducible exact LeO.none _)
      | (with_reducible refine LeO.ite ?_ ?_)
      | (with_reducible refine LeO.bind ?_ (fun _ => ?_))
      | exact ih0 _ _ _ _
      | exact ih1 _ _ _ _ _ _ _
      | exact ih2 _ _ _ _ _ _ _
      | exact ih3 _ _ _ _
      | exact clochelaw03_alive.mono _
      | exact clocheref03_IsShop.mono _ _
      | exact clocheref03_Without.mono _ _ _
      | exact visits_Move.mono _ _ _ _
      | exact visits_Wins.mono _ _ _ _
      | exact LeO.none _
      | refine LeO.ite ?_ ?_
      | refine LeO.bind ?_ (fun _ => ?_)
    · intro y0 y1 y2 y3 y4 y5 y6
      unfold clochelaw03_VisitsLess.j2
      repeat' first
      | (with_reducible exact ih0 _ _ _ _)
      | (with_reducible exact ih1 _ _ _ _ _ _ _)
      | (with_reducible exact ih2 _ _ _ _ _ _ _)
      | (with_reducible exact ih3 _ _ _ _)
      | (with_reducible exact clochelaw03_alive.mono _)
      | (with_reducible exact clocheref03_IsShop.mono _ _)
      | (with_reducible exact clocheref03_Without.mono _ _ _)
      | (with_reducible exact visits_Move.mono _ _ _ _)
      | (with_reducible exact visits_Wins.mono _ _ _ _)
      | (with_reducible exact LeO.refl _)
      | (with_reducible exact LeO.none _)
      | (with_reducible refine LeO.ite ?_ ?_)
      | (with_reducible refine LeO.bind ?_ (fun _ => ?_))
      | exact ih0 _ _ _ _
      | exact ih1 _ _ _ _ _ _ _
      | exact ih2 _ _ _ _ _ _ _
      | exact ih3 _ _ _ _
      | exact clochelaw03_alive.mono _
      | exact clocheref03_IsShop.mono _ _
      | exact clocheref03_Without.mono _ _ _
      | exact visits_Move.mono _ _ _ _
      | exact visits_Wins.mono _ _ _ _
      | exact LeO.none _
      | refine LeO.ite ?_ ?_
      | refine LeO.bind ?_ (fun _ => ?_)
    · intro y0 y1 y2 y3
      unfold clochelaw03_VisitsLess.j3
      repeat' first
      | (with_reducible exact ih0 _ _ _ _)
      | (with_reducible exact ih1 _ _ _ _ _ _ _)
      | (with_reducible exact ih2 _ _ _ _ _ _ _)
      | (with_reducible exact ih3 _ _ _ _)
      | (with_reducible exact clochelaw03_alive.mono _)
      | (with_reducible exact clocheref03_IsShop.mono _ _)
      | (with_reducible exact clocheref03_Without.mono _ _ _)
      | (with_reducible exact visits_Move.mono _ _ _ _)
      | (with_reducible exact visits_Wins.mono _ _ _ _)
      | (with_reducible exact LeO.refl _)
      | (with_reducible exact LeO.none _)
      | (with_reducible refine LeO.ite ?_ ?_)
      | (with_reducible refine LeO.bind ?_ (fun _ => ?_))
      | exact ih0 _ _ _ _
      | exact ih1 _ _ _ _ _ _ _
      | exact ih2 _ _ _ _ _ _ _
      | exact ih3 _ _ _ _
      | exact clochelaw03_alive.mono _
      | exact clocheref03_IsShop.mono _ _
      | exact clocheref03_Without.mono _ _ _
      | exact visits_Move.mono _ _ _ _
      | exact visits_Wins.mono _ _ _ _
      | exact LeO.none _
      | refine LeO.ite ?_ ?_
      | refine LeO.bind ?_ (fun _ => ?_)
theorem clochelaw03_VisitsLess.mono : ∀ a0 a1 a2 k, LeO (clochelaw03_VisitsLess.f k a0 a1 a2) (clochelaw03_VisitsLess.f (k + 1) a0 a1 a2) := by
  intro a0 a1 a2 k
  obtain ⟨ih0, ih1, ih2, ih3⟩ := clochelaw03_VisitsLess.mono_l k
  unfold clochelaw03_VisitsLess.f
  repeat' first
      | (with_reducible exact ih0 _ _ _ _)
      | (with_reducible exact ih1 _ _ _ _ _ _ _)
      | (with_reducible exact ih2 _ _ _ _ _ _ _)
      | (with_reducible exact ih3 _ _ _ _)
      | (with_reducible exact clochelaw03_alive.mono _)
      | (with_reducible exact clocheref03_IsShop.mono _ _)
      | (with_reducible exact clocheref03_Without.mono _ _ _)
      | (with_reducible exact visits_Move.mono _ _ _ _)
      | (with_reducible exact visits_Wins.mono _ _ _ _)
      | (with_reducible exact LeO.refl _)
      | (with_reducible exact LeO.none _)
      | (with_reducible refine LeO.ite ?_ ?_)
      | (with_reducible refine LeO.bind ?_ (fun _ => ?_))
      | exact ih0 _ _ _ _
      | exact ih1 _ _ _ _ _ _ _
      | exact ih2 _ _ _ _ _ _ _
      | exact ih3 _ _ _ _
      | exact clochelaw03_alive.mono _
      | exact clocheref03_IsShop.mono _ _
      | exact clocheref03_Without.mono _ _ _
      | exact visits_Move.mono _ _ _ _
      | exact visits_Wins.mono _ _ _ _
      | exact LeO.none _
      | refine LeO.ite ?_ ?_
      | refine LeO.bind ?_ (fun _ => ?_)
set_option maxHeartbeats 8000000 in
set_option maxRecDepth 100000 in
theorem clochelaw03_VisitsLess.calls (k : Nat) (A0 : Option Addr) (c0 : Nat) (l0 : List Int) (a1 : Int) (a2 : Int) (r : Bool) (w : World) (hr0 : Kd.C (Kd.int .i64) w A0 l0.length l0) (hc0 : l0.length ≤ c0) (h : clochelaw03_VisitsLess.f k l0 a1 a2 = some r) (hT : Tab w) :
    Calls Tryd.prog 6 #[.slice A0 l0.length c0, .int .u16 a1, .int .u8 a2] w fun e w' => e = .returned (.bool r) ∧ Below w.heap.size w w' := by
  have HR0 := Aside0.mk hr0
  have HC0 := Aside0.mk hc0
  clear hr0 hc0
  have HT0 := Aside0.mk hT
  clear hT
  have HB := Aside0.mk (Below.refl w.heap.size w)
  have H : ((clochelaw03_few.f l0 ([] : List (S43))).bind fun t271 => (if t271 = true then ((clocheref03_IsShop.f k l0).bind fun t272 => (clochelaw03_VisitsLess.j0 k l0 a1 a2 (!t272))) else (clochelaw03_VisitsLess.j0 k l0 a1 a2 true))) = some r := h
  clear h
  have HC4 := Aside0.mk H
  clear H
  go_enter Tryd.func6, Tryd.ntmps6
  go_upto_region 1 with (fail)
  repeat (go_quiet (fail); go_upto_region 1 with (fail))
  go_cut [27] (fun v27 wc => ∃ (kq : Nat) (x27_3 : Bool), v27 = .bool x27_3 ∧ Aside0 (clochelaw03_VisitsLess.j0 kq l0 a1 a2 x27_3 = some r) ∧ Aside0 (kq ≤ k) ∧ Aside0 (Below w.heap.size w wc))
  case first =>
    have H := HC4.out
    clear HC4
    replace H := Option.bind_eq_some_iff.mp H
    obtain ⟨t271, A50, H⟩ := H
    replace H : (if t271 = true then ((clocheref03_IsShop.f k l0).bind fun t272 => (clochelaw03_VisitsLess.j0 k l0 a1 a2 (!t272))) else (clochelaw03_VisitsLess.j0 k l0 a1 a2 true)) = some r := H
    have A5 := Aside0.mk A50
    clear A50
    by_cases c6 : t271 = true
    · subst c6
      have H1 : ((clocheref03_IsShop.f k l0).bind fun t272 => (clochelaw03_VisitsLess.j0 k l0 a1 a2 (!t272))) = some r := by rw [if_pos rfl] at H; exact H
      clear H
      have H := H1
      clear H1
      replace H := Option.bind_eq_some_iff.mp H
      obtain ⟨t272, A70, H⟩ := H
      replace H : (clochelaw03_VisitsLess.j0 k l0 a1 a2 (!t272)) = some r := H
      have A7 := Aside0.mk A70
      clear A70
      have H' := Aside0.mk H
      clear H
      go_wp2_with (first | (go_at_call 15; (refine (clochelaw03_few.calls _ _ l0 _ _ ([] : List (S43)) true _ ?side1 ?side2 ?side3 ?side4 A5.out).mono ?_); (case side1 => repeat (first | exact (Kd.C_below HR0.out HB.out) | (with_reducible refine Kd.C_alloc ?_ _) | (with_reducible refine Kd.C_drewN ?_ _) | (with_reducible refine Kd.C_drew ?_))); (case side2 => exact HC0.out); (case side3 => exact Kd.C_nil _ _); (case side4 => exact Nat.le_refl _); rintro e w' ⟨rfl, ⟨nd, rfl⟩⟩; (try first | exact ⟨rfl, _, World.drewN_drewN _ _ _⟩ | exact ⟨rfl, _, Eq.trans (World.drewN_drewN _ _ _) (congrArg (World.drewN _) (Nat.add_assoc _ _ _))⟩)) | (go_at_call 21; (with_reducible refine (clocheref03_IsShop.calls k _ _ l0 t272 _ ?side1 ?side2 A7.out).mono ?_); (case side1 => repeat (first | exact (Kd.C_below HR0.out (by repeat (first | (with_reducible first | exact HB.out | apply below_alloc | apply pw_below_drewN | apply below_drew1) | exact HB.out))) | (with_reducible refine Kd.C_alloc ?_ _) | (with_reducible refine Kd.C_drewN ?_ _) | (with_reducible refine Kd.C_drew ?_))); (case side2 => exact HC0.out); rintro e w' ⟨rfl, ⟨nd, rfl⟩⟩; (try first | exact ⟨rfl, _, World.drewN_drewN _ _ _⟩ | exact ⟨rfl, _, Eq.trans (World.drewN_drewN _ _ _) (congrArg (World.drewN _) (Nat.add_assoc _ _ _))⟩)))
      repeat (go_quiet (first | (go_at_call 15; (refine (clochelaw03_few.calls _ _ l0 _ _ ([] : List (S43)) true _ ?side1 ?side2 ?side3 ?side4 A5.out).mono ?_); (case side1 => repeat (first | exact (Kd.C_below HR0.out HB.out) | (with_reducible refine Kd.C_alloc ?_ _) | (with_reducible refine Kd.C_drewN ?_ _) | (with_reducible refine Kd.C_drew ?_))); (case side2 => exact HC0.out); (case side3 => exact Kd.C_nil _ _); (case side4 => exact Nat.le_refl _); rintro e w' ⟨rfl, ⟨nd, rfl⟩⟩; (try first | exact ⟨rfl, _, World.drewN_drewN _ _ _⟩ | exact ⟨rfl, _, Eq.trans (World.drewN_drewN _ _ _) (congrArg (World.drewN _) (Nat.add_assoc _ _ _))⟩)) | (go_at_call 21; (with_reducible refine (clocheref03_IsShop.calls k _ _ l0 t272 _ ?side1 ?side2 A7.out).mono ?_); (case side1 => repeat (first | exact (Kd.C_below HR0.out (by repeat (first | (with_reducible first | exact HB.out | apply below_alloc | apply pw_below_drewN | apply below_drew1) | exact HB.out))) | (with_reducible refine Kd.C_alloc ?_ _) | (with_reducible refine Kd.C_drewN ?_ _) | (with_reducible refine Kd.C_drew ?_))); (case side2 => exact HC0.out); rintro e w' ⟨rfl, ⟨nd, rfl⟩⟩; (try first | exact ⟨rfl, _, World.drewN_drewN _ _ _⟩ | exact ⟨rfl, _, Eq.trans (World.drewN_drewN _ _ _) (congrArg (World.drewN _) (Nat.add_assoc _ _ _))⟩))); try go_wp2_with (first | (go_at_call 15; (refine (clochelaw03_few.calls _ _ l0 _ _ ([] : List (S43)) true _ ?side1 ?side2 ?side3 ?side4 A5.out).mono ?_); (case side1 => repeat (first | exact (Kd.C_below HR0.out HB.out) | (with_reducible refine Kd.C_alloc ?_ _) | (with_reducible refine Kd.C_drewN ?_ _) | (with_reducible refine Kd.C_drew ?_))); (case side2 => exact HC0.out); (case side3 => exact Kd.C_nil _ _); (case side4 => exact Nat.le_refl _); rintro e w' ⟨rfl, ⟨nd, rfl⟩⟩; (try first | exact ⟨rfl, _, World.drewN_drewN _ _ _⟩ | exact ⟨rfl, _, Eq.trans (World.drewN_drewN _ _ _) (congrArg (World.drewN _) (Nat.add_assoc _ _ _))⟩)) | (go_at_call 21; (with_reducible refine (clocheref03_IsShop.calls k _ _ l0 t272 _ ?side1 ?side2 A7.out).mono ?_); (case side1 => repeat (first | exact (Kd.C_below HR0.out (by repeat (first | (with_reducible first | exact HB.out | apply below_alloc | apply pw_below_drewN | apply below_drew1) | exact HB.out))) | (with_reducible refine Kd.C_alloc ?_ _) | (with_reducible refine Kd.C_drewN ?_ _) | (with_reducible refine Kd.C_drew ?_))); (case side2 => exact HC0.out); rintro e w' ⟨rfl, ⟨nd, rfl⟩⟩; (try first | exact ⟨rfl, _, World.drewN_drewN _ _ _⟩ | exact ⟨rfl, _, Eq.trans (World.drewN_drewN _ _ _) (congrArg (World.drewN _) (Nat.add_assoc _ _ _))⟩))))
      go_meet
      case rel => exact ⟨_, (!t272), (by first | rfl | (simp; done) | (simp [*]; done)), H', ⟨by first | omega | exact Nat.le_refl _⟩, ⟨by repeat (first | (with_reducible first | exact HB.out | apply below_alloc | apply pw_below_drewN | apply below_drew1) | exact HB.out)⟩⟩
    · replace c6 := Bool.eq_false_iff.mpr c6
      subst c6
      have H1 : (clochelaw03_VisitsLess.j0 k l0 a1 a2 true) = some r := by rw [if_neg (show ¬ (false = true) by decide)] at H; exact H
      clear H
      have H := H1
      clear H1
      have H' := Aside0.mk H
      clear H
      go_wp2_with (first | (go_at_call 15; (refine (clochelaw03_few.calls _ _ l0 _ _ ([] : List (S43)) false _ ?side1 ?side2 ?side3 ?side4 A5.out).mono ?_); (case side1 => repeat (first | exact (Kd.C_below HR0.out HB.out) | (with_reducible refine Kd.C_alloc ?_ _) | (with_reducible refine Kd.C_drewN ?_ _) | (with_reducible refine Kd.C_drew ?_))); (case side2 => exact HC0.out); (case side3 => exact Kd.C_nil _ _); (case side4 => exact Nat.le_refl _); rintro e w' ⟨rfl, ⟨nd, rfl⟩⟩; (try first | exact ⟨rfl, _, World.drewN_drewN _ _ _⟩ | exact ⟨rfl, _, Eq.trans (World.drewN_drewN _ _ _) (congrArg (World.drewN _) (Nat.add_assoc _ _ _))⟩)))
      repeat (go_quiet (first | (go_at_call 15; (refine (clochelaw03_few.calls _ _ l0 _ _ ([] : List (S43)) false _ ?side1 ?side2 ?side3 ?side4 A5.out).mono ?_); (case side1 => repeat (first | exact (Kd.C_below HR0.out HB.out) | (with_reducible refine Kd.C_alloc ?_ _) | (with_reducible refine Kd.C_drewN ?_ _) | (with_reducible refine Kd.C_drew ?_))); (case side2 => exact HC0.out); (case side3 => exact Kd.C_nil _ _); (case side4 => exact Nat.le_refl _); rintro e w' ⟨rfl, ⟨nd, rfl⟩⟩; (try first | exact ⟨rfl, _, World.drewN_drewN _ _ _⟩ | exact ⟨rfl, _, Eq.trans (World.drewN_drewN _ _ _) (congrArg (World.drewN _) (Nat.add_assoc _ _ _))⟩))); try go_wp2_with (first | (go_at_call 15; (refine (clochelaw03_few.calls _ _ l0 _ _ ([] : List (S43)) false _ ?side1 ?side2 ?side3 ?side4 A5.out).mono ?_); (case side1 => repeat (first | exact (Kd.C_below HR0.out HB.out) | (with_reducible refine Kd.C_alloc ?_ _) | (with_reducible refine Kd.C_drewN ?_ _) | (with_reducible refine Kd.C_drew ?_))); (case side2 => exact HC0.out); (case side3 => exact Kd.C_nil _ _); (case side4 => exact Nat.le_refl _); rintro e w' ⟨rfl, ⟨nd, rfl⟩⟩; (try first | exact ⟨rfl, _, World.drewN_drewN _ _ _⟩ | exact ⟨rfl, _, Eq.trans (World.drewN_drewN _ _ _) (congrArg (World.drewN _) (Nat.add_assoc _ _ _))⟩))))
      go_meet
      case rel => exact ⟨_, (true), (by first | rfl | (simp; done) | (simp [*]; done)), H', ⟨by first | omega | exact Nat.le_refl _⟩, ⟨by repeat (first | (with_reducible first | exact HB.out | apply below_alloc | apply pw_below_drewN | apply below_drew1) | exact HB.out)⟩⟩
  case rest =>
    clear HC4
    try clear p2
    try clear c6
    obtain ⟨kq, x27_3, rfl, HA, HJ3, HB⟩ := hcut
    cases kq with
    | zero => exact absurd HA.out (by simp [clochelaw03_VisitsLess.j0])
    | succ kj3 =>
      have H := HA.out
      clear HA
      simp only [clochelaw03_VisitsLess.j0] at H
      by_cases c8 : x27_3 = true
      · subst c8
        have H1 : ((clochelaw03_alive.f kj3).bind fun t273 => (some t273)) = some r := by rw [if_pos rfl] at H; exact H
        clear H
        have H := H1
        clear H1
        replace H := Option.bind_eq_some_iff.mp H
        obtain ⟨t273, A90, H⟩ := H
        replace H : (some t273) = some r := H
        have A9 := Aside0.mk A90
        clear A90
        obtain rfl := Option.some.inj H
        go_wp2_with (first | (go_at_call 16; (with_reducible refine (clochelaw03_alive.calls kj3  t273 _ A9.out (by repeat (first | exact HT0.out | exact tabB HT0.out HB.out | (refine tab_alloc ?_ _) | (refine tab_drewN ?_ _) | (refine tab_drew ?_)))).mono ?_); rintro e w10 ⟨rfl, hb⟩; have n0_ := Aside0.mk (below_step (by repeat (first | (with_reducible first | exact HB.out | apply below_alloc | apply pw_below_drewN | apply below_drew1) | exact HB.out)) hb); clear HB; have HB := n0_; clear n0_; (try clear hb); (try clear hb2); (try clear hk); (try clear hi)))
        repeat (go_quiet (first | (go_at_call 16; (with_reducible refine (clochelaw03_alive.calls kj3  t273 _ A9.out (by repeat (first | exact HT0.out | exact tabB HT0.out HB.out | (refine tab_alloc ?_ _) | (refine tab_drewN ?_ _) | (refine tab_drew ?_)))).mono ?_); rintro e w10 ⟨rfl, hb⟩; have n0_ := Aside0.mk (below_step (by repeat (first | (with_reducible first | exact HB.out | apply below_alloc | apply pw_below_drewN | apply below_drew1) | exact HB.out)) hb); clear HB; have HB := n0_; clear n0_; (try clear hb); (try clear hb2); (try clear hk); (try clear hi))); try go_wp2_with (first | (go_at_call 16; (with_reducible refine (clochelaw03_alive.calls kj3  t273 _ A9.out (by repeat (first | exact HT0.out | exact tabB HT0.out HB.out | (refine tab_alloc ?_ _) | (refine tab_drewN ?_ _) | (refine tab_drew ?_)))).mono ?_); rintro e w10 ⟨rfl, hb⟩; have n0_ := Aside0.mk (below_step (by repeat (first | (with_reducible first | exact HB.out | apply below_alloc | apply pw_below_drewN | apply below_drew1) | exact HB.out)) hb); clear HB; have HB := n0_; clear n0_; (try clear hb); (try clear hb2); (try clear hk); (try clear hi))))
        go_ret
        exact ⟨by first | rfl | (simp [errW_none, errW_some] <;> rfl) | (simp [*, errW_none, errW_some] <;> rfl), by repeat (first | (with_reducible first | exact HB.out | apply below_alloc | apply pw_below_drewN | apply below_drew1) | exact HB.out)⟩
      · replace c8 := Bool.eq_false_iff.mpr c8
        subst c8
        have H1 : (if (l0.length : Int) = 0 then (none) else (if (shl .i64 1 (l0.length : Int)) = 0 then (none) else (if 0 ≤ (Int.tmod (wrap64 (a2)) (l0.length : Int)) then ((clocheref03_Without.f kj3 l0 (Go.bits .andNot .i64 (Go.bits .or .i64 (Int.tmod (wrap64 (a1)) (shl .i64 1 (l0.length : Int))) (shl .i64 1 (Int.tmod (wrap64 (a2)) (l0.length : Int)))) (shl .i64 1 (Int.tmod (wrap64 (a2)) (l0.length : Int))))).bind fun t274 => (clochelaw03_VisitsLess.l0 kj3 l0 (l0.length : Int) (Int.tmod (wrap64 (a2)) (l0.length : Int)) (Go.bits .or .i64 (Int.tmod (wrap64 (a1)) (shl .i64 1 (l0.length : Int))) (shl .i64 1 (Int.tmod (wrap64 (a2)) (l0.length : Int)))) t274 0 0)) else (none)))) = some r := by rw [if_neg (show ¬ (false = true) by decide)] at H; exact H
        clear H
        have H := H1
        clear H1
        by_cases c11 : (l0.length : Int) = 0
        · rw [if_pos c11] at H
          exact absurd H (by simp)
        · rw [if_neg c11] at H
          have c11b0 : ((l0.length : Int) == 0) = false := beq_eq_false_iff_ne.mpr c11
          have c11b1 : ((l0.length : Int) != 0) = true := bne_iff_ne.mpr c11
          have c11b2 : ¬ (l0 = []) := fun h_ => c11 (by rw [h_]; rfl)
          obtain ⟨ji12, hji12⟩ : ∃ j_ : Int, (shl .i64 1 (l0.length : Int)) = j_ := ⟨_, rfl⟩
          replace H : (if (ji12) = 0 then (none) else (if 0 ≤ (Int.tmod (wrap64 (a2)) (l0.length : Int)) then ((clocheref03_Without.f kj3 l0 (Go.bits .andNot .i64 (Go.bits .or .i64 (Int.tmod (wrap64 (a1)) (ji12)) (shl .i64 1 (Int.tmod (wrap64 (a2)) (l0.length : Int)))) (shl .i64 1 (Int.tmod (wrap64 (a2)) (l0.length : Int))))).bind fun t274 => (clochelaw03_VisitsLess.l0 kj3 l0 (l0.length : Int) (Int.tmod (wrap64 (a2)) (l0.length : Int)) (Go.bits .or .i64 (Int.tmod (wrap64 (a1)) (ji12)) (shl .i64 1 (Int.tmod (wrap64 (a2)) (l0.length : Int)))) t274 0 0)) else (none))) = some r := by first | (rw [hji12] at H; exact H) | (simp only [hji12] at H ⊢; exact H)
          have hji12_ : (IntKind.i64.wrap (1 * 2 ^ min (l0.length : Int).toNat 64)) = ji12 := hji12
          have hji12z : (l0.length : Int) ≤ 64 → (IntKind.i64.wrap (1 * 2 ^ (l0.length : Int).toNat)) = ji12 := shl_small hji12
          have hji12p : (IntKind.i64.wrap (1 * 2 ^ min l0.length 64)) = ji12 := hji12_
          have hji12q : (l0.length : Int) ≤ 64 → (IntKind.i64.wrap (1 * 2 ^ l0.length)) = ji12 := hji12z
          have hji12r : (IntKind.i64.wrap (2 ^ min l0.length 64)) = ji12 := by have h_ := hji12p; rw [Int.one_mul] at h_; exact h_
          have hji12s : (l0.length : Int) ≤ 64 → (IntKind.i64.wrap (2 ^ l0.length)) = ji12 := fun hle_ => by have h_ := hji12q hle_; rw [Int.one_mul] at h_; exact h_
          have hji12u : (IntKind.i64.wrap (2 ^ min (l0.length : Int).toNat 64)) = ji12 := by have h_ := hji12_; rw [Int.one_mul] at h_; exact h_
          have hji12v : (l0.length : Int) ≤ 64 → (IntKind.i64.wrap (2 ^ (l0.length : Int).toNat)) = ji12 := fun hle_ => by have h_ := hji12z hle_; rw [Int.one_mul] at h_; exact h_
          have hji12y : (wrap64 (1 * 2 ^ min (l0.length : Int).toNat 64)) = ji12 := (i64_w _).symm.trans hji12_
          have hji12x : (l0.length : Int) ≤ 64 → (wrap64 (1 * 2 ^ (l0.length : Int).toNat)) = ji12 := fun h_ => (i64_w _).symm.trans (hji12z h_)
          by_cases c13 : (ji12) = 0
          · rw [if_pos c13] at H
            exact absurd H (by simp)
          · rw [if_neg c13] at H
            have c13b0 : ((ji12) == 0) = false := beq_eq_false_iff_ne.mpr c13
            have c13b1 : ((ji12) != 0) = true := bne_iff_ne.mpr c13
            obtain ⟨ji14, hji14⟩ : ∃ j_ : Int, (Int.tmod (wrap64 (a2)) (l0.length : Int)) = j_ := ⟨_, rfl⟩
            replace H : (if 0 ≤ (ji14) then ((clocheref03_Without.f kj3 l0 (Go.bits .andNot .i64 (Go.bits .or .i64 (Int.tmod (wrap64 (a1)) (ji12)) (shl .i64 1 (ji14))) (shl .i64 1 (ji14)))).bind fun t274 => (clochelaw03_VisitsLess.l0 kj3 l0 (l0.length : Int) ji14 (Go.bits .or .i64 (Int.tmod (wrap64 (a1)) (ji12)) (shl .i64 1 (ji14))) t274 0 0)) else (none)) = some r := by first | (rw [hji14] at H; exact H) | (simp only [hji14] at H ⊢; exact H)
            by_cases c15 : 0 ≤ (ji14)
            · rw [if_pos c15] at H
              have c15b0 := eq_true c15
              have c15b1 : decide (0 ≤ (ji14)) = true := decide_eq_true c15
              clear c15
              obtain ⟨ji16, hji16⟩ : ∃ j_ : Int, (shl .i64 1 (ji14)) = j_ := ⟨_, rfl⟩
              replace H : ((clocheref03_Without.f kj3 l0 (Go.bits .andNot .i64 (Go.bits .or .i64 (Int.tmod (wrap64 (a1)) (ji12)) (ji16)) (ji16))).bind fun t274 => (clochelaw03_VisitsLess.l0 kj3 l0 (l0.length : Int) ji14 (Go.bits .or .i64 (Int.tmod (wrap64 (a1)) (ji12)) (ji16)) t274 0 0)) = some r := by first | (rw [hji16] at H; exact H) | (simp only [hji16] at H ⊢; exact H)
              have hji16_ : (IntKind.i64.wrap (1 * 2 ^ min (ji14).toNat 64)) = ji16 := hji16
              have hji16z : (ji14) ≤ 64 → (IntKind.i64.wrap (1 * 2 ^ (ji14).toNat)) = ji16 := shl_small hji16
              have hji16u : (IntKind.i64.wrap (2 ^ min (ji14).toNat 64)) = ji16 := by have h_ := hji16_; rw [Int.one_mul] at h_; exact h_
              have hji16v : (ji14) ≤ 64 → (IntKind.i64.wrap (2 ^ (ji14).toNat)) = ji16 := fun hle_ => by have h_ := hji16z hle_; rw [Int.one_mul] at h_; exact h_
              have hji16y : (wrap64 (1 * 2 ^ min (ji14).toNat 64)) = ji16 := (i64_w _).symm.trans hji16_
              have hji16x : (ji14) ≤ 64 → (wrap64 (1 * 2 ^ (ji14).toNat)) = ji16 := fun h_ => (i64_w _).symm.trans (hji16z h_)
              have c17b0 := eq_true (of_decide_eq_true (by first | (with_reducible assumption) | assumption) : 0 ≤ (ji14))
              replace H := Option.bind_eq_some_iff.mp H
              obtain ⟨t274, A190, H⟩ := H
              replace H : (clochelaw03_VisitsLess.l0 kj3 l0 (l0.length : Int) ji14 (Go.bits .or .i64 (Int.tmod (wrap64 (a1)) (ji12)) (ji16)) t274 0 0) = some r := H
              have A19 := Aside0.mk A190
              clear A190
              have H' := Aside0.mk H
              clear H
              go_wp2_with (first | (go_at_call 23; (with_reducible refine (clocheref03_Without.calls kj3 _ _ l0 (Go.bits .andNot .i64 (Go.bits .or .i64 (Int.tmod (wrap64 (a1)) (ji12)) (ji16)) (ji16)) t274 _ ?side1 ?side2 A19.out).mono ?_); (case side1 => repeat (first | exact (Kd.C_below HR0.out HB.out) | (with_reducible refine Kd.C_alloc ?_ _) | (with_reducible refine Kd.C_drewN ?_ _) | (with_reducible refine Kd.C_drew ?_))); (case side2 => exact HC0.out); rintro e w20 ⟨v275, rfl, ho0, hb⟩; have n0_ := Aside0.mk (Kd.R_lower ho0 (below_size (by repeat (first | (with_reducible first | exact HB.out | apply below_alloc | apply pw_below_drewN | apply below_drew1) | exact HB.out)))); have n1_ := Aside0.mk (below_step (by repeat (first | (with_reducible first | exact HB.out | apply below_alloc | apply pw_below_drewN | apply below_drew1) | exact HB.out)) hb); clear HB; have HO276 := n0_; have HB := n1_; clear n0_ n1_; (try clear hb); (try clear hb2); (try clear hk); (try clear hi); (try clear ho0)))
              repeat (go_quiet (first | (go_at_call 23; (with_reducible refine (clocheref03_Without.calls kj3 _ _ l0 (Go.bits .andNot .i64 (Go.bits .or .i64 (Int.tmod (wrap64 (a1)) (ji12)) (ji16)) (ji16)) t274 _ ?side1 ?side2 A19.out).mono ?_); (case side1 => repeat (first | exact (Kd.C_below HR0.out HB.out) | (with_reducible refine Kd.C_alloc ?_ _) | (with_reducible refine Kd.C_drewN ?_ _) | (with_reducible refine Kd.C_drew ?_))); (case side2 => exact HC0.out); rintro e w20 ⟨v275, rfl, ho0, hb⟩; have n0_ := Aside0.mk (Kd.R_lower ho0 (below_size (by repeat (first | (with_reducible first | exact HB.out | apply below_alloc | apply pw_below_drewN | apply below_drew1) | exact HB.out)))); have n1_ := Aside0.mk (below_step (by repeat (first | (with_reducible first | exact HB.out | apply below_alloc | apply pw_below_drewN | apply below_drew1) | exact HB.out)) hb); clear HB; have HO276 := n0_; have HB := n1_; clear n0_ n1_; (try clear hb); (try clear hb2); (try clear hk); (try clear hi); (try clear ho0))); try go_wp2_with (first | (go_at_call 23; (with_reducible refine (clocheref03_Without.calls kj3 _ _ l0 (Go.bits .andNot .i64 (Go.bits .or .i64 (Int.tmod (wrap64 (a1)) (ji12)) (ji16)) (ji16)) t274 _ ?side1 ?side2 A19.out).mono ?_); (case side1 => repeat (first | exact (Kd.C_below HR0.out HB.out) | (with_reducible refine Kd.C_alloc ?_ _) | (with_reducible refine Kd.C_drewN ?_ _) | (with_reducible refine Kd.C_drew ?_))); (case side2 => exact HC0.out); rintro e w20 ⟨v275, rfl, ho0, hb⟩; have n0_ := Aside0.mk (Kd.R_lower ho0 (below_size (by repeat (first | (with_reducible first | exact HB.out | apply below_alloc | apply pw_below_drewN | apply below_drew1) | exact HB.out)))); have n1_ := Aside0.mk (below_step (by repeat (first | (with_reducible first | exact HB.out | apply below_alloc | apply pw_below_drewN | apply below_drew1) | exact HB.out)) hb); clear HB; have HO276 := n0_; have HB := n1_; clear n0_ n1_; (try clear hb); (try clear hb2); (try clear hk); (try clear hi); (try clear ho0))))
              go_loopg [11, 12] kj3 (fun kq v11 v12 w' => ∃ (x11_2 : Int) (x12_2 : Int), v11 = .int .i64 x11_2 ∧ v12 = .int .i64 x12_2 ∧ Aside0 (clochelaw03_VisitsLess.l0 kq l0 (l0.length : Int) ji14 (Go.bits .or .i64 (Int.tmod (wrap64 (a1)) (ji12)) (ji16)) t274 x11_2 x12_2 = some r) ∧ Aside0 (kq ≤ kj3) ∧ Aside0 (Kd.R (Kd.int .i64) 3 w' w.heap.size (fun _ => True) v275 t274) ∧ Aside0 (Below w.heap.size w w'))
              case atStart => exact ⟨(0), (0), (by first | rfl | (simp; done) | (simp [*]; done)), (by first | rfl | (simp; done) | (simp [*]; done)), H', ⟨Nat.le_refl _⟩, ⟨by (with_reducible repeat (first | apply Kd.R_alloc | apply Kd.R_drewN | apply Kd.R_drew)); exact HO276.out⟩, ⟨by repeat (first | (with_reducible first | exact HB.out | apply below_alloc | apply pw_below_drewN | apply below_drew1) | exact HB.out)⟩⟩
              case round =>
                clear H'
                try clear c1
                try clear p2
                try clear c6
                try clear p6
                try clear c8
                try clear c11
                try clear c11b0
                try clear c11b1
                try clear c11b2
                try clear c13
                try clear c13b0
                try clear c13b1
                try clear c15
                try clear c15b0
                try clear c15b1
                try clear c17
                try clear c17b0
                try clear c18
                try clear c18b0
                try clear p2
                obtain ⟨x11_2, x12_2, rfl, rfl, HA, HK2, HO_10, HB⟩ := hrel
                cases gk with
                | zero => exact absurd HA.out (by simp [clochelaw03_VisitsLess.l0])
                | succ k2 =>
                  have H := HA.out
                  clear HA
                  simp only [clochelaw03_VisitsLess.l0] at H
                  by_cases c21 : x12_2 < ji14
                  · rw [if_pos c21] at H
                    have c21b0 : decide (x12_2 < ji14) = true := decide_eq_true c21
                    clear c21
                    by_cases c22 : 0 ≤ x12_2
                    · rw [if_pos c22] at H
                      have c22b0 := eq_true c22
                      have c22b1 : decide (0 ≤ x12_2) = true := decide_eq_true c22
                      clear c22
                      obtain ⟨ji23, hji23⟩ : ∃ j_ : Int, (shr .i64 (Go.bits .or .i64 (Int.tmod (wrap64 (a1)) (ji12)) (ji16)) x12_2) = j_ := ⟨_, rfl⟩
                      replace H : (if (Int.tmod (ji23) 2) = 0 then (clochelaw03_VisitsLess.l0 k2 l0 (l0.length : Int) ji14 (Go.bits .or .i64 (Int.tmod (wrap64 (a1)) (ji12)) (ji16)) t274 (wrap64 (x11_2 + 1)) (wrap64 (x12_2 + 1))) else (clochelaw03_VisitsLess.l0 k2 l0 (l0.length : Int) ji14 (Go.bits .or .i64 (Int.tmod (wrap64 (a1)) (ji12)) (ji16)) t274 x11_2 (wrap64 (x12_2 + 1)))) = some r := by first | (rw [hji23] at H; exact H) | (simp only [hji23] at H ⊢; exact H)
                      have hji23_ : ((Go.bits .or .i64 (Int.tmod (wrap64 (a1)) (ji12)) (ji16)) / 2 ^ min x12_2.toNat 64) = ji23 := hji23
                      have hji23z : x12_2 ≤ 64 → ((Go.bits .or .i64 (Int.tmod (wrap64 (a1)) (ji12)) (ji16)) / 2 ^ x12_2.toNat) = ji23 := shr_small hji23
                      by_cases c24 : (Int.tmod (ji23) 2) = 0
                      · rw [if_pos c24] at H
                        have c24b0 : ((Int.tmod (ji23) 2) == 0) = true := beq_iff_eq.mpr c24
                        have c24b1 : ((Int.tmod (ji23) 2) != 0) = false := bne_eq_false_iff_eq.mpr c24
                        clear c24
                        have H' := Aside0.mk H
                        clear H
                        go_wp2
                        repeat (go_quiet (fail); try go_wp2)
                        (try simp only [← hji23])
                        go_roundg k2
                        case measure => have := HJ3.out; have := HK2.out; omega
                        case rel => exact ⟨(wrap64 (x11_2 + 1)), (wrap64 (x12_2 + 1)), (by first | rfl | (simp; done) | (simp only [← hji23]; done) | (simp [*]; done)), (by first | rfl | (simp; done) | (simp only [← hji23]; done) | (simp [*]; done)), H', ⟨by have := HJ3.out; have := HK2.out; omega⟩, ⟨by (with_reducible repeat (first | apply Kd.R_alloc | apply Kd.R_drewN | apply Kd.R_drew)); exact HO_10.out⟩, ⟨by repeat (first | (with_reducible first | exact HB.out | apply below_alloc | apply pw_below_drewN | apply below_drew1) | exact HB.out)⟩⟩
                      · rw [if_neg c24] at H
                        have c24b0 : ((Int.tmod (ji23) 2) == 0) = false := beq_eq_false_iff_ne.mpr c24
                        have c24b1 : ((Int.tmod (ji23) 2) != 0) = true := bne_iff_ne.mpr c24
                        have H' := Aside0.mk H
                        clear H
                        go_wp2
                        repeat (go_quiet (fail); try go_wp2)
                        (try simp only [← hji23])
                        go_roundg k2
                        case measure => have := HJ3.out; have := HK2.out; omega
                        case rel => exact ⟨(x11_2), (wrap64 (x12_2 + 1)), (by first | rfl | (simp; done) | (simp only [← hji23]; done) | (simp [*]; done)), (by first | rfl | (simp; done) | (simp only [← hji23]; done) | (simp [*]; done)), H', ⟨by have := HJ3.out; have := HK2.out; omega⟩, ⟨by (with_reducible repeat (first | apply Kd.R_alloc | apply Kd.R_drewN | apply Kd.R_drew)); exact HO_10.out⟩, ⟨by repeat (first | (with_reducible first | exact HB.out | apply below_alloc | apply pw_below_drewN | apply below_drew1) | exact HB.out)⟩⟩
                    · rw [if_neg c22] at H
                      exact absurd H (by simp)
                  · rw [if_neg c21] at H
                    have c21b0 : decide (x12_2 < ji14) = false := decide_eq_false c21
                    clear c21
                    replace H := Option.bind_eq_some_iff.mp H
                    obtain ⟨⟨t277, t278⟩, A250, H⟩ := H
                    replace H : (if 0 ≤ x11_2 then ((visits_Wins.f k2 t274 (shl .i64 1 x11_2) x11_2).bind fun bt279 => ((visits_Move.f k2 l0 (Go.bits .or .i64 (Int.tmod (wrap64 (a1)) (ji12)) (ji16)) ji14).bind fun bt281 => (if t278 = 0 then (if bt279.2 = 0 then (if (t277 != bt279.1) = true then (none) else (if ((bt281.2 == 0) != t277) = true then (none) else (if bt281.2 = 0 then (clochelaw03_VisitsLess.j2 k2 l0 (l0.length : Int) ji14 (Go.bits .or .i64 (Int.tmod (wrap64 (a1)) (ji12)) (ji16)) t277 bt281.1 false) else (clochelaw03_VisitsLess.j2 k2 l0 (l0.length : Int) ji14 (Go.bits .or .i64 (Int.tmod (wrap64 (a1)) (ji12)) (ji16)) t277 bt281.1 (bt281.2 != 10))))) else (none)) else (none)))) else (none)) = some r := H
                    have A25 := Aside0.mk A250
                    clear A250
                    by_cases c26 : 0 ≤ x11_2
                    · rw [if_pos c26] at H
                      have c26b0 := eq_true c26
                      have c26b1 : decide (0 ≤ x11_2) = true := decide_eq_true c26
                      clear c26
                      obtain ⟨ji27, hji27⟩ : ∃ j_ : Int, (shl .i64 1 x11_2) = j_ := ⟨_, rfl⟩
                      replace H : ((visits_Wins.f k2 t274 (ji27) x11_2).bind fun bt279 => ((visits_Move.f k2 l0 (Go.bits .or .i64 (Int.tmod (wrap64 (a1)) (ji12)) (ji16)) ji14).bind fun bt281 => (if t278 = 0 then (if bt279.2 = 0 then (if (t277 != bt279.1) = true then (none) else (if ((bt281.2 == 0) != t277) = true then (none) else (if bt281.2 = 0 then (clochelaw03_VisitsLess.j2 k2 l0 (l0.length : Int) ji14 (Go.bits .or .i64 (Int.tmod (wrap64 (a1)) (ji12)) (ji16)) t277 bt281.1 false) else (clochelaw03_VisitsLess.j2 k2 l0 (l0.length : Int) ji14 (Go.bits .or .i64 (Int.tmod (wrap64 (a1)) (ji12)) (ji16)) t277 bt281.1 (bt281.2 != 10))))) else (none)) else (none)))) = some r := by first | (rw [hji27] at H; exact H) | (simp only [hji27] at H ⊢; exact H)
                      (try rw [hji27] at A25)
                      have hji27_ : (IntKind.i64.wrap (1 * 2 ^ min x11_2.toNat 64)) = ji27 := hji27
                      have hji27z : x11_2 ≤ 64 → (IntKind.i64.wrap (1 * 2 ^ x11_2.toNat)) = ji27 := shl_small hji27
                      have hji27u : (IntKind.i64.wrap (2 ^ min x11_2.toNat 64)) = ji27 := by have h_ := hji27_; rw [Int.one_mul] at h_; exact h_
                      have hji27v : x11_2 ≤ 64 → (IntKind.i64.wrap (2 ^ x11_2.toNat)) = ji27 := fun hle_ => by have h_ := hji27z hle_; rw [Int.one_mul] at h_; exact h_
                      have hji27y : (wrap64 (1 * 2 ^ min x11_2.toNat 64)) = ji27 := (i64_w _).symm.trans hji27_
                      have hji27x : x11_2 ≤ 64 → (wrap64 (1 * 2 ^ x11_2.toNat)) = ji27 := fun h_ => (i64_w _).symm.trans (hji27z h_)
                      replace H := Option.bind_eq_some_iff.mp H
                      obtain ⟨⟨t279, t280⟩, A280, H⟩ := H
                      replace H : ((visits_Move.f k2 l0 (Go.bits .or .i64 (Int.tmod (wrap64 (a1)) (ji12)) (ji16)) ji14).bind fun bt281 => (if t278 = 0 then (if t280 = 0 then (if (t277 != t279) = true then (none) else (if ((bt281.2 == 0) != t277) = true then (none) else (if bt281.2 = 0 then (clochelaw03_VisitsLess.j2 k2 l0 (l0.length : Int) ji14 (Go.bits .or .i64 (Int.tmod (wrap64 (a1)) (ji12)) (ji16)) t277 bt281.1 false) else (clochelaw03_VisitsLess.j2 k2 l0 (l0.length : Int) ji14 (Go.bits .or .i64 (Int.tmod (wrap64 (a1)) (ji12)) (ji16)) t277 bt281.1 (bt281.2 != 10))))) else (none)) else (none))) = some r := H
                      have A28 := Aside0.mk A280
                      clear A280
                      replace H := Option.bind_eq_some_iff.mp H
                      obtain ⟨⟨t281, t282⟩, A290, H⟩ := H
                      replace H : (if t278 = 0 then (if t280 = 0 then (if (t277 != t279) = true then (none) else (if ((t282 == 0) != t277) = true then (none) else (if t282 = 0 then (clochelaw03_VisitsLess.j2 k2 l0 (l0.length : Int) ji14 (Go.bits .or .i64 (Int.tmod (wrap64 (a1)) (ji12)) (ji16)) t277 t281 false) else (clochelaw03_VisitsLess.j2 k2 l0 (l0.length : Int) ji14 (Go.bits .or .i64 (Int.tmod (wrap64 (a1)) (ji12)) (ji16)) t277 t281 (t282 != 10))))) else (none)) else (none)) = some r := H
                      have A29 := Aside0.mk A290
                      clear A290
                      have HC30 := Aside0.mk H
                      clear H
                      go_upto_region 16 with (first | (go_at_call 24; (with_reducible refine (visits_Wins.calls k2 _ _ l0 (Go.bits .or .i64 (Int.tmod (wrap64 (a1)) (ji12)) (ji16)) ji14 t277 t278 _ ?side1 ?side2 A25.out).mono ?_); (case side1 => repeat (first | exact (Kd.C_below HR0.out HB.out) | (with_reducible refine Kd.C_alloc ?_ _) | (with_reducible refine Kd.C_drewN ?_ _) | (with_reducible refine Kd.C_drew ?_))); (case side2 => exact HC0.out); rintro e w31 ⟨rfl, hb⟩; have n0_ := Aside0.mk (Kd.R_below (by (with_reducible repeat (first | apply Kd.R_alloc | apply Kd.R_drewN | apply Kd.R_drew)); exact HO_10.out) hb); have n1_ := Aside0.mk (below_step (by repeat (first | (with_reducible first | exact HB.out | apply below_alloc | apply pw_below_drewN | apply below_drew1) | exact HB.out)) hb); clear HO_10; clear HB; have HO_10 := n0_; have HB := n1_; clear n0_ n1_; (try clear hb); (try clear hb2); (try clear hk); (try clear hi); obtain ⟨Ao32, co32, eo32⟩ := Kd.R_slice HO_10.out; subst eo32) | (go_at_call 24; (with_reducible refine (visits_Wins.calls k2 _ _ t274 ji27 x11_2 t279 t280 _ ?side1 ?side2 A28.out).mono ?_); (case side1 => repeat (first | exact (Kd.R_reads' HO_10.out).2.2 | (with_reducible refine Kd.C_alloc ?_ _) | (with_reducible refine Kd.C_drewN ?_ _) | (with_reducible refine Kd.C_drew ?_))); (case side2 => exact (Kd.R_reads' HO_10.out).2.1); rintro e w33 ⟨rfl, hb⟩; have n0_ := Aside0.mk (Kd.R_below (by (with_reducible repeat (first | apply Kd.R_alloc | apply Kd.R_drewN | apply Kd.R_drew)); exact HO_10.out) hb); have n1_ := Aside0.mk (below_step (by repeat (first | (with_reducible first | exact HB.out | apply below_alloc | apply pw_below_drewN | apply below_drew1) | exact HB.out)) hb); clear HO_10; clear HB; have HO_10 := n0_; have HB := n1_; clear n0_ n1_; (try clear hb); (try clear hb2); (try clear hk); (try clear hi)) | (go_at_call 26; (with_reducible refine (visits_Move.calls k2 _ _ l0 (Go.bits .or .i64 (Int.tmod (wrap64 (a1)) (ji12)) (ji16)) ji14 t281 t282 _ ?side1 ?side2 A29.out).mono ?_); (case side1 => repeat (first | exact (Kd.C_below HR0.out HB.out) | (with_reducible refine Kd.C_alloc ?_ _) | (with_reducible refine Kd.C_drewN ?_ _) | (with_reducible refine Kd.C_drew ?_))); (case side2 => exact HC0.out); rintro e w34 ⟨rfl, hb⟩; have n0_ := Aside0.mk (Kd.R_below (by (with_reducible repeat (first | apply Kd.R_alloc | apply Kd.R_drewN | apply Kd.R_drew)); exact HO_10.out) hb); have n1_ := Aside0.mk (below_step (by repeat (first | (with_reducible first | exact HB.out | apply below_alloc | apply pw_below_drewN | apply below_drew1) | exact HB.out)) hb); clear HO_10; clear HB; have HO_10 := n0_; have HB := n1_; clear n0_ n1_; (try clear hb); (try clear hb2); (try clear hk); (try clear hi)))
                      repeat (go_quiet (first | (go_at_call 24; (with_reducible refine (visits_Wins.calls k2 _ _ l0 (Go.bits .or .i64 (Int.tmod (wrap64 (a1)) (ji12)) (ji16)) ji14 t277 t278 _ ?side1 ?side2 A25.out).mono ?_); (case side1 => repeat (first | exact (Kd.C_below HR0.out HB.out) | (with_reducible refine Kd.C_alloc ?_ _) | (with_reducible refine Kd.C_drewN ?_ _) | (with_reducible refine Kd.C_drew ?_))); (case side2 => exact HC0.out); rintro e w31 ⟨rfl, hb⟩; have n0_ := Aside0.mk (Kd.R_below (by (with_reducible repeat (first | apply Kd.R_alloc | apply Kd.R_drewN | apply Kd.R_drew)); exact HO_10.out) hb); have n1_ := Aside0.mk (below_step (by repeat (first | (with_reducible first | exact HB.out | apply below_alloc | apply pw_below_drewN | apply below_drew1) | exact HB.out)) hb); clear HO_10; clear HB; have HO_10 := n0_; have HB := n1_; clear n0_ n1_; (try clear hb); (try clear hb2); (try clear hk); (try clear hi); obtain ⟨Ao32, co32, eo32⟩ := Kd.R_slice HO_10.out; subst eo32) | (go_at_call 24; (with_reducible refine (visits_Wins.calls k2 _ _ t274 ji27 x11_2 t279 t280 _ ?side1 ?side2 A28.out).mono ?_); (case side1 => repeat (first | exact (Kd.R_reads' HO_10.out).2.2 | (with_reducible refine Kd.C_alloc ?_ _) | (with_reducible refine Kd.C_drewN ?_ _) | (with_reducible refine Kd.C_drew ?_))); (case side2 => exact (Kd.R_reads' HO_10.out).2.1); rintro e w33 ⟨rfl, hb⟩; have n0_ := Aside0.mk (Kd.R_below (by (with_reducible repeat (first | apply Kd.R_alloc | apply Kd.R_drewN | apply Kd.R_drew)); exact HO_10.out) hb); have n1_ := Aside0.mk (below_step (by repeat (first | (with_reducible first | exact HB.out | apply below_alloc | apply pw_below_drewN | apply below_drew1) | exact HB.out)) hb); clear HO_10; clear HB; have HO_10 := n0_; have HB := n1_; clear n0_ n1_; (try clear hb); (try clear hb2); (try clear hk); (try clear hi)) | (go_at_call 26; (with_reducible refine (visits_Move.calls k2 _ _ l0 (Go.bits .or .i64 (Int.tmod (wrap64 (a1)) (ji12)) (ji16)) ji14 t281 t282 _ ?side1 ?side2 A29.out).mono ?_); (case side1 => repeat (first | exact (Kd.C_below HR0.out HB.out) | (with_reducible refine Kd.C_alloc ?_ _) | (with_reducible refine Kd.C_drewN ?_ _) | (with_reducible refine Kd.C_drew ?_))); (case side2 => exact HC0.out); rintro e w34 ⟨rfl, hb⟩; have n0_ := Aside0.mk (Kd.R_below (by (with_reducible repeat (first | apply Kd.R_alloc | apply Kd.R_drewN | apply Kd.R_drew)); exact HO_10.out) hb); have n1_ := Aside0.mk (below_step (by repeat (first | (with_reducible first | exact HB.out | apply below_alloc | apply pw_below_drewN | apply below_drew1) | exact HB.out)) hb); clear HO_10; clear HB; have HO_10 := n0_; have HB := n1_; clear n0_ n1_; (try clear hb); (try clear hb2); (try clear hk); (try clear hi))); go_upto_region 16 with (first | (go_at_call 24; (with_reducible refine (visits_Wins.calls k2 _ _ l0 (Go.bits .or .i64 (Int.tmod (wrap64 (a1)) (ji12)) (ji16)) ji14 t277 t278 _ ?side1 ?side2 A25.out).mono ?_); (case side1 => repeat (first | exact (Kd.C_below HR0.out HB.out) | (with_reducible refine Kd.C_alloc ?_ _) | (with_reducible refine Kd.C_drewN ?_ _) | (with_reducible refine Kd.C_drew ?_))); (case side2 => exact HC0.out); rintro e w31 ⟨rfl, hb⟩; have n0_ := Aside0.mk (Kd.R_below (by (with_reducible repeat (first | apply Kd.R_alloc | apply Kd.R_drewN | apply Kd.R_drew)); exact HO_10.out) hb); have n1_ := Aside0.mk (below_step (by repeat (first | (with_reducible first | exact HB.out | apply below_alloc | apply pw_below_drewN | apply below_drew1) | exact HB.out)) hb); clear HO_10; clear HB; have HO_10 := n0_; have HB := n1_; clear n0_ n1_; (try clear hb); (try clear hb2); (try clear hk); (try clear hi); obtain ⟨Ao32, co32, eo32⟩ := Kd.R_slice HO_10.out; subst eo32) | (go_at_call 24; (with_reducible refine (visits_Wins.calls k2 _ _ t274 ji27 x11_2 t279 t280 _ ?side1 ?side2 A28.out).mono ?_); (case side1 => repeat (first | exact (Kd.R_reads' HO_10.out).2.2 | (with_reducible refine Kd.C_alloc ?_ _) | (with_reducible refine Kd.C_drewN ?_ _) | (with_reducible refine Kd.C_drew ?_))); (case side2 => exact (Kd.R_reads' HO_10.out).2.1); rintro e w33 ⟨rfl, hb⟩; have n0_ := Aside0.mk (Kd.R_below (by (with_reducible repeat (first | apply Kd.R_alloc | apply Kd.R_drewN | apply Kd.R_drew)); exact HO_10.out) hb); have n1_ := Aside0.mk (below_step (by repeat (first | (with_reducible first | exact HB.out | apply below_alloc | apply pw_below_drewN | apply below_drew1) | exact HB.out)) hb); clear HO_10; clear HB; have HO_10 := n0_; have HB := n1_; clear n0_ n1_; (try clear hb); (try clear hb2); (try clear hk); (try clear hi)) | (go_at_call 26; (with_reducible refine (visits_Move.calls k2 _ _ l0 (Go.bits .or .i64 (Int.tmod (wrap64 (a1)) (ji12)) (ji16)) ji14 t281 t282 _ ?side1 ?side2 A29.out).mono ?_); (case side1 => repeat (first | exact (Kd.C_below HR0.out HB.out) | (with_reducible refine Kd.C_alloc ?_ _) | (with_reducible refine Kd.C_drewN ?_ _) | (with_reducible refine Kd.C_drew ?_))); (case side2 => exact HC0.out); rintro e w34 ⟨rfl, hb⟩; have n0_ := Aside0.mk (Kd.R_below (by (with_reducible repeat (first | apply Kd.R_alloc | apply Kd.R_drewN | apply Kd.R_drew)); exact HO_10.out) hb); have n1_ := Aside0.mk (below_step (by repeat (first | (with_reducible first | exact HB.out | apply below_alloc | apply pw_below_drewN | apply below_drew1) | exact HB.out)) hb); clear HO_10; clear HB; have HO_10 := n0_; have HB := n1_; clear n0_ n1_; (try clear hb); (try clear hb2); (try clear hk); (try clear hi))))
                      (try simp only [Act.put, List.setIfInBounds_toArray, List.set_cons_zero, List.set_cons_succ])
                      go_cut [107] (fun v107 wc => ∃ (kq : Nat) (x107_29 : Bool), v107 = .bool x107_29 ∧ Aside0 (clochelaw03_VisitsLess.j2 kq l0 (l0.length : Int) ji14 (Go.bits .or .i64 (Int.tmod (wrap64 (a1)) (ji12)) (ji16)) t277 t281 x107_29 = some r) ∧ Aside0 (kq ≤ k2) ∧ Aside0 (Below w.heap.size w wc))
                      case first =>
                        have H := HC30.out
                        clear HC30
                        by_cases c35 : t278 = 0
                        · rw [if_pos c35] at H
                          have c35b0 : (t278 == 0) = true := beq_iff_eq.mpr c35
                          have c35b1 : (t278 != 0) = false := bne_eq_false_iff_eq.mpr c35
                          clear c35
                          (first | rw [c35b0] | (simp only [i64_w, i32_w]; rw [c35b0]) | skip)
                          by_cases c36 : t280 = 0
                          · rw [if_pos c36] at H
                            have c36b0 : (t280 == 0) = true := beq_iff_eq.mpr c36
                            have c36b1 : (t280 != 0) = false := bne_eq_false_iff_eq.mpr c36
                            clear c36
                            by_cases c37 : (t277 != t279) = true
                            · rw [if_pos c37] at H
                              exact absurd H (by simp)
                            · rw [if_neg c37] at H
                              have c37b0 : (t277 != t279) = false := by simpa using c37
                              (try (have c37b1 : decide (t277 = t279) = true := by simpa using c37))
                              (try (have c37b2 : (t277 == t279) = true := by simpa using c37))
                              clear c37
                              by_cases c38 : ((t282 == 0) != t277) = true
                              · rw [if_pos c38] at H
                                exact absurd H (by simp)
                              · rw [if_neg c38] at H
                                have c38b0 : ((t282 == 0) != t277) = false := by simpa using c38
                                (try (have c38b1 : decide ((t282 == 0) = t277) = true := by simpa using c38))
                                (try (have c38b2 : ((t282 == 0) == t277) = true := by simpa using c38))
                                clear c38
                                by_cases c39 : t282 = 0
                                · rw [if_pos c39] at H
                                  have c39b0 : (t282 == 0) = true := beq_iff_eq.mpr c39
                                  obtain rfl : t277 = true := by (first | exact absurd c39b0 (by decide) | (cases t277 <;> first | rfl | (rw [c39b0] at c38b0; exact absurd c38b0 (by decide))))
                                  have c39b1 : (t282 != 0) = false := bne_eq_false_iff_eq.mpr c39
                                  clear c39
                                  have H' := Aside0.mk H
                                  clear H
                                  go_wp2
                                  repeat (go_quiet (fail); try go_wp2)
                                  go_meet
                                  case rel => exact ⟨_, (false), (by first | rfl | (simp; done) | (simp [*]; done)), H', ⟨by have := HJ3.out; have := HK2.out; first | omega | exact Nat.le_refl _⟩, ⟨by repeat (first | (with_reducible first | exact HB.out | apply below_alloc | apply pw_below_drewN | apply below_drew1) | exact HB.out)⟩⟩
                                · rw [if_neg c39] at H
                                  have c39b0 : (t282 == 0) = false := beq_eq_false_iff_ne.mpr c39
                                  obtain rfl : t277 = false := by (first | exact absurd c39b0 (by decide) | (cases t277 <;> first | rfl | (rw [c39b0] at c38b0; exact absurd c38b0 (by decide))))
                                  have c39b1 : (t282 != 0) = true := bne_iff_ne.mpr c39
                                  have H' := Aside0.mk H
                                  clear H
                                  go_wp2
                                  repeat (go_quiet (fail); try go_wp2)
                                  go_meet
                                  case rel => exact ⟨_, ((t282 != 10)), (by first | rfl | (simp; done) | (simp [*]; done)), H', ⟨by have := HJ3.out; have := HK2.out; first | omega | exact Nat.le_refl _⟩, ⟨by repeat (first | (with_reducible first | exact HB.out | apply below_alloc | apply pw_below_drewN | apply below_drew1) | exact HB.out)⟩⟩
                          · rw [if_neg c36] at H
                            exact absurd H (by simp)
                        · rw [if_neg c35] at H
                          exact absurd H (by simp)
                      case rest =>
                        clear HC30
                        try clear c1
                        try clear c2
                        try clear p2
                        try clear c3
                        try clear c6
                        try clear p6
                        try clear c8
                        try clear c11
                        try clear c11b0
                        try clear c11b1
                        try clear c11b2
                        try clear c13
                        try clear c13b0
                        try clear c13b1
                        try clear c15
                        try clear c15b0
                        try clear c15b1
                        try clear c17
                        try clear c17b0
                        try clear c18
                        try clear c18b0
                        try clear c21
                        try clear c21b0
                        try clear c22
                        try clear c22b0
                        try clear c22b1
                        try clear c24
                        try clear c24b0
                        try clear c24b1
                        try clear c26
                        try clear c26b0
                        try clear c26b1
                        try clear c35
                        try clear c35b0
                        try clear c35b1
                        try clear c36
                        try clear c36b0
                        try clear c36b1
                        try clear c37
                        try clear c37b0
                        try clear c37b1
                        try clear c37b2
                        try clear c38
                        try clear c38b0
                        try clear c38b1
                        try clear c38b2
                        try clear c39
                        try clear c39b0
                        try clear c39b1
                        try clear p2
                        try clear p6
                        obtain ⟨kq, x107_29, rfl, HA, HJ29, HB⟩ := hcut
                        cases kq with
                        | zero => exact absurd HA.out (by simp [clochelaw03_VisitsLess.j2])
                        | succ kj29 =>
                          have H := HA.out
                          clear HA
                          simp only [clochelaw03_VisitsLess.j2] at H
                          by_cases c40 : x107_29 = true
                          · subst c40
                            have H1 : (none) = some r := by rw [if_pos rfl] at H; exact H
                            clear H
                            have H := H1
                            clear H1
                            exact absurd H (by simp)
                          · replace c40 := Bool.eq_false_iff.mpr c40
                            subst c40
                            have H1 : (if t277 = true then (if t281 < 0 then (none) else (if t281 ≥ (l0.length : Int) then (none) else (if 0 ≤ ji14 then (if ji14 < (l0.length : Int) then (if 0 ≤ t281 then (clochelaw03_VisitsLess.j3 kj29 l0 (Go.bits .or .i64 (Int.tmod (wrap64 (a1)) (ji12)) (ji16)) t281 ((Int.tmod (shr .i64 (Go.bits .andNot .i64 (rd l0 ji14) (Go.bits .or .i64 (Int.tmod (wrap64 (a1)) (ji12)) (ji16))) t281) 2) == 0)) else (none)) else (none)) else (none)))) else (if t281 = 0 then ((clochelaw03_alive.f kj29).bind fun t283 => (some t283)) else (none))) = some r := by rw [if_neg (show ¬ (false = true) by decide)] at H; exact H
                            clear H
                            have H := H1
                            clear H1
                            by_cases c41 : t277 = true
                            · subst c41
                              have H1 : (if t281 < 0 then (none) else (if t281 ≥ (l0.length : Int) then (none) else (if 0 ≤ ji14 then (if ji14 < (l0.length : Int) then (if 0 ≤ t281 then (clochelaw03_VisitsLess.j3 kj29 l0 (Go.bits .or .i64 (Int.tmod (wrap64 (a1)) (ji12)) (ji16)) t281 ((Int.tmod (shr .i64 (Go.bits .andNot .i64 (rd l0 ji14) (Go.bits .or .i64 (Int.tmod (wrap64 (a1)) (ji12)) (ji16))) t281) 2) == 0)) else (none)) else (none)) else (none)))) = some r := by rw [if_pos rfl] at H; exact H
                              clear H
                              have H := H1
                              clear H1
                              have HC42 := Aside0.mk H
                              clear H
                              go_upto_region 20 with (fail)
                              repeat (go_quiet (fail); go_upto_region 20 with (fail))
                              go_cut [133] (fun v133 wc => ∃ (kq : Nat) (x133_41 : Bool), v133 = .bool x133_41 ∧ Aside0 (clochelaw03_VisitsLess.j3 kq l0 (Go.bits .or .i64 (Int.tmod (wrap64 (a1)) (ji12)) (ji16)) t281 x133_41 = some r) ∧ Aside0 (kq ≤ kj29) ∧ Aside0 (Below w.heap.size w wc))
                              case first =>
                                have H := HC42.out
                                clear HC42
                                by_cases c43 : t281 < 0
                                · rw [if_pos c43] at H
                                  exact absurd H (by simp)
                                · rw [if_neg c43] at H
                                  have c43b0 : decide (t281 < 0) = false := decide_eq_false c43
                                  clear c43
                                  (first | rw [c43b0] | (simp only [i64_w, i32_w]; rw [c43b0]) | skip)
                                  by_cases c44 : t281 ≥ (l0.length : Int)
                                  · rw [if_pos c44] at H
                                    exact absurd H (by simp)
                                  · rw [if_neg c44] at H
                                    have c44b0 : decide ((l0.length : Int) ≤ t281) = false := decide_eq_false c44
                                    clear c44
                                    by_cases c45 : 0 ≤ ji14
                                    · rw [if_pos c45] at H
                                      have c45b0 : decide (0 ≤ ji14) = true := decide_eq_true c45
                                      clear c45
                                      by_cases c46 : ji14 < (l0.length : Int)
                                      · rw [if_pos c46] at H
                                        have c46b0 : decide (ji14 < (l0.length : Int)) = true := decide_eq_true c46
                                        clear c46
                                        by_cases c47 : 0 ≤ t281
                                        · rw [if_pos c47] at H
                                          have c47b0 := eq_true c47
                                          have c47b1 : decide (0 ≤ t281) = true := decide_eq_true c47
                                          clear c47
                                          obtain ⟨ji48, hji48⟩ : ∃ j_ : Int, (shr .i64 (Go.bits .andNot .i64 (rd l0 ji14) (Go.bits .or .i64 (Int.tmod (wrap64 (a1)) (ji12)) (ji16))) t281) = j_ := ⟨_, rfl⟩
                                          replace H : (clochelaw03_VisitsLess.j3 kj29 l0 (Go.bits .or .i64 (Int.tmod (wrap64 (a1)) (ji12)) (ji16)) t281 ((Int.tmod (ji48) 2) == 0)) = some r := by first | (rw [hji48] at H; exact H) | (simp only [hji48] at H ⊢; exact H)
                                          have hji48_ : ((Go.bits .andNot .i64 (rd l0 ji14) (Go.bits .or .i64 (Int.tmod (wrap64 (a1)) (ji12)) (ji16))) / 2 ^ min t281.toNat 64) = ji48 := hji48
                                          have hji48z : t281 ≤ 64 → ((Go.bits .andNot .i64 (rd l0 ji14) (Go.bits .or .i64 (Int.tmod (wrap64 (a1)) (ji12)) (ji16))) / 2 ^ t281.toNat) = ji48 := shr_small hji48
                                          have H' := Aside0.mk H
                                          clear H
                                          have p284 : 0 ≤ (ji14 : Int) := of_decide_eq_true (by first | (with_reducible assumption) | assumption)
                                          have q284 : ji14 < (l0.length : Int) := of_decide_eq_true (by first | (with_reducible assumption) | assumption)
                                          obtain ⟨ad284, e284, hx284_0⟩ := Kd.at_int HR0.out ji14 p284 q284
                                          cases e284
                                          replace hx284_0 := (HB.out.cell (World.block_lt_of_cell? w _ hx284_0)).trans hx284_0
                                          replace p284 := eq_true p284
                                          replace q284 := eq_true q284
                                          go_wp2
                                          repeat (go_quiet (fail); try go_wp2)
                                          go_meet
                                          case rel => exact ⟨_, (((Int.tmod (ji48) 2) == 0)), (by first | rfl | (simp; done) | (simp only [← hji48] <;> (first | rfl | simp)) | (simp [*]; done)), H', ⟨by have := HJ3.out; have := HK2.out; have := HJ29.out; first | omega | exact Nat.le_refl _⟩, ⟨by repeat (first | (with_reducible first | exact HB.out | apply below_alloc | apply pw_below_drewN | apply below_drew1) | exact HB.out)⟩⟩
                                        · rw [if_neg c47] at H
                                          exact absurd H (by simp)
                                      · rw [if_neg c46] at H
                                        exact absurd H (by simp)
                                    · rw [if_neg c45] at H
                                      exact absurd H (by simp)
                              case rest =>
                                clear HC42
                                try clear c1
                                try clear c2
                                try clear p2
                                try clear q2
                                try clear hx2
                                try clear c3
                                try clear c4
                                try clear c6
                                try clear p6
                                try clear c8
                                try clear c11
                                try clear c11b0
                                try clear c11b1
                                try clear c11b2
                                try clear c13
                                try clear c13b0
                                try clear c13b1
                                try clear c15
                                try clear c15b0
                                try clear c15b1
                                try clear c17
                                try clear c17b0
                                try clear c18
                                try clear c18b0
                                try clear c21
                                try clear c21b0
                                try clear c22
                                try clear c22b0
                                try clear c22b1
                                try clear c24
                                try clear c24b0
                                try clear c24b1
                                try clear c26
                                try clear c26b0
                                try clear c26b1
                                try clear p28
                                try clear q28
                                try clear hx28
                                try clear c35
                                try clear c35b0
                                try clear c35b1
                                try clear c36
                                try clear c36b0
                                try clear c36b1
                                try clear c37
                                try clear c37b0
                                try clear c37b1
                                try clear c37b2
                                try clear c38
                                try clear c38b0
                                try clear c38b1
                                try clear c38b2
                                try clear c39
                                try clear c39b0
                                try clear c39b1
                                try clear c40
                                try clear c41
                                try clear c43
                                try clear c43b0
                                try clear c44
                                try clear c44b0
                                try clear c45
                                try clear c45b0
                                try clear c46
                                try clear c46b0
                                try clear c47
                                try clear c47b0
                                try clear c47b1
                                try clear hx284_0
                                try clear p2
                                try clear p284
                                try clear p6
                                try clear q284
                                obtain ⟨kq, x133_41, rfl, HA, HJ41, HB⟩ := hcut
                                cases kq with
                                | zero => exact absurd HA.out (by simp [clochelaw03_VisitsLess.j3])
                                | succ kj41 =>
                                  have H := HA.out
                                  clear HA
                                  simp only [clochelaw03_VisitsLess.j3] at H
                                  by_cases c49 : x133_41 = true
                                  · subst c49
                                    have H1 : (none) = some r := by rw [if_pos rfl] at H; exact H
                                    clear H
                                    have H := H1
                                    clear H1
                                    exact absurd H (by simp)
                                  · replace c49 := Bool.eq_false_iff.mpr c49
                                    subst c49
                                    have H1 : (if 0 ≤ t281 then ((visits_Wins.f kj41 l0 (Go.bits .or .i64 (Go.bits .or .i64 (Int.tmod (wrap64 (a1)) (ji12)) (ji16)) (shl .i64 1 t281)) t281).bind fun bt285 => (if bt285.2 = 0 then (if bt285.1 = true then (none) else ((clochelaw03_alive.f kj41).bind fun t287 => (some t287))) else (none))) else (none)) = some r := by rw [if_neg (show ¬ (false = true) by decide)] at H; exact H
                                    clear H
                                    have H := H1
                                    clear H1
                                    by_cases c50 : 0 ≤ t281
                                    · rw [if_pos c50] at H
                                      have c50b0 := eq_true c50
                                      have c50b1 : decide (0 ≤ t281) = true := decide_eq_true c50
                                      clear c50
                                      obtain ⟨ji51, hji51⟩ : ∃ j_ : Int, (shl .i64 1 t281) = j_ := ⟨_, rfl⟩
                                      replace H : ((visits_Wins.f kj41 l0 (Go.bits .or .i64 (Go.bits .or .i64 (Int.tmod (wrap64 (a1)) (ji12)) (ji16)) (ji51)) t281).bind fun bt285 => (if bt285.2 = 0 then (if bt285.1 = true then (none) else ((clochelaw03_alive.f kj41).bind fun t287 => (some t287))) else (none))) = some r := by first | (rw [hji51] at H; exact H) | (simp only [hji51] at H ⊢; exact H)
                                      have hji51_ : (IntKind.i64.wrap (1 * 2 ^ min t281.toNat 64)) = ji51 := hji51
                                      have hji51z : t281 ≤ 64 → (IntKind.i64.wrap (1 * 2 ^ t281.toNat)) = ji51 := shl_small hji51
                                      have hji51u : (IntKind.i64.wrap (2 ^ min t281.toNat 64)) = ji51 := by have h_ := hji51_; rw [Int.one_mul] at h_; exact h_
                                      have hji51v : t281 ≤ 64 → (IntKind.i64.wrap (2 ^ t281.toNat)) = ji51 := fun hle_ => by have h_ := hji51z hle_; rw [Int.one_mul] at h_; exact h_
                                      have hji51y : (wrap64 (1 * 2 ^ min t281.toNat 64)) = ji51 := (i64_w _).symm.trans hji51_
                                      have hji51x : t281 ≤ 64 → (wrap64 (1 * 2 ^ t281.toNat)) = ji51 := fun h_ => (i64_w _).symm.trans (hji51z h_)
                                      replace H := Option.bind_eq_some_iff.mp H
                                      obtain ⟨⟨t285, t286⟩, A520, H⟩ := H
                                      replace H : (if t286 = 0 then (if t285 = true then (none) else ((clochelaw03_alive.f kj41).bind fun t287 => (some t287))) else (none)) = some r := H
                                      have A52 := Aside0.mk A520
                                      clear A520
                                      by_cases c53 : t286 = 0
                                      · rw [if_pos c53] at H
                                        have c53b0 : (t286 == 0) = true := beq_iff_eq.mpr c53
                                        have c53b1 : (t286 != 0) = false := bne_eq_false_iff_eq.mpr c53
                                        clear c53
                                        by_cases c54 : t285 = true
                                        · subst c54
                                          have H1 : (none) = some r := by rw [if_pos rfl] at H; exact H
                                          clear H
                                          have H := H1
                                          clear H1
                                          exact absurd H (by simp)
                                        · replace c54 := Bool.eq_false_iff.mpr c54
                                          subst c54
                                          have H1 : ((clochelaw03_alive.f kj41).bind fun t287 => (some t287)) = some r := by rw [if_neg (show ¬ (false = true) by decide)] at H; exact H
                                          clear H
                                          have H := H1
                                          clear H1
                                          replace H := Option.bind_eq_some_iff.mp H
                                          obtain ⟨t287, A550, H⟩ := H
                                          replace H : (some t287) = some r := H
                                          have A55 := Aside0.mk A550
                                          clear A550
                                          obtain rfl := Option.some.inj H
                                          go_wp2_with (first | (go_at_call 24; (with_reducible refine (visits_Wins.calls kj41 _ _ l0 (Go.bits .or .i64 (Go.bits .or .i64 (Int.tmod (wrap64 (a1)) (ji12)) (ji16)) (ji51)) t281 false t286 _ ?side1 ?side2 A52.out).mono ?_); (case side1 => repeat (first | exact (Kd.C_below HR0.out HB.out) | (with_reducible refine Kd.C_alloc ?_ _) | (with_reducible refine Kd.C_drewN ?_ _) | (with_reducible refine Kd.C_drew ?_))); (case side2 => exact HC0.out); rintro e w56 ⟨rfl, hb⟩; have n0_ := Aside0.mk (below_step (by repeat (first | (with_reducible first | exact HB.out | apply below_alloc | apply pw_below_drewN | apply below_drew1) | exact HB.out)) hb); clear HB; have HB := n0_; clear n0_; (try clear hb); (try clear hb2); (try clear hk); (try clear hi)) | (go_at_call 16; (with_reducible refine (clochelaw03_alive.calls kj41  t287 _ A55.out (by repeat (first | exact HT0.out | exact tabB HT0.out HB.out | (refine tab_alloc ?_ _) | (refine tab_drewN ?_ _) | (refine tab_drew ?_)))).mono ?_); rintro e w57 ⟨rfl, hb⟩; have n0_ := Aside0.mk (below_step (by repeat (first | (with_reducible first | exact HB.out | apply below_alloc | apply pw_below_drewN | apply below_drew1) | exact HB.out)) hb); clear HB; have HB := n0_; clear n0_; (try clear hb); (try clear hb2); (try clear hk); (try clear hi)))
                                          repeat (go_quiet (first | (go_at_call 24; (with_reducible refine (visits_Wins.calls kj41 _ _ l0 (Go.bits .or .i64 (Go.bits .or .i64 (Int.tmod (wrap64 (a1)) (ji12)) (ji16)) (ji51)) t281 false t286 _ ?side1 ?side2 A52.out).mono ?_); (case side1 => repeat (first | exact (Kd.C_below HR0.out HB.out) | (with_reducible refine Kd.C_alloc ?_ _) | (with_reducible refine Kd.C_drewN ?_ _) | (with_reducible refine Kd.C_drew ?_))); (case side2 => exact HC0.out); rintro e w56 ⟨rfl, hb⟩; have n0_ := Aside0.mk (below_step (by repeat (first | (with_reducible first | exact HB.out | apply below_alloc | apply pw_below_drewN | apply below_drew1) | exact HB.out)) hb); clear HB; have HB := n0_; clear n0_; (try clear hb); (try clear hb2); (try clear hk); (try clear hi)) | (go_at_call 16; (with_reducible refine (clochelaw03_alive.calls kj41  t287 _ A55.out (by repeat (first | exact HT0.out | exact tabB HT0.out HB.out | (refine tab_alloc ?_ _) | (refine tab_drewN ?_ _) | (refine tab_drew ?_)))).mono ?_); rintro e w57 ⟨rfl, hb⟩; have n0_ := Aside0.mk (below_step (by repeat (first | (with_reducible first | exact HB.out | apply below_alloc | apply pw_below_drewN | apply below_drew1) | exact HB.out)) hb); clear HB; have HB := n0_; clear n0_; (try clear hb); (try clear hb2); (try clear hk); (try clear hi))); try go_wp2_with (first | (go_at_call 24; (with_reducible refine (visits_Wins.calls kj41 _ _ l0 (Go.bits .or .i64 (Go.bits .or .i64 (Int.tmod (wrap64 (a1)) (ji12)) (ji16)) (ji51)) t281 false t286 _ ?side1 ?side2 A52.out).mono ?_); (case side1 => repeat (first | exact (Kd.C_below HR0.out HB.out) | (with_reducible refine Kd.C_alloc ?_ _) | (with_reducible refine Kd.C_drewN ?_ _) | (with_reducible refine Kd.C_drew ?_))); (case side2 => exact HC0.out); rintro e w56 ⟨rfl, hb⟩; have n0_ := Aside0.mk (below_step (by repeat (first | (with_reducible first | exact HB.out | apply below_alloc | apply pw_below_drewN | apply below_drew1) | exact HB.out)) hb); clear HB; have HB := n0_; clear n0_; (try clear hb); (try clear hb2); (try clear hk); (try clear hi)) | (go_at_call 16; (with_reducible refine (clochelaw03_alive.calls kj41  t287 _ A55.out (by repeat (first | exact HT0.out | exact tabB HT0.out HB.out | (refine tab_alloc ?_ _) | (refine tab_drewN ?_ _) | (refine tab_drew ?_)))).mono ?_); rintro e w57 ⟨rfl, hb⟩; have n0_ := Aside0.mk (below_step (by repeat (first | (with_reducible first | exact HB.out | apply below_alloc | apply pw_below_drewN | apply below_drew1) | exact HB.out)) hb); clear HB; have HB := n0_; clear n0_; (try clear hb); (try clear hb2); (try clear hk); (try clear hi))))
                                          go_ret
                                          exact ⟨by first | rfl | (simp [errW_none, errW_some] <;> rfl) | (simp only [← hji12, ← hji14, ← hji16, ← hji27, ← hji51]; first | rfl | (simp [errW_none, errW_some] <;> rfl)) | (simp [*, errW_none, errW_some] <;> rfl), by repeat (first | (with_reducible first | exact HB.out | apply below_alloc | apply pw_below_drewN | apply below_drew1) | exact HB.out)⟩
                                      · rw [if_neg c53] at H
                                        exact absurd H (by simp)
                                    · rw [if_neg c50] at H
                                      exact absurd H (by simp)
                            · replace c41 := Bool.eq_false_iff.mpr c41
                              subst c41
                              have H1 : (if t281 = 0 then ((clochelaw03_alive.f kj29).bind fun t283 => (some t283)) else (none)) = some r := by rw [if_neg (show ¬ (false = true) by decide)] at H; exact H
                              clear H
                              have H := H1
                              clear H1
                              by_cases c58 : t281 = 0
                              · rw [if_pos c58] at H
                                have c58b0 : (t281 == 0) = true := beq_iff_eq.mpr c58
                                have c58b1 : (t281 != 0) = false := bne_eq_false_iff_eq.mpr c58
                                clear c58
                                replace H := Option.bind_eq_some_iff.mp H
                                obtain ⟨t283, A590, H⟩ := H
                                replace H : (some t283) = some r := H
                                have A59 := Aside0.mk A590
                                clear A590
                                obtain rfl := Option.some.inj H
                                go_wp2_with (first | (go_at_call 16; (with_reducible refine (clochelaw03_alive.calls kj29  t283 _ A59.out (by repeat (first | exact HT0.out | exact tabB HT0.out HB.out | (refine tab_alloc ?_ _) | (refine tab_drewN ?_ _) | (refine tab_drew ?_)))).mono ?_); rintro e w60 ⟨rfl, hb⟩; have n0_ := Aside0.mk (below_step (by repeat (first | (with_reducible first | exact HB.out | apply below_alloc | apply pw_below_drewN | apply below_drew1) | exact HB.out)) hb); clear HB; have HB := n0_; clear n0_; (try clear hb); (try clear hb2); (try clear hk); (try clear hi)))
                                repeat (go_quiet (first | (go_at_call 16; (with_reducible refine (clochelaw03_alive.calls kj29  t283 _ A59.out (by repeat (first | exact HT0.out | exact tabB HT0.out HB.out | (refine tab_alloc ?_ _) | (refine tab_drewN ?_ _) | (refine tab_drew ?_)))).mono ?_); rintro e w60 ⟨rfl, hb⟩; have n0_ := Aside0.mk (below_step (by repeat (first | (with_reducible first | exact HB.out | apply below_alloc | apply pw_below_drewN | apply below_drew1) | exact HB.out)) hb); clear HB; have HB := n0_; clear n0_; (try clear hb); (try clear hb2); (try clear hk); (try clear hi))); try go_wp2_with (first | (go_at_call 16; (with_reducible refine (clochelaw03_alive.calls kj29  t283 _ A59.out (by repeat (first | exact HT0.out | exact tabB HT0.out HB.out | (refine tab_alloc ?_ _) | (refine tab_drewN ?_ _) | (refine tab_drew ?_)))).mono ?_); rintro e w60 ⟨rfl, hb⟩; have n0_ := Aside0.mk (below_step (by repeat (first | (with_reducible first | exact HB.out | apply below_alloc | apply pw_below_drewN | apply below_drew1) | exact HB.out)) hb); clear HB; have HB := n0_; clear n0_; (try clear hb); (try clear hb2); (try clear hk); (try clear hi))))
                                go_ret
                                exact ⟨by first | rfl | (simp [errW_none, errW_some] <;> rfl) | (simp only [← hji12, ← hji14, ← hji16, ← hji27]; first | rfl | (simp [errW_none, errW_some] <;> rfl)) | (simp [*, errW_none, errW_some] <;> rfl), by repeat (first | (with_reducible first | exact HB.out | apply below_alloc | apply pw_below_drewN | apply below_drew1) | exact HB.out)⟩
                              · rw [if_neg c58] at H
                                exact absurd H (by simp)
                    · rw [if_neg c26] at H
                      exact absurd H (by simp)
            · rw [if_neg c15] at H
              exact absurd H (by simp)

/-- THE ONE PURE STATEMENT of clochelaw03_VisitsLess: yours. -/
def clochelaw03_VisitsLess.Pure : Prop := ∀ (l0 : List Int) (a1 : Int) (a2 : Int), l0.length ≤ maxLen → l0.length * 8 ≤ 140737488351232 → (∀ x ∈ l0, (Lit.int .i64 x).wf = true) → (Lit.int .u16 a1).wf = true → (Lit.int .u8 a2).wf = true → ∃ k, clochelaw03_VisitsLess.f k l0 a1 a2 = some true
theorem clochelaw03_VisitsLess.walk (P : clochelaw03_VisitsLess.Pure) (a0 : Option Addr) (len0 cap0 : Nat) (z0 : List Int) (a1 : Int) (a2 : Int) (w : World) (w0 : (a0 = none ∧ len0 = 0 ∧ cap0 = 0 ∧ z0 = []) ∨ ∃ x, a0 = some x ∧ len0 ≤ cap0 ∧ cap0 ≤ maxLen ∧ z0.length = cap0 ∧ (∀ i, i < z0.length → w.cell? (x.add i) = some (.int .i64 (z0.getD i 0))) ∧ ∀ n ∈ z0, (Lit.int .i64 n).wf = true) (y0 : len0 * 8 ≤ 140737488351232) (w1 : (Lit.int .u16 a1).wf = true) (w2 : (Lit.int .u8 a2).wf = true) (hT : Tab w) :
    Calls Tryd.prog 6 #[.slice a0 len0 cap0, .int .u16 a1, .int .u8 a2] w fun e w' => e = .returned (.bool true) ∧ Below w.heap.size w w' := by
  obtain ⟨l0, rfl, hr0, hm0, hw0, hc0⟩ := ReadsInt.ofRowC w0
  obtain ⟨k, h⟩ := P l0 a1 a2 hm0 y0 hw0 w1 w2
  refine (clochelaw03_VisitsLess.calls k _ _ l0 a1 a2 true w (Kd.C_of_reads (d := (0 : Int)) (h1 := fun _ => rfl) hr0) hc0 h hT).mono ?_
  rintro e w' ⟨rfl, hd⟩
  exact ⟨rfl, hd⟩

end Go.Proofs.YtadfcplobidmeaaDoor.Print
