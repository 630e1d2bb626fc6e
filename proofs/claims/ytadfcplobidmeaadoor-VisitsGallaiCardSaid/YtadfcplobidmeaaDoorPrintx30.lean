/- What the functions of the visits compute, printed by this repo's hand printer. -/
import Derived.Test.YtadfcplobidmeaaDoorPrintx0
import Derived.Test.YtadfcplobidmeaaDoorPrintx2
import Derived.Test.YtadfcplobidmeaaDoorPrintx5
import Derived.Test.YtadfcplobidmeaaDoorPrintx9
import Derived.Test.YtadfcplobidmeaaDoorPrintx10
import Derived.Test.YtadfcplobidmeaaDoorPrintx11
import Derived.Test.YtadfcplobidmeaaDoorPrintx22
import Derived.Test.YtadfcplobidmeaaDoorPrintx25
import Derived.Test.YtadfcplobidmeaaDoorPrintx27b
namespace Go.Proofs.YtadfcplobidmeaaDoor.Print
open Go.RowKit Go.Proofs.YtadfcplobidmeaaDoorW.PrintWords Go.Proofs.YtadfcplobidmeaaDoorW.PrintLast Go.Proofs.YtadfcplobidmeaaDoorW.PrintMore
attribute [local go_sem] max2_int min2_int max_two min_two max_three min_three max_four min_four   -- for this text's walks alone
set_option linter.unusedVariables false
set_option linter.unusedSimpArgs false

/-! ### clochelaw03_VisitsGallai: function 10 -/
mutual
def clochelaw03_VisitsGallai.j0 : Nat → List Int → Bool → Option (Bool)
  | 0, _, _ => none
  | k + 1, x0, x24 => if x24 = true then ((clochelaw03_alive.f k).bind fun t406 => (some t406)) else ((visits_Needed.f k x0).bind fun bt407 => (if bt407.2 = 0 then (if bt407.1 < 0 then (none) else (clochelaw03_VisitsGallai.j1 k x0 (x0.length : Int) bt407.1 (decide (bt407.1 ≥ (shl .i64 1 (x0.length : Int)))))) else (none)))
def clochelaw03_VisitsGallai.j1 : Nat → List Int → Int → Int → Bool → Option (Bool)
  | 0, _, _, _, _ => none
  | k + 1, x0, x3, x4, x44 => if x44 = true then (none) else (if 0 ≤ x3 then (clochelaw03_VisitsGallai.l0 k x0 x3 x4 (wrap64 ((wrap64 ((shl .i64 1 x3) - 1)) - x4)) 0 0) else (none))
def clochelaw03_VisitsGallai.l0 : Nat → List Int → Int → Int → Int → Int → Int → Option (Bool)
  | 0, _, _, _, _, _, _ => none
  | k + 1, x0, x3, x4, x6, x7, x8 => if x8 < x3 then (if 0 ≤ x8 then (if (Int.tmod (shr .i64 x4 x8) 2) = 1 then (if x8 < (x0.length : Int) then (if (Go.bits .and .i64 (rd x0 x8) x6) = 0 then (clochelaw03_VisitsGallai.l0 k x0 x3 x4 x6 x7 (wrap64 (x8 + 1))) else (clochelaw03_VisitsGallai.l0 k x0 x3 x4 x6 (wrap64 (x7 + (shl .i64 1 x8))) (wrap64 (x8 + 1)))) else (none)) else (clochelaw03_VisitsGallai.l0 k x0 x3 x4 x6 x7 (wrap64 (x8 + 1)))) else (none)) else ((visits_Parts.f k x0 x7).bind fun bt410 => ((visits_Odd.f k x0 x7).bind fun bt414 => ((visits_Barrier.f k x0).bind fun bt416 => (if bt410.2 = 0 then (if bt414.2 = 0 then (if bt416.2.2 = 0 then ((clocheref03_Size.f k x7).bind fun t419 => (clochelaw03_VisitsGallai.j3 k x6 bt410.1 bt414.1 ((wrap64 (bt414.1 - t419)) != bt416.2.1))) else (none)) else (none)) else (none)))))
def clochelaw03_VisitsGallai.j3 : Nat → Int → List Int → Int → Bool → Option (Bool)
  | 0, _, _, _, _ => none
  | k + 1, x6, x9, x10, x108 => if x108 = true then (none) else (clochelaw03_VisitsGallai.l1 k x6 x9 x10 0 0)
def clochelaw03_VisitsGallai.l1 : Nat → Int → List Int → Int → Int → Int → Option (Bool)
  | 0, _, _, _, _, _ => none
  | k + 1, x6, x9, x10, x15, x16 => if x16 < (x9.length : Int) then (if 0 ≤ x16 then (if (Go.bits .and .i64 (rd x9 x16) x6) = 0 then (clochelaw03_VisitsGallai.l1 k x6 x9 x10 x15 (wrap64 (x16 + 1))) else (if (Go.bits .andNot .i64 (rd x9 x16) x6) = 0 then ((clocheref03_Size.f k (rd x9 x16)).bind fun t424 => (if (Int.tmod t424 2) = 0 then (none) else (clochelaw03_VisitsGallai.l1 k x6 x9 x10 (wrap64 (x15 + 1)) (wrap64 (x16 + 1))))) else (none))) else (none)) else (if x15 = x10 then ((clochelaw03_alive.f k).bind fun t420 => (some t420)) else (none))
end
def clochelaw03_VisitsGallai.f (k : Nat) (l0 : List Int) : Option (Bool) := (clochelaw03_few.f l0 ([] : List (S43))).bind fun t404 => (if t404 = true then ((clocheref03_IsShop.f k l0).bind fun t405 => (clochelaw03_VisitsGallai.j0 k l0 (!t405))) else (clochelaw03_VisitsGallai.j0 k l0 true))
theorem clochelaw03_VisitsGallai.mono_l : ∀ k, (∀ y0 y1, LeO (clochelaw03_VisitsGallai.j0 k y0 y1) (clochelaw03_VisitsGallai.j0 (k + 1) y0 y1)) ∧ (∀ y0 y1 y2 y3, LeO (clochelaw03_VisitsGallai.j1 k y0 y1 y2 y3) (clochelaw03_VisitsGallai.j1 (k + 1) y0 y1 y2 y3)) ∧ (∀ y0 y1 y2 y3 y4 y5, LeO (clochelaw03_VisitsGallai.l0 k y0 y1 y2 y3 y4 y5) (clochelaw03_VisitsGallai.l0 (k + 1) y0 y1 y2 y3 y4 y5)) ∧ (∀ y0 y1 y2 y3, LeO (clochelaw03_VisitsGallai.j3 k y0 y1 y2 y3) (clochelaw03_VisitsGallai.j3 (k + 1) y0 y1 y2 y3)) ∧ (∀ y0 y1 y2 y3 y4, LeO (clochelaw03_VisitsGallai.l1 k y0 y1 y2 y3 y4) (clochelaw03_VisitsGallai.l1 (k + 1) y0 y1 y2 y3 y4))
  | 0 => ⟨fun _ _ r h => by simp [clochelaw03_VisitsGallai.j0] at h, fun _ _ _ _ r h => by simp [clochelaw03_VisitsGallai.j1] at h, fun _ _ _ _ _ _ r h => by simp [clochelaw03_VisitsGallai.l0] at h, fun _ _ _ _ r h => by simp [clochelaw03_VisitsGallai.j3] at h, fun _ _ _ _ _ r h => by simp [clochelaw03_VisitsGallai.l1] at h⟩
  | k + 1 => by
    obtain ⟨ih0, ih1, ih2, ih3, ih4⟩ := clochelaw03_VisitsGallai.mono_l k
    refine ⟨?_, ?_, ?_, ?_, ?_⟩
    · intro y0 y1
      unfold clochelaw03_VisitsGallai.j0
      repeat' first
      | (with_reducible exact ih0 _ _)
      | (with_reducible exact ih1 _ _ _ _)
      | (with_reducible exact ih2 _ _ _ _ _ _)
      | (with_reducible exact ih3 _ _ _ _)
      | (with_reducible exact ih4 _ _ _ _ _)
      | (with_reducible exact clochelaw03_alive.mono _)
      | (with_reducible exact clocheref03_IsShop.mono _ _)
      | (with_reducible exact clocheref03_Size.mono _ _)
      | (with_reducible exact visits_Barrier.mono _ _)
      | (with_reducible exact visits_Needed.mono _ _)
      | (with_reducible exact visits_Odd.mono _ _ _)
      | (with_reducible exact visits_Parts.mono _ _ _)
      | (with_reducible exact LeO.refl _)
      | (with_reducible exact LeO.none _)
      | (with_reducible refine LeO.ite ?_ ?_)
      | (with_reducible refine LeO.bind ?_ (fun _ => ?_))
      | exact ih0 _ _
      | exact ih1 _ _ _ _
      | exact ih2 _ _ _ _ _ _
      | exact ih3 _ _ _ _
      | exact ih4 _ _ _ _ _
      | exact clochelaw03_alive.mono _
      | exact clocheref03_IsShop.mono _ _
      | exact clocheref03_Size.mono _ _
      | exact visits_Barrier.mono _ _
      | exact visits_Needed.mono _ _
      | exact visits_Odd.mono _ _ _
      | exact visits_Parts.mono _ _ _
      | exact LeO.none _
      | refine LeO.ite ?_ ?_
      | refine LeO.bind ?_ (fun _ => ?_)
    · intro y0 y1 y2 y3
      unfold clochelaw03_VisitsGallai.j1
      repeat' first
      | (with_reducible exact ih0 _ _)
      | (with_reducible exact ih1 _ _ _ _)
      | (with_reducible exact ih2 _ _ _ _ _ _)
      | (with_reducible exact ih3 _ _ _ _)
      | (with_reducible exact ih4 _ _ _ _ _)
      | (with_reducible exact clochelaw03_alive.mono _)
      | (with_reducible exact clocheref03_IsShop.mono _ _)
      | (with_reducible exact clocheref03_Size.mono _ _)
      | (with_reducible exact visits_Barrier.mono _ _)
      | (with_reducible exact visits_Needed.mono _ _)
      | (with_reducible exact visits_Odd.mono _ _ _)
      | (with_reducible exact visits_Parts.mono _ _ _)
      | (with_reducible exact LeO.refl _)
      | (with_reducible exact LeO.none _)
      | (with_reducible refine LeO.ite ?_ ?_)
      | (with_reducible refine LeO.bind ?_ (fun _ => ?_))
      | exact ih0 _ _
      | exact ih1 _ _ _ _
      | exact ih2 _ _ _ _ _ _
      | exact ih3 _ _ _ _
      | exact ih4 _ _ _ _ _
      | exact clochelaw03_alive.mono _
      | exact clocheref03_IsShop.mono _ _
      | exact clocheref03_Size.mono _ _
      | exact visits_Barrier.mono _ _
      | exact visits_Needed.mono _ _
      | exact visits_Odd.mono _ _ _
      | exact visits_Parts.mono _ _ _
      | exact LeO.none _
      | refine LeO.ite ?_ ?_
      | refine LeO.bind ?_ (fun _ => ?_)
    · intro y0 y1 y2 y3 y4 y5
      unfold clochelaw03_VisitsGallai.l0
      repeat' first
      | (with_reducible exact ih0 _ _)
      | (with_reducible exact ih1 _ _ _ _)
      | (with_reducible exact ih2 _ _ _ _ _ _)
      | (with_reducible exact ih3 _ _ _ _)
      | (with_reducible exact ih4 _ _ _ _ _)
      | (with_reducible exact clochelaw03_alive.mono _)
      | (with_reducible exact clocheref03_IsShop.mono _ _)
      | (with_reducible exact clocheref03_Size.mono _ _)
      | (with_reducible exact visits_Barrier.mono _ _)
      | (with_reducible exact visits_Needed.mono _ _)
      | (with_reducible exact visits_Odd.mono _ _ _)
      | (with_reducible exact visits_Parts.mono _ _ _)
      | (with_reducible exact LeO.refl _)
      | (with_reducible exact LeO.none _)
      | (with_reducible refine LeO.ite ?_ ?_)
      | (with_reducible refine LeO.bind ?_ (fun _ => ?_))
      | exact ih0 _ _
      | exact ih1 _ _ _ _
      | exact ih2 _ _ _ _ _ _
      | exact ih3 _ _ _ _
      | exact ih4 _ _ _ _ _
      | exact clochelaw03_alive.mono _
      | exact clocheref03_IsShop.mono _ _
      | exact clocheref03_Size.mono _ _
      | exact visits_Barrier.mono _ _
      | exact visits_Needed.mono _ _
      | exact visits_Odd.mono _ _ _
      | exact visits_Parts.mono _ _ _
      | exact LeO.none _
      | refine LeO.ite ?_ ?_
      | refine LeO.bind ?_ (fun _ => ?_)
    · intro y0 y1 y2 y3
      unfold clochelaw03_VisitsGallai.j3
      repeat' first
      | (with_reducible exact ih0 _ _)
      | (with_reducible exact ih1 _ _ _ _)
      | (with_reducible exact ih2 _ _ _ _ _ _)
      | (with_reducible exact ih3 _ _ _ _)
      | (with_reducible exact ih4 _ _ _ _ _)
      | (with_reducible exact clochelaw03_alive.mono _)
      | (with_reducible exact clocheref03_IsShop.mono _ _)
      | (with_reducible exact clocheref03_Size.mono _ _)
      | (with_reducible exact visits_Barrier.mono _ _)
      | (with_reducible exact visits_Needed.mono _ _)
      | (with_reducible exact visits_Odd.mono _ _ _)
      | (with_reducible exact visits_Parts.mono _ _ _)
      | (with_reducible exact LeO.refl _)
      | (with_reducible exact LeO.none _)
      | (with_reducible refine LeO.ite ?_ ?_)
      | (with_reducible refine LeO.bind ?_ (fun _ => ?_))
      | exact ih0 _ _
      | exact ih1 _ _ _ _
      | exact ih2 _ _ _ _ _ _
      | exact ih3 _ _ _ _
      | exact ih4 _ _ _ _ _
      | exact clochelaw03_alive.mono _
      | exact clocheref03_IsShop.mono _ _
      | exact clocheref03_Size.mono _ _
      | exact visits_Barrier.mono _ _
      | exact visits_Needed.mono _ _
      | exact visits_Odd.mono _ _ _
      | exact visits_Parts.mono _ _ _
      | exact LeO.none _
      | refine LeO.ite ?_ ?_
      | refine LeO.bind ?_ (fun _ => ?_)
    · intro y0 y1 y2 y3 y4
      unfold clochelaw03_VisitsGallai.l1
      repeat' first
      | (with_reducible exact ih0 _ _)
      | (with_reducible exact ih1 _ _ _ _)
      | (with_reducible exact ih2 _ _ _ _ _ _)
      | (with_reducible exact ih3 _ _ _ _)
      | (with_reducible exact ih4 _ _ _ _ _)
      | (with_reducible exact clochelaw03_alive.mono _)
      | (with_reducible exact clocheref03_IsShop.mono _ _)
      | (with_reducible exact clocheref03_Size.mono _ _)
      | (with_reducible exact visits_Barrier.mono _ _)
      | (with_reducible exact visits_Needed.mono _ _)
      | (with_reducible exact visits_Odd.mono _ _ _)
      | (with_reducible exact visits_Parts.mono _ _ _)
      | (with_reducible exact LeO.refl _)
      | (with_reducible exact LeO.none _)
      | (with_reducible refine LeO.ite ?_ ?_)
      | (with_reducible refine LeO.bind ?_ (fun _ => ?_))
      | exact ih0 _ _
      | exact ih1 _ _ _ _
      | exact ih2 _ _ _ _ _ _
      | exact ih3 _ _ _ _
      | exact ih4 _ _ _ _ _
      | exact clochelaw03_alive.mono _
      | exact clocheref03_IsShop.mono _ _
      | exact clocheref03_Size.mono _ _
      | exact visits_Barrier.mono _ _
      | exact visits_Needed.mono _ _
      | exact visits_Odd.mono _ _ _
      | exact visits_Parts.mono _ _ _
      | exact LeO.none _
      | refine LeO.ite ?_ ?_
      | refine LeO.bind ?_ (fun _ => ?_)
theorem clochelaw03_VisitsGallai.mono : ∀ a0 k, LeO (clochelaw03_VisitsGallai.f k a0) (clochelaw03_VisitsGallai.f (k + 1) a0) := by
  intro a0 k
  obtain ⟨ih0, ih1, ih2, ih3, ih4⟩ := clochelaw03_VisitsGallai.mono_l k
  unfold clochelaw03_VisitsGallai.f
  repeat' first
      | (with_reducible exact ih0 _ _)
      | (with_reducible exact ih1 _ _ _ _)
      | (with_reducible exact ih2 _ _ _ _ _ _)
      | (with_reducible exact ih3 _ _ _ _)
      | (with_reducible exact ih4 _ _ _ _ _)
      | (with_reducible exact clochelaw03_alive.mono _)
      | (with_reducible exact clocheref03_IsShop.mono _ _)
      | (with_reducible exact clocheref03_Size.mono _ _)
      | (with_reducible exact visits_Barrier.mono _ _)
      | (with_reducible exact visits_Needed.mono _ _)
      | (with_reducible exact visits_Odd.mono _ _ _)
      | (with_reducible exact visits_Parts.mono _ _ _)
      | (with_reducible exact LeO.refl _)
      | (with_reducible exact LeO.none _)
      | (with_reducible refine LeO.ite ?_ ?_)
      | (with_reducible refine LeO.bind ?_ (fun _ => ?_))
      | exact ih0 _ _
      | exact ih1 _ _ _ _
      | exact ih2 _ _ _ _ _ _
      | exact ih3 _ _ _ _
      | exact ih4 _ _ _ _ _
      | exact clochelaw03_alive.mono _
      | exact clocheref03_IsShop.mono _ _
      | exact clocheref03_Size.mono _ _
      | exact visits_Barrier.mono _ _
      | exact visits_Needed.mono _ _
      | exact visits_Odd.mono _ _ _
      | exact visits_Parts.mono _ _ _
      | exact LeO.none _
      | refine LeO.ite ?_ ?_
      | refine LeO.bind ?_ (fun _ => ?_)
set_option maxHeartbeats 8000000 in
set_option maxRecDepth 100000 in
theorem clochelaw03_VisitsGallai.calls (k : Nat) (A0 : Option Addr) (c0 : Nat) (l0 : List Int) (r : Bool) (w : World) (hr0 : Kd.C (Kd.int .i64) w A0 l0.length l0) (hc0 : l0.length ≤ c0) (h : clochelaw03_VisitsGallai.f k l0 = some r) (hT : Tab w) :
    Calls Tryd.prog 10 #[.slice A0 l0.length c0] w fun e w' => e = .returned (.bool r) ∧ Below w.heap.size w w' := by
  have HR0 := Aside0.mk hr0
  have HC0 := Aside0.mk hc0
  clear hr0 hc0
  have HT0 := Aside0.mk hT
  clear hT
  have HB := Aside0.mk (Below.refl w.heap.size w)
  have H : ((clochelaw03_few.f l0 ([] : List (S43))).bind fun t404 => (if t404 = true then ((clocheref03_IsShop.f k l0).bind fun t405 => (clochelaw03_VisitsGallai.j0 k l0 (!t405))) else (clochelaw03_VisitsGallai.j0 k l0 true))) = some r := h
  clear h
  have HC2 := Aside0.mk H
  clear H
  go_enter Tryd.func10, Tryd.ntmps10
  go_upto_region 1 with (fail)
  go_cut [24] (fun v24 wc => ∃ (kq : Nat) (x24_1 : Bool), v24 = .bool x24_1 ∧ Aside0 (clochelaw03_VisitsGallai.j0 kq l0 x24_1 = some r) ∧ Aside0 (kq ≤ k) ∧ Aside0 (Below w.heap.size w wc))
  case first =>
    have H := HC2.out
    clear HC2
    replace H := Option.bind_eq_some_iff.mp H
    obtain ⟨t404, A30, H⟩ := H
    replace H : (if t404 = true then ((clocheref03_IsShop.f k l0).bind fun t405 => (clochelaw03_VisitsGallai.j0 k l0 (!t405))) else (clochelaw03_VisitsGallai.j0 k l0 true)) = some r := H
    have A3 := Aside0.mk A30
    clear A30
    by_cases c4 : t404 = true
    · subst c4
      have H1 : ((clocheref03_IsShop.f k l0).bind fun t405 => (clochelaw03_VisitsGallai.j0 k l0 (!t405))) = some r := by rw [if_pos rfl] at H; exact H
      clear H
      have H := H1
      clear H1
      replace H := Option.bind_eq_some_iff.mp H
      obtain ⟨t405, A50, H⟩ := H
      replace H : (clochelaw03_VisitsGallai.j0 k l0 (!t405)) = some r := H
      have A5 := Aside0.mk A50
      clear A50
      have H' := Aside0.mk H
      clear H
      go_wp2_with (first | ((with_reducible refine gate_callee (f := 15) rfl ?_); refine goesL_ (some 18) rfl rfl Tryd.func15 (by kernel_rfl) rfl #[.slice A0 l0.length c0, .slice none 0 0] rfl (by (try simp only [List.map_toArray, List.map_cons, List.map_nil]); first | done | rfl | (simp only [List.length_drop, List.length_take]; rfl)) ?_; (refine (clochelaw03_few.calls _ _ l0 _ _ ([] : List (S43)) true _ ?side1 ?side2 ?side3 ?side4 A3.out).mono ?_); (case side1 => repeat (first | exact (Kd.C_below HR0.out HB.out) | (with_reducible refine Kd.C_alloc ?_ _) | (with_reducible refine Kd.C_drewN ?_ _) | (with_reducible refine Kd.C_drew ?_))); (case side2 => exact HC0.out); (case side3 => exact Kd.C_nil _ _); (case side4 => exact Nat.le_refl _); rintro e w' ⟨rfl, ⟨nd, rfl⟩⟩; refine ⟨_, rfl, ?_⟩) | (go_at_call 21; (with_reducible refine (clocheref03_IsShop.calls k _ _ l0 t405 _ ?side1 ?side2 A5.out).mono ?_); (case side1 => repeat (first | exact (Kd.C_below HR0.out (by repeat (first | (with_reducible first | exact HB.out | apply below_alloc | apply pw_below_drewN | apply below_drew1) | exact HB.out))) | (with_reducible refine Kd.C_alloc ?_ _) | (with_reducible refine Kd.C_drewN ?_ _) | (with_reducible refine Kd.C_drew ?_))); (case side2 => exact HC0.out); rintro e w' ⟨rfl, ⟨nd, rfl⟩⟩))
      go_meet
      case rel => exact ⟨_, (!t405), (by first | rfl | (simp; done) | (simp [*]; done)), H', ⟨by first | omega | exact Nat.le_refl _⟩, ⟨by repeat (first | (with_reducible first | exact HB.out | apply below_alloc | apply pw_below_drewN | apply below_drew1) | exact HB.out)⟩⟩
    · replace c4 := Bool.eq_false_iff.mpr c4
      subst c4
      have H1 : (clochelaw03_VisitsGallai.j0 k l0 true) = some r := by rw [if_neg (show ¬ (false = true) by decide)] at H; exact H
      clear H
      have H := H1
      clear H1
      have H' := Aside0.mk H
      clear H
      go_wp2_with (first | ((with_reducible refine gate_callee (f := 15) rfl ?_); refine goesL_ (some 18) rfl rfl Tryd.func15 (by kernel_rfl) rfl #[.slice A0 l0.length c0, .slice none 0 0] rfl (by (try simp only [List.map_toArray, List.map_cons, List.map_nil]); first | done | rfl | (simp only [List.length_drop, List.length_take]; rfl)) ?_; (refine (clochelaw03_few.calls _ _ l0 _ _ ([] : List (S43)) false _ ?side1 ?side2 ?side3 ?side4 A3.out).mono ?_); (case side1 => repeat (first | exact (Kd.C_below HR0.out HB.out) | (with_reducible refine Kd.C_alloc ?_ _) | (with_reducible refine Kd.C_drewN ?_ _) | (with_reducible refine Kd.C_drew ?_))); (case side2 => exact HC0.out); (case side3 => exact Kd.C_nil _ _); (case side4 => exact Nat.le_refl _); rintro e w' ⟨rfl, ⟨nd, rfl⟩⟩; refine ⟨_, rfl, ?_⟩))
      go_meet
      case rel => exact ⟨_, (true), (by first | rfl | (simp; done) | (simp [*]; done)), H', ⟨by first | omega | exact Nat.le_refl _⟩, ⟨by repeat (first | (with_reducible first | exact HB.out | apply below_alloc | apply pw_below_drewN | apply below_drew1) | exact HB.out)⟩⟩
  case rest =>
    clear HC2
    try clear c1
    try clear p2
    try clear c4
    obtain ⟨kq, x24_1, rfl, HA, HJ1, HB⟩ := hcut
    cases kq with
    | zero => exact absurd HA.out (by simp [clochelaw03_VisitsGallai.j0])
    | succ kj1 =>
      have H := HA.out
      clear HA
      simp only [clochelaw03_VisitsGallai.j0] at H
      by_cases c6 : x24_1 = true
      · subst c6
        have H1 : ((clochelaw03_alive.f kj1).bind fun t406 => (some t406)) = some r := by rw [if_pos rfl] at H; exact H
        clear H
        have H := H1
        clear H1
        replace H := Option.bind_eq_some_iff.mp H
        obtain ⟨t406, A70, H⟩ := H
        replace H : (some t406) = some r := H
        have A7 := Aside0.mk A70
        clear A70
        obtain rfl := Option.some.inj H
        go_wp2_with (first | ((with_reducible refine gate_callee (f := 16) rfl ?_); refine goesL_ (some 25) rfl rfl Tryd.func16 (by kernel_rfl) rfl #[] rfl (by (try simp only [List.map_toArray, List.map_cons, List.map_nil]); first | done | rfl | (simp only [List.length_drop, List.length_take]; rfl)) ?_; (with_reducible refine (clochelaw03_alive.calls kj1  t406 _ A7.out (by repeat (first | exact HT0.out | exact tabB HT0.out HB.out | (refine tab_alloc ?_ _) | (refine tab_drewN ?_ _) | (refine tab_drew ?_)))).mono ?_); rintro e w8 ⟨rfl, hb⟩; refine ⟨_, rfl, ?_⟩; have n0_ := Aside0.mk (below_step (by repeat (first | (with_reducible first | exact HB.out | apply below_alloc | apply pw_below_drewN | apply below_drew1) | exact HB.out)) hb); clear HB; have HB := n0_; clear n0_; (try clear hb); (try clear hb2); (try clear hk); (try clear hi)))
        go_ret
        exact ⟨by first | rfl | (simp [errW_none, errW_some] <;> rfl) | (simp [*, errW_none, errW_some] <;> rfl), by repeat (first | (with_reducible first | exact HB.out | apply below_alloc | apply pw_below_drewN | apply below_drew1) | exact HB.out)⟩
      · replace c6 := Bool.eq_false_iff.mpr c6
        subst c6
        have H1 : ((visits_Needed.f kj1 l0).bind fun bt407 => (if bt407.2 = 0 then (if bt407.1 < 0 then (none) else (clochelaw03_VisitsGallai.j1 kj1 l0 (l0.length : Int) bt407.1 (decide (bt407.1 ≥ (shl .i64 1 (l0.length : Int)))))) else (none))) = some r := by rw [if_neg (show ¬ (false = true) by decide)] at H; exact H
        clear H
        have H := H1
        clear H1
        replace H := Option.bind_eq_some_iff.mp H
        obtain ⟨⟨t407, t408⟩, A90, H⟩ := H
        replace H : (if t408 = 0 then (if t407 < 0 then (none) else (clochelaw03_VisitsGallai.j1 kj1 l0 (l0.length : Int) t407 (decide (t407 ≥ (shl .i64 1 (l0.length : Int)))))) else (none)) = some r := H
        have A9 := Aside0.mk A90
        clear A90
        have HC10 := Aside0.mk H
        clear H
        go_upto_region 5 with (first | ((with_reducible refine gate_callee (f := 17) rfl ?_); refine goesL_ (some 30) rfl rfl Tryd.func17 (by kernel_rfl) rfl #[.slice A0 l0.length c0] rfl (by (try simp only [List.map_toArray, List.map_cons, List.map_nil]); first | done | rfl | (simp only [List.length_drop, List.length_take]; rfl)) ?_; (with_reducible refine (visits_Needed.calls kj1 _ _ l0 t407 t408 _ ?side1 ?side2 A9.out (by repeat (first | exact HT0.out | exact tabB HT0.out HB.out | (refine tab_alloc ?_ _) | (refine tab_drewN ?_ _) | (refine tab_drew ?_)))).mono ?_); (case side1 => repeat (first | exact (Kd.C_below HR0.out HB.out) | (with_reducible refine Kd.C_alloc ?_ _) | (with_reducible refine Kd.C_drewN ?_ _) | (with_reducible refine Kd.C_drew ?_))); (case side2 => exact HC0.out); rintro e w11 ⟨rfl, hb⟩; refine ⟨_, rfl, ?_⟩; have n0_ := Aside0.mk (below_step (by repeat (first | (with_reducible first | exact HB.out | apply below_alloc | apply pw_below_drewN | apply below_drew1) | exact HB.out)) hb); clear HB; have HB := n0_; clear n0_; (try clear hb); (try clear hb2); (try clear hk); (try clear hi)))
        (try simp only [Act.put, List.setIfInBounds_toArray, List.set_cons_zero, List.set_cons_succ])
        go_cut [44] (fun v44 wc => ∃ (kq : Nat) (x44_9 : Bool), v44 = .bool x44_9 ∧ Aside0 (clochelaw03_VisitsGallai.j1 kq l0 (l0.length : Int) t407 x44_9 = some r) ∧ Aside0 (kq ≤ kj1) ∧ Aside0 (Below w.heap.size w wc))
        case first =>
          have H := HC10.out
          clear HC10
          by_cases c12 : t408 = 0
          · rw [if_pos c12] at H
            have c12b0 : (t408 == 0) = true := beq_iff_eq.mpr c12
            have c12b1 : (t408 != 0) = false := bne_eq_false_iff_eq.mpr c12
            clear c12
            (first | rw [c12b0] | (simp only [i64_w, i32_w]; rw [c12b0]) | skip)
            by_cases c13 : t407 < 0
            · rw [if_pos c13] at H
              exact absurd H (by simp)
            · rw [if_neg c13] at H
              have c13b0 : decide (t407 < 0) = false := decide_eq_false c13
              clear c13
              obtain ⟨ji14, hji14⟩ : ∃ j_ : Int, (shl .i64 1 (l0.length : Int)) = j_ := ⟨_, rfl⟩
              replace H : (clochelaw03_VisitsGallai.j1 kj1 l0 (l0.length : Int) t407 (decide (t407 ≥ (ji14)))) = some r := by first | (rw [hji14] at H; exact H) | (simp only [hji14] at H ⊢; exact H)
              have hji14_ : (IntKind.i64.wrap (1 * 2 ^ min (l0.length : Int).toNat 64)) = ji14 := hji14
              have hji14z : (l0.length : Int) ≤ 64 → (IntKind.i64.wrap (1 * 2 ^ (l0.length : Int).toNat)) = ji14 := shl_small hji14
              have hji14p : (IntKind.i64.wrap (1 * 2 ^ min l0.length 64)) = ji14 := hji14_
              have hji14q : (l0.length : Int) ≤ 64 → (IntKind.i64.wrap (1 * 2 ^ l0.length)) = ji14 := hji14z
              have hji14r : (IntKind.i64.wrap (2 ^ min l0.length 64)) = ji14 := by have h_ := hji14p; rw [Int.one_mul] at h_; exact h_
              have hji14s : (l0.length : Int) ≤ 64 → (IntKind.i64.wrap (2 ^ l0.length)) = ji14 := fun hle_ => by have h_ := hji14q hle_; rw [Int.one_mul] at h_; exact h_
              have hji14u : (IntKind.i64.wrap (2 ^ min (l0.length : Int).toNat 64)) = ji14 := by have h_ := hji14_; rw [Int.one_mul] at h_; exact h_
              have hji14v : (l0.length : Int) ≤ 64 → (IntKind.i64.wrap (2 ^ (l0.length : Int).toNat)) = ji14 := fun hle_ => by have h_ := hji14z hle_; rw [Int.one_mul] at h_; exact h_
              have hji14y : (wrap64 (1 * 2 ^ min (l0.length : Int).toNat 64)) = ji14 := (i64_w _).symm.trans hji14_
              have hji14x : (l0.length : Int) ≤ 64 → (wrap64 (1 * 2 ^ (l0.length : Int).toNat)) = ji14 := fun h_ => (i64_w _).symm.trans (hji14z h_)
              have H' := Aside0.mk H
              clear H
              go_wp2
              go_meet
              case rel => exact ⟨_, (decide (t407 ≥ (ji14))), (by first | rfl | (simp; done) | (simp only [← hji14] <;> (first | rfl | simp)) | (simp [*]; done)), H', ⟨by have := HJ1.out; first | omega | exact Nat.le_refl _⟩, ⟨by repeat (first | (with_reducible first | exact HB.out | apply below_alloc | apply pw_below_drewN | apply below_drew1) | exact HB.out)⟩⟩
          · rw [if_neg c12] at H
            exact absurd H (by simp)
        case rest =>
          clear HC10
          try clear c1
          try clear p2
          try clear c4
          try clear c6
          try clear p6
          try clear c10
          try clear c12
          try clear c12b0
          try clear c12b1
          try clear c13
          try clear c13b0
          try clear p2
          obtain ⟨kq, x44_9, rfl, HA, HJ9, HB⟩ := hcut
          cases kq with
          | zero => exact absurd HA.out (by simp [clochelaw03_VisitsGallai.j1])
          | succ kj9 =>
            have H := HA.out
            clear HA
            simp only [clochelaw03_VisitsGallai.j1] at H
            by_cases c15 : x44_9 = true
            · subst c15
              have H1 : (none) = some r := by rw [if_pos rfl] at H; exact H
              clear H
              have H := H1
              clear H1
              exact absurd H (by simp)
            · replace c15 := Bool.eq_false_iff.mpr c15
              subst c15
              have H1 : (if 0 ≤ (l0.length : Int) then (clochelaw03_VisitsGallai.l0 kj9 l0 (l0.length : Int) t407 (wrap64 ((wrap64 ((shl .i64 1 (l0.length : Int)) - 1)) - t407)) 0 0) else (none)) = some r := by rw [if_neg (show ¬ (false = true) by decide)] at H; exact H
              clear H
              have H := H1
              clear H1
              by_cases c16 : 0 ≤ (l0.length : Int)
              · rw [if_pos c16] at H
                have c16b0 := eq_true c16
                have c16b1 : decide (0 ≤ (l0.length : Int)) = true := decide_eq_true c16
                clear c16
                obtain ⟨ji17, hji17⟩ : ∃ j_ : Int, (shl .i64 1 (l0.length : Int)) = j_ := ⟨_, rfl⟩
                replace H : (clochelaw03_VisitsGallai.l0 kj9 l0 (l0.length : Int) t407 (wrap64 ((wrap64 ((ji17) - 1)) - t407)) 0 0) = some r := by first | (rw [hji17] at H; exact H) | (simp only [hji17] at H ⊢; exact H)
                have hji17_ : (IntKind.i64.wrap (1 * 2 ^ min (l0.length : Int).toNat 64)) = ji17 := hji17
                have hji17z : (l0.length : Int) ≤ 64 → (IntKind.i64.wrap (1 * 2 ^ (l0.length : Int).toNat)) = ji17 := shl_small hji17
                have hji17p : (IntKind.i64.wrap (1 * 2 ^ min l0.length 64)) = ji17 := hji17_
                have hji17q : (l0.length : Int) ≤ 64 → (IntKind.i64.wrap (1 * 2 ^ l0.length)) = ji17 := hji17z
                have hji17r : (IntKind.i64.wrap (2 ^ min l0.length 64)) = ji17 := by have h_ := hji17p; rw [Int.one_mul] at h_; exact h_
                have hji17s : (l0.length : Int) ≤ 64 → (IntKind.i64.wrap (2 ^ l0.length)) = ji17 := fun hle_ => by have h_ := hji17q hle_; rw [Int.one_mul] at h_; exact h_
                have hji17u : (IntKind.i64.wrap (2 ^ min (l0.length : Int).toNat 64)) = ji17 := by have h_ := hji17_; rw [Int.one_mul] at h_; exact h_
                have hji17v : (l0.length : Int) ≤ 64 → (IntKind.i64.wrap (2 ^ (l0.length : Int).toNat)) = ji17 := fun hle_ => by have h_ := hji17z hle_; rw [Int.one_mul] at h_; exact h_
                have hji17y : (wrap64 (1 * 2 ^ min (l0.length : Int).toNat 64)) = ji17 := (i64_w _).symm.trans hji17_
                have hji17x : (l0.length : Int) ≤ 64 → (wrap64 (1 * 2 ^ (l0.length : Int).toNat)) = ji17 := fun h_ => (i64_w _).symm.trans (hji17z h_)
                have H' := Aside0.mk H
                clear H
                go_wp2
                go_loopg [7, 8] kj9 (fun kq v7 v8 w' => ∃ (x7_3 : Int) (x8_3 : Int), v7 = .int .i64 x7_3 ∧ v8 = .int .i64 x8_3 ∧ Aside0 (clochelaw03_VisitsGallai.l0 kq l0 (l0.length : Int) t407 (wrap64 ((wrap64 ((ji17) - 1)) - t407)) x7_3 x8_3 = some r) ∧ Aside0 (kq ≤ kj9) ∧ Aside0 (Below w.heap.size w w'))
                case atStart => exact ⟨(0), (0), (by first | rfl | (simp; done) | (simp [*]; done)), (by first | rfl | (simp; done) | (simp [*]; done)), H', ⟨Nat.le_refl _⟩, ⟨by repeat (first | (with_reducible first | exact HB.out | apply below_alloc | apply pw_below_drewN | apply below_drew1) | exact HB.out)⟩⟩
                case round =>
                  clear H'
                  try clear c1
                  try clear p2
                  try clear c4
                  try clear c6
                  try clear p6
                  try clear c10
                  try clear c12
                  try clear c12b0
                  try clear c12b1
                  try clear c13
                  try clear c13b0
                  try clear c15
                  try clear c16
                  try clear c16b0
                  try clear c16b1
                  try clear c17
                  try clear p2
                  try clear p6
                  obtain ⟨x7_3, x8_3, rfl, rfl, HA, HK3, HB⟩ := hrel
                  cases gk with
                  | zero => exact absurd HA.out (by simp [clochelaw03_VisitsGallai.l0])
                  | succ k3 =>
                    have H := HA.out
                    clear HA
                    simp only [clochelaw03_VisitsGallai.l0] at H
                    by_cases c18 : x8_3 < (l0.length : Int)
                    · rw [if_pos c18] at H
                      have c18b0 : decide (x8_3 < (l0.length : Int)) = true := decide_eq_true c18
                      clear c18
                      by_cases c19 : 0 ≤ x8_3
                      · rw [if_pos c19] at H
                        have c19b0 := eq_true c19
                        have c19b1 : decide (0 ≤ x8_3) = true := decide_eq_true c19
                        clear c19
                        obtain ⟨ji20, hji20⟩ : ∃ j_ : Int, (shr .i64 t407 x8_3) = j_ := ⟨_, rfl⟩
                        replace H : (if (Int.tmod (ji20) 2) = 1 then (if x8_3 < (l0.length : Int) then (if (Go.bits .and .i64 (rd l0 x8_3) (wrap64 ((wrap64 ((ji17) - 1)) - t407))) = 0 then (clochelaw03_VisitsGallai.l0 k3 l0 (l0.length : Int) t407 (wrap64 ((wrap64 ((ji17) - 1)) - t407)) x7_3 (wrap64 (x8_3 + 1))) else (clochelaw03_VisitsGallai.l0 k3 l0 (l0.length : Int) t407 (wrap64 ((wrap64 ((ji17) - 1)) - t407)) (wrap64 (x7_3 + (shl .i64 1 x8_3))) (wrap64 (x8_3 + 1)))) else (none)) else (clochelaw03_VisitsGallai.l0 k3 l0 (l0.length : Int) t407 (wrap64 ((wrap64 ((ji17) - 1)) - t407)) x7_3 (wrap64 (x8_3 + 1)))) = some r := by first | (rw [hji20] at H; exact H) | (simp only [hji20] at H ⊢; exact H)
                        have hji20_ : (t407 / 2 ^ min x8_3.toNat 64) = ji20 := hji20
                        have hji20z : x8_3 ≤ 64 → (t407 / 2 ^ x8_3.toNat) = ji20 := shr_small hji20
                        by_cases c21 : (Int.tmod (ji20) 2) = 1
                        · rw [if_pos c21] at H
                          have c21b0 : ((Int.tmod (ji20) 2) == 1) = true := beq_iff_eq.mpr c21
                          have c21b1 : ((Int.tmod (ji20) 2) != 1) = false := bne_eq_false_iff_eq.mpr c21
                          clear c21
                          by_cases c22 : x8_3 < (l0.length : Int)
                          · rw [if_pos c22] at H
                            have c22b0 : decide (x8_3 < (l0.length : Int)) = true := decide_eq_true c22
                            clear c22
                            by_cases c23 : (Go.bits .and .i64 (rd l0 x8_3) (wrap64 ((wrap64 ((ji17) - 1)) - t407))) = 0
                            · rw [if_pos c23] at H
                              have c23b0 : ((Go.bits .and .i64 (rd l0 x8_3) (wrap64 ((wrap64 ((ji17) - 1)) - t407))) == 0) = true := beq_iff_eq.mpr c23
                              have c23b1 : ((Go.bits .and .i64 (rd l0 x8_3) (wrap64 ((wrap64 ((ji17) - 1)) - t407))) != 0) = false := bne_eq_false_iff_eq.mpr c23
                              clear c23
                              have H' := Aside0.mk H
                              clear H
                              have p409 : 0 ≤ (x8_3 : Int) := of_decide_eq_true (by first | (with_reducible assumption) | assumption)
                              have q409 : x8_3 < (l0.length : Int) := of_decide_eq_true (by first | (with_reducible assumption) | assumption)
                              obtain ⟨ad409, e409, hx409_0⟩ := Kd.at_int HR0.out x8_3 p409 q409
                              cases e409
                              replace hx409_0 := (HB.out.cell (World.block_lt_of_cell? w _ hx409_0)).trans hx409_0
                              replace p409 := eq_true p409
                              replace q409 := eq_true q409
                              go_wp2
                              go_roundg k3
                              case measure => have := HJ1.out; have := HJ9.out; have := HK3.out; omega
                              case rel => exact ⟨(x7_3), (wrap64 (x8_3 + 1)), (by first | rfl | (simp; done) | (simp [*]; done)), (by first | rfl | (simp; done) | (simp [*]; done)), H', ⟨by have := HJ1.out; have := HJ9.out; have := HK3.out; omega⟩, ⟨by repeat (first | (with_reducible first | exact HB.out | apply below_alloc | apply pw_below_drewN | apply below_drew1) | exact HB.out)⟩⟩
                            · rw [if_neg c23] at H
                              have c23b0 : ((Go.bits .and .i64 (rd l0 x8_3) (wrap64 ((wrap64 ((ji17) - 1)) - t407))) == 0) = false := beq_eq_false_iff_ne.mpr c23
                              have c23b1 : ((Go.bits .and .i64 (rd l0 x8_3) (wrap64 ((wrap64 ((ji17) - 1)) - t407))) != 0) = true := bne_iff_ne.mpr c23
                              have c24b0 := eq_true (of_decide_eq_true (by first | (with_reducible assumption) | assumption) : 0 ≤ x8_3)
                              obtain ⟨ji25, hji25⟩ : ∃ j_ : Int, (shl .i64 1 x8_3) = j_ := ⟨_, rfl⟩
                              replace H : (clochelaw03_VisitsGallai.l0 k3 l0 (l0.length : Int) t407 (wrap64 ((wrap64 ((ji17) - 1)) - t407)) (wrap64 (x7_3 + (ji25))) (wrap64 (x8_3 + 1))) = some r := by first | (rw [hji25] at H; exact H) | (simp only [hji25] at H ⊢; exact H)
                              have hji25_ : (IntKind.i64.wrap (1 * 2 ^ min x8_3.toNat 64)) = ji25 := hji25
                              have hji25z : x8_3 ≤ 64 → (IntKind.i64.wrap (1 * 2 ^ x8_3.toNat)) = ji25 := shl_small hji25
                              have hji25u : (IntKind.i64.wrap (2 ^ min x8_3.toNat 64)) = ji25 := by have h_ := hji25_; rw [Int.one_mul] at h_; exact h_
                              have hji25v : x8_3 ≤ 64 → (IntKind.i64.wrap (2 ^ x8_3.toNat)) = ji25 := fun hle_ => by have h_ := hji25z hle_; rw [Int.one_mul] at h_; exact h_
                              have hji25y : (wrap64 (1 * 2 ^ min x8_3.toNat 64)) = ji25 := (i64_w _).symm.trans hji25_
                              have hji25x : x8_3 ≤ 64 → (wrap64 (1 * 2 ^ x8_3.toNat)) = ji25 := fun h_ => (i64_w _).symm.trans (hji25z h_)
                              have H' := Aside0.mk H
                              clear H
                              have p409 : 0 ≤ (x8_3 : Int) := of_decide_eq_true (by first | (with_reducible assumption) | assumption)
                              have q409 : x8_3 < (l0.length : Int) := of_decide_eq_true (by first | (with_reducible assumption) | assumption)
                              obtain ⟨ad409, e409, hx409_0⟩ := Kd.at_int HR0.out x8_3 p409 q409
                              cases e409
                              replace hx409_0 := (HB.out.cell (World.block_lt_of_cell? w _ hx409_0)).trans hx409_0
                              replace p409 := eq_true p409
                              replace q409 := eq_true q409
                              go_wp2
                              go_roundg k3
                              case measure => have := HJ1.out; have := HJ9.out; have := HK3.out; omega
                              case rel => exact ⟨(wrap64 (x7_3 + (ji25))), (wrap64 (x8_3 + 1)), (by first | rfl | (simp; done) | (simp only [← hji25] <;> (first | rfl | simp)) | (simp [*]; done)), (by first | rfl | (simp; done) | (simp [*]; done)), H', ⟨by have := HJ1.out; have := HJ9.out; have := HK3.out; omega⟩, ⟨by repeat (first | (with_reducible first | exact HB.out | apply below_alloc | apply pw_below_drewN | apply below_drew1) | exact HB.out)⟩⟩
                          · rw [if_neg c22] at H
                            exact absurd H (by simp)
                        · rw [if_neg c21] at H
                          have c21b0 : ((Int.tmod (ji20) 2) == 1) = false := beq_eq_false_iff_ne.mpr c21
                          have c21b1 : ((Int.tmod (ji20) 2) != 1) = true := bne_iff_ne.mpr c21
                          have H' := Aside0.mk H
                          clear H
                          go_wp2
                          go_roundg k3
                          case measure => have := HJ1.out; have := HJ9.out; have := HK3.out; omega
                          case rel => exact ⟨(x7_3), (wrap64 (x8_3 + 1)), (by first | rfl | (simp; done) | (simp [*]; done)), (by first | rfl | (simp; done) | (simp [*]; done)), H', ⟨by have := HJ1.out; have := HJ9.out; have := HK3.out; omega⟩, ⟨by repeat (first | (with_reducible first | exact HB.out | apply below_alloc | apply pw_below_drewN | apply below_drew1) | exact HB.out)⟩⟩
                      · rw [if_neg c19] at H
                        exact absurd H (by simp)
                    · rw [if_neg c18] at H
                      have c18b0 : decide (x8_3 < (l0.length : Int)) = false := decide_eq_false c18
                      clear c18
                      replace H := Option.bind_eq_some_iff.mp H
                      obtain ⟨⟨t410, t411⟩, A260, H⟩ := H
                      replace H : ((visits_Odd.f k3 l0 x7_3).bind fun bt414 => ((visits_Barrier.f k3 l0).bind fun bt416 => (if t411 = 0 then (if bt414.2 = 0 then (if bt416.2.2 = 0 then ((clocheref03_Size.f k3 x7_3).bind fun t419 => (clochelaw03_VisitsGallai.j3 k3 (wrap64 ((wrap64 ((ji17) - 1)) - t407)) t410 bt414.1 ((wrap64 (bt414.1 - t419)) != bt416.2.1))) else (none)) else (none)) else (none)))) = some r := H
                      have A26 := Aside0.mk A260
                      clear A260
                      replace H := Option.bind_eq_some_iff.mp H
                      obtain ⟨⟨t414, t415⟩, A270, H⟩ := H
                      replace H : ((visits_Barrier.f k3 l0).bind fun bt416 => (if t411 = 0 then (if t415 = 0 then (if bt416.2.2 = 0 then ((clocheref03_Size.f k3 x7_3).bind fun t419 => (clochelaw03_VisitsGallai.j3 k3 (wrap64 ((wrap64 ((ji17) - 1)) - t407)) t410 t414 ((wrap64 (t414 - t419)) != bt416.2.1))) else (none)) else (none)) else (none))) = some r := H
                      have A27 := Aside0.mk A270
                      clear A270
                      replace H := Option.bind_eq_some_iff.mp H
                      obtain ⟨⟨t416, t417, t418⟩, A280, H⟩ := H
                      replace H : (if t411 = 0 then (if t415 = 0 then (if t418 = 0 then ((clocheref03_Size.f k3 x7_3).bind fun t419 => (clochelaw03_VisitsGallai.j3 k3 (wrap64 ((wrap64 ((ji17) - 1)) - t407)) t410 t414 ((wrap64 (t414 - t419)) != t417))) else (none)) else (none)) else (none)) = some r := H
                      have A28 := Aside0.mk A280
                      clear A280
                      have HC29 := Aside0.mk H
                      clear H
                      go_upto_region 17 with (first | ((with_reducible refine gate_callee (f := 30) rfl ?_); refine goesL_ (some 76) rfl rfl Tryd.func30 (by kernel_rfl) rfl #[.slice A0 l0.length c0, .int .i64 x7_3] rfl (by (try simp only [List.map_toArray, List.map_cons, List.map_nil]); first | done | rfl | (simp only [List.length_drop, List.length_take]; rfl)) ?_; (with_reducible refine (visits_Parts.calls k3 _ _ l0 x7_3 t410 t411 _ ?side1 ?side2 A26.out).mono ?_); (case side1 => repeat (first | exact (Kd.C_below HR0.out HB.out) | (with_reducible refine Kd.C_alloc ?_ _) | (with_reducible refine Kd.C_drewN ?_ _) | (with_reducible refine Kd.C_drew ?_))); (case side2 => exact HC0.out); rintro e w30 ⟨v412, rfl, ho0, hb⟩; refine ⟨_, rfl, ?_⟩; have n0_ := Aside0.mk (Kd.R_lower ho0 (below_size (by repeat (first | (with_reducible first | exact HB.out | apply below_alloc | apply pw_below_drewN | apply below_drew1) | exact HB.out)))); have n1_ := Aside0.mk (below_step (by repeat (first | (with_reducible first | exact HB.out | apply below_alloc | apply pw_below_drewN | apply below_drew1) | exact HB.out)) hb); clear HB; have HO413 := n0_; have HB := n1_; clear n0_ n1_; (try clear hb); (try clear hb2); (try clear hk); (try clear hi); (try clear ho0)) | ((with_reducible refine gate_callee (f := 33) rfl ?_); refine goesL_ (some 82) rfl rfl Tryd.func33 (by kernel_rfl) rfl #[.slice A0 l0.length c0, .int .i64 x7_3] rfl (by (try simp only [List.map_toArray, List.map_cons, List.map_nil]); first | done | rfl | (simp only [List.length_drop, List.length_take]; rfl)) ?_; (with_reducible refine (visits_Odd.calls k3 _ _ l0 x7_3 t414 t415 _ ?side1 ?side2 A27.out).mono ?_); (case side1 => repeat (first | exact (Kd.C_below HR0.out HB.out) | (with_reducible refine Kd.C_alloc ?_ _) | (with_reducible refine Kd.C_drewN ?_ _) | (with_reducible refine Kd.C_drew ?_))); (case side2 => exact HC0.out); rintro e w31 ⟨rfl, hb⟩; refine ⟨_, rfl, ?_⟩; have n0_ := Aside0.mk (Kd.R_below (by (with_reducible repeat (first | apply Kd.R_alloc | apply Kd.R_drewN | apply Kd.R_drew)); exact HO413.out) hb); have n1_ := Aside0.mk (below_step (by repeat (first | (with_reducible first | exact HB.out | apply below_alloc | apply pw_below_drewN | apply below_drew1) | exact HB.out)) hb); clear HO413; clear HB; have HO413 := n0_; have HB := n1_; clear n0_ n1_; (try clear hb); (try clear hb2); (try clear hk); (try clear hi)) | ((with_reducible refine gate_callee (f := 35) rfl ?_); refine goesL_ (some 87) rfl rfl Tryd.func35 (by kernel_rfl) rfl #[.slice A0 l0.length c0] rfl (by (try simp only [List.map_toArray, List.map_cons, List.map_nil]); first | done | rfl | (simp only [List.length_drop, List.length_take]; rfl)) ?_; (with_reducible refine (visits_Barrier.calls k3 _ _ l0 t416 t417 t418 _ ?side1 ?side2 A28.out).mono ?_); (case side1 => repeat (first | exact (Kd.C_below HR0.out HB.out) | (with_reducible refine Kd.C_alloc ?_ _) | (with_reducible refine Kd.C_drewN ?_ _) | (with_reducible refine Kd.C_drew ?_))); (case side2 => exact HC0.out); rintro e w32 ⟨rfl, hb⟩; refine ⟨_, rfl, ?_⟩; have n0_ := Aside0.mk (Kd.R_below (by (with_reducible repeat (first | apply Kd.R_alloc | apply Kd.R_drewN | apply Kd.R_drew)); exact HO413.out) hb); have n1_ := Aside0.mk (below_step (by repeat (first | (with_reducible first | exact HB.out | apply below_alloc | apply pw_below_drewN | apply below_drew1) | exact HB.out)) hb); clear HO413; clear HB; have HO413 := n0_; have HB := n1_; clear n0_ n1_; (try clear hb); (try clear hb2); (try clear hk); (try clear hi)))
                      (try simp only [Act.put, List.setIfInBounds_toArray, List.set_cons_zero, List.set_cons_succ])
                      go_cut [108] (fun v108 wc => ∃ (kq : Nat) (x108_28 : Bool), v108 = .bool x108_28 ∧ Aside0 (clochelaw03_VisitsGallai.j3 kq (wrap64 ((wrap64 ((ji17) - 1)) - t407)) t410 t414 x108_28 = some r) ∧ Aside0 (kq ≤ k3) ∧ Aside0 (Kd.R (Kd.int .i64) 3 wc w.heap.size (fun _ => True) v412 t410) ∧ Aside0 (Below w.heap.size w wc))
                      case first =>
                        have H := HC29.out
                        clear HC29
                        by_cases c33 : t411 = 0
                        · rw [if_pos c33] at H
                          have c33b0 : (t411 == 0) = true := beq_iff_eq.mpr c33
                          have c33b1 : (t411 != 0) = false := bne_eq_false_iff_eq.mpr c33
                          clear c33
                          (first | rw [c33b0] | (simp only [i64_w, i32_w]; rw [c33b0]) | skip)
                          by_cases c34 : t415 = 0
                          · rw [if_pos c34] at H
                            have c34b0 : (t415 == 0) = true := beq_iff_eq.mpr c34
                            have c34b1 : (t415 != 0) = false := bne_eq_false_iff_eq.mpr c34
                            clear c34
                            by_cases c35 : t418 = 0
                            · rw [if_pos c35] at H
                              have c35b0 : (t418 == 0) = true := beq_iff_eq.mpr c35
                              have c35b1 : (t418 != 0) = false := bne_eq_false_iff_eq.mpr c35
                              clear c35
                              replace H := Option.bind_eq_some_iff.mp H
                              obtain ⟨t419, A360, H⟩ := H
                              replace H : (clochelaw03_VisitsGallai.j3 k3 (wrap64 ((wrap64 ((ji17) - 1)) - t407)) t410 t414 ((wrap64 (t414 - t419)) != t417)) = some r := H
                              have A36 := Aside0.mk A360
                              clear A360
                              have H' := Aside0.mk H
                              clear H
                              go_wp2_with (first | (go_at_call 29; (with_reducible refine (clocheref03_Size.calls k3 x7_3 t419 _ A36.out).mono ?_); rintro e w' ⟨rfl, ⟨nd, rfl⟩⟩))
                              go_meet
                              case rel => exact ⟨_, (((wrap64 (t414 - t419)) != t417)), (by first | rfl | (simp; done) | (simp [*]; done)), H', ⟨by have := HJ1.out; have := HJ9.out; have := HK3.out; first | omega | exact Nat.le_refl _⟩, ⟨by (with_reducible repeat (first | apply Kd.R_alloc | apply Kd.R_drewN | apply Kd.R_drew)); exact HO413.out⟩, ⟨by repeat (first | (with_reducible first | exact HB.out | apply below_alloc | apply pw_below_drewN | apply below_drew1) | exact HB.out)⟩⟩
                            · rw [if_neg c35] at H
                              exact absurd H (by simp)
                          · rw [if_neg c34] at H
                            exact absurd H (by simp)
                        · rw [if_neg c33] at H
                          exact absurd H (by simp)
                      case rest =>
                        clear HC29
                        try clear c1
                        try clear c2
                        try clear p2
                        try clear c3
                        try clear c4
                        try clear p4
                        try clear q4
                        try clear hx4
                        try clear c6
                        try clear p6
                        try clear c10
                        try clear c12
                        try clear c12b0
                        try clear c12b1
                        try clear c13
                        try clear c13b0
                        try clear c15
                        try clear c16
                        try clear c16b0
                        try clear c16b1
                        try clear c17
                        try clear c18
                        try clear c18b0
                        try clear c19
                        try clear c19b0
                        try clear c19b1
                        try clear c21
                        try clear c21b0
                        try clear c21b1
                        try clear c22
                        try clear c22b0
                        try clear c23
                        try clear c23b0
                        try clear c23b1
                        try clear c24
                        try clear c24b0
                        try clear c30
                        try clear c33
                        try clear c33b0
                        try clear c33b1
                        try clear c34
                        try clear c34b0
                        try clear c34b1
                        try clear c35
                        try clear c35b0
                        try clear c35b1
                        try clear hx409_0
                        try clear p2
                        try clear p409
                        try clear p6
                        try clear q409
                        obtain ⟨kq, x108_28, rfl, HA, HJ28, HO_9, HB⟩ := hcut
                        cases kq with
                        | zero => exact absurd HA.out (by simp [clochelaw03_VisitsGallai.j3])
                        | succ kj28 =>
                          have H := HA.out
                          clear HA
                          simp only [clochelaw03_VisitsGallai.j3] at H
                          by_cases c37 : x108_28 = true
                          · subst c37
                            have H1 : (none) = some r := by rw [if_pos rfl] at H; exact H
                            clear H
                            have H := H1
                            clear H1
                            exact absurd H (by simp)
                          · replace c37 := Bool.eq_false_iff.mpr c37
                            subst c37
                            have H1 : (clochelaw03_VisitsGallai.l1 kj28 (wrap64 ((wrap64 ((ji17) - 1)) - t407)) t410 t414 0 0) = some r := by rw [if_neg (show ¬ (false = true) by decide)] at H; exact H
                            clear H
                            have H := H1
                            clear H1
                            have H' := Aside0.mk H
                            clear H
                            go_wp2
                            go_loopg [15, 16] kj28 (fun kq v15 v16 w' => ∃ (x15_5 : Int) (x16_5 : Int), v15 = .int .i64 x15_5 ∧ v16 = .int .i64 x16_5 ∧ Aside0 (clochelaw03_VisitsGallai.l1 kq (wrap64 ((wrap64 ((ji17) - 1)) - t407)) t410 t414 x15_5 x16_5 = some r) ∧ Aside0 (kq ≤ kj28) ∧ Aside0 (Kd.R (Kd.int .i64) 3 w' w.heap.size (fun _ => True) v412 t410) ∧ Aside0 (Below w.heap.size w w'))
                            case atStart => exact ⟨(0), (0), (by first | rfl | (simp; done) | (simp [*]; done)), (by first | rfl | (simp; done) | (simp [*]; done)), H', ⟨Nat.le_refl _⟩, ⟨by (with_reducible repeat (first | apply Kd.R_alloc | apply Kd.R_drewN | apply Kd.R_drew)); exact HO_9.out⟩, ⟨by repeat (first | (with_reducible first | exact HB.out | apply below_alloc | apply pw_below_drewN | apply below_drew1) | exact HB.out)⟩⟩
                            case round =>
                              clear H'
                              try clear c1
                              try clear c2
                              try clear p2
                              try clear c3
                              try clear c4
                              try clear p4
                              try clear q4
                              try clear hx4
                              try clear c6
                              try clear p6
                              try clear c10
                              try clear c12
                              try clear c12b0
                              try clear c12b1
                              try clear c13
                              try clear c13b0
                              try clear c15
                              try clear c16
                              try clear c16b0
                              try clear c16b1
                              try clear c17
                              try clear c18
                              try clear c18b0
                              try clear c19
                              try clear c19b0
                              try clear c19b1
                              try clear c21
                              try clear c21b0
                              try clear c21b1
                              try clear c22
                              try clear c22b0
                              try clear c23
                              try clear c23b0
                              try clear c23b1
                              try clear c24
                              try clear c24b0
                              try clear c30
                              try clear c33
                              try clear c33b0
                              try clear c33b1
                              try clear c34
                              try clear c34b0
                              try clear c34b1
                              try clear c35
                              try clear c35b0
                              try clear c35b1
                              try clear c37
                              try clear hx409_0
                              try clear p2
                              try clear p4
                              try clear p409
                              try clear p6
                              try clear q4
                              try clear q409
                              obtain ⟨x15_5, x16_5, rfl, rfl, HA, HK5, HO_9, HB⟩ := hrel
                              cases gk with
                              | zero => exact absurd HA.out (by simp [clochelaw03_VisitsGallai.l1])
                              | succ k5 =>
                                have H := HA.out
                                clear HA
                                simp only [clochelaw03_VisitsGallai.l1] at H
                                by_cases c38 : x16_5 < (t410.length : Int)
                                · rw [if_pos c38] at H
                                  have c38b0 : decide (x16_5 < (t410.length : Int)) = true := decide_eq_true c38
                                  clear c38
                                  by_cases c39 : 0 ≤ x16_5
                                  · rw [if_pos c39] at H
                                    have c39b0 : decide (0 ≤ x16_5) = true := decide_eq_true c39
                                    clear c39
                                    by_cases c40 : (Go.bits .and .i64 (rd t410 x16_5) (wrap64 ((wrap64 ((ji17) - 1)) - t407))) = 0
                                    · rw [if_pos c40] at H
                                      have c40b0 : ((Go.bits .and .i64 (rd t410 x16_5) (wrap64 ((wrap64 ((ji17) - 1)) - t407))) == 0) = true := beq_iff_eq.mpr c40
                                      have c40b1 : ((Go.bits .and .i64 (rd t410 x16_5) (wrap64 ((wrap64 ((ji17) - 1)) - t407))) != 0) = false := bne_eq_false_iff_eq.mpr c40
                                      clear c40
                                      have H' := Aside0.mk H
                                      clear H
                                      obtain ⟨Ao41, co41, eo41⟩ := Kd.R_slice HO_9.out
                                      subst eo41
                                      have p421 : 0 ≤ (x16_5 : Int) := of_decide_eq_true (by first | (with_reducible assumption) | assumption)
                                      have q421 : x16_5 < (t410.length : Int) := of_decide_eq_true (by first | (with_reducible assumption) | assumption)
                                      obtain ⟨ad421, e421, hx421_0⟩ := Kd.at_int (Kd.R_reads' HO_9.out).2.2 x16_5 p421 q421
                                      cases e421
                                      replace p421 := eq_true p421
                                      replace q421 := eq_true q421
                                      go_wp2
                                      go_roundg k5
                                      case measure => have := HJ1.out; have := HJ9.out; have := HK3.out; have := HJ28.out; have := HK5.out; omega
                                      case rel => exact ⟨(x15_5), (wrap64 (x16_5 + 1)), (by first | rfl | (simp; done) | (simp [*]; done)), (by first | rfl | (simp; done) | (simp [*]; done)), H', ⟨by have := HJ1.out; have := HJ9.out; have := HK3.out; have := HJ28.out; have := HK5.out; omega⟩, ⟨by (with_reducible repeat (first | apply Kd.R_alloc | apply Kd.R_drewN | apply Kd.R_drew)); exact HO_9.out⟩, ⟨by repeat (first | (with_reducible first | exact HB.out | apply below_alloc | apply pw_below_drewN | apply below_drew1) | exact HB.out)⟩⟩
                                    · rw [if_neg c40] at H
                                      have c40b0 : ((Go.bits .and .i64 (rd t410 x16_5) (wrap64 ((wrap64 ((ji17) - 1)) - t407))) == 0) = false := beq_eq_false_iff_ne.mpr c40
                                      have c40b1 : ((Go.bits .and .i64 (rd t410 x16_5) (wrap64 ((wrap64 ((ji17) - 1)) - t407))) != 0) = true := bne_iff_ne.mpr c40
                                      by_cases c42 : (Go.bits .andNot .i64 (rd t410 x16_5) (wrap64 ((wrap64 ((ji17) - 1)) - t407))) = 0
                                      · rw [if_pos c42] at H
                                        have c42b0 : ((Go.bits .andNot .i64 (rd t410 x16_5) (wrap64 ((wrap64 ((ji17) - 1)) - t407))) == 0) = true := beq_iff_eq.mpr c42
                                        have c42b1 : ((Go.bits .andNot .i64 (rd t410 x16_5) (wrap64 ((wrap64 ((ji17) - 1)) - t407))) != 0) = false := bne_eq_false_iff_eq.mpr c42
                                        clear c42
                                        replace H := Option.bind_eq_some_iff.mp H
                                        obtain ⟨t424, A430, H⟩ := H
                                        replace H : (if (Int.tmod t424 2) = 0 then (none) else (clochelaw03_VisitsGallai.l1 k5 (wrap64 ((wrap64 ((ji17) - 1)) - t407)) t410 t414 (wrap64 (x15_5 + 1)) (wrap64 (x16_5 + 1)))) = some r := H
                                        have A43 := Aside0.mk A430
                                        clear A430
                                        by_cases c44 : (Int.tmod t424 2) = 0
                                        · rw [if_pos c44] at H
                                          exact absurd H (by simp)
                                        · rw [if_neg c44] at H
                                          have c44b0 : ((Int.tmod t424 2) == 0) = false := beq_eq_false_iff_ne.mpr c44
                                          have c44b1 : ((Int.tmod t424 2) != 0) = true := bne_iff_ne.mpr c44
                                          have H' := Aside0.mk H
                                          clear H
                                          obtain ⟨Ao45, co45, eo45⟩ := Kd.R_slice HO_9.out
                                          subst eo45
                                          have p421 : 0 ≤ (x16_5 : Int) := of_decide_eq_true (by first | (with_reducible assumption) | assumption)
                                          have q421 : x16_5 < (t410.length : Int) := of_decide_eq_true (by first | (with_reducible assumption) | assumption)
                                          obtain ⟨ad421, e421, hx421_0⟩ := Kd.at_int (Kd.R_reads' HO_9.out).2.2 x16_5 p421 q421
                                          cases e421
                                          replace p421 := eq_true p421
                                          replace q421 := eq_true q421
                                          have p422 : 0 ≤ (x16_5 : Int) := of_decide_eq_true (by first | (with_reducible assumption) | assumption)
                                          have q422 : x16_5 < (t410.length : Int) := of_decide_eq_true (by first | (with_reducible assumption) | assumption)
                                          obtain ⟨ad422, e422, hx422_0⟩ := Kd.at_int (Kd.R_reads' HO_9.out).2.2 x16_5 p422 q422
                                          obtain rfl : ad421 = ad422 := (by injection e422)
                                          replace p422 := eq_true p422
                                          replace q422 := eq_true q422
                                          have p423 : 0 ≤ (x16_5 : Int) := of_decide_eq_true (by first | (with_reducible assumption) | assumption)
                                          have q423 : x16_5 < (t410.length : Int) := of_decide_eq_true (by first | (with_reducible assumption) | assumption)
                                          obtain ⟨ad423, e423, hx423_0⟩ := Kd.at_int (Kd.R_reads' HO_9.out).2.2 x16_5 p423 q423
                                          obtain rfl : ad421 = ad423 := (by injection e423)
                                          replace p423 := eq_true p423
                                          replace q423 := eq_true q423
                                          go_wp2_with (first | (go_at_call 29; (with_reducible refine (clocheref03_Size.calls k5 (rd t410 x16_5) t424 _ A43.out).mono ?_); rintro e w' ⟨rfl, ⟨nd, rfl⟩⟩))
                                          go_roundg k5
                                          case measure => have := HJ1.out; have := HJ9.out; have := HK3.out; have := HJ28.out; have := HK5.out; omega
                                          case rel => exact ⟨(wrap64 (x15_5 + 1)), (wrap64 (x16_5 + 1)), (by first | rfl | (simp; done) | (simp [*]; done)), (by first | rfl | (simp; done) | (simp [*]; done)), H', ⟨by have := HJ1.out; have := HJ9.out; have := HK3.out; have := HJ28.out; have := HK5.out; omega⟩, ⟨by (with_reducible repeat (first | apply Kd.R_alloc | apply Kd.R_drewN | apply Kd.R_drew)); exact HO_9.out⟩, ⟨by repeat (first | (with_reducible first | exact HB.out | apply below_alloc | apply pw_below_drewN | apply below_drew1) | exact HB.out)⟩⟩
                                      · rw [if_neg c42] at H
                                        exact absurd H (by simp)
                                  · rw [if_neg c39] at H
                                    exact absurd H (by simp)
                                · rw [if_neg c38] at H
                                  have c38b0 : decide (x16_5 < (t410.length : Int)) = false := decide_eq_false c38
                                  clear c38
                                  by_cases c46 : x15_5 = t414
                                  · rw [if_pos c46] at H
                                    have c46b0 : (x15_5 == t414) = true := beq_iff_eq.mpr c46
                                    have c46b1 : (x15_5 != t414) = false := bne_eq_false_iff_eq.mpr c46
                                    clear c46
                                    replace H := Option.bind_eq_some_iff.mp H
                                    obtain ⟨t420, A470, H⟩ := H
                                    replace H : (some t420) = some r := H
                                    have A47 := Aside0.mk A470
                                    clear A470
                                    obtain rfl := Option.some.inj H
                                    obtain ⟨Ao48, co48, eo48⟩ := Kd.R_slice HO_9.out
                                    subst eo48
                                    go_wp2_with (first | (go_at_call 16; (with_reducible refine (clochelaw03_alive.calls k5  t420 _ A47.out (by repeat (first | exact HT0.out | exact tabB HT0.out HB.out | (refine tab_alloc ?_ _) | (refine tab_drewN ?_ _) | (refine tab_drew ?_)))).mono ?_); rintro e w49 ⟨rfl, hb⟩; have n0_ := Aside0.mk (Kd.R_below (by (with_reducible repeat (first | apply Kd.R_alloc | apply Kd.R_drewN | apply Kd.R_drew)); exact HO_9.out) hb); have n1_ := Aside0.mk (below_step (by repeat (first | (with_reducible first | exact HB.out | apply below_alloc | apply pw_below_drewN | apply below_drew1) | exact HB.out)) hb); clear HO_9; clear HB; have HO_9 := n0_; have HB := n1_; clear n0_ n1_; (try clear hb); (try clear hb2); (try clear hk); (try clear hi)))
                                    go_ret
                                    exact ⟨by first | rfl | (simp [errW_none, errW_some] <;> rfl) | (simp only [← hji17]; first | rfl | (simp [errW_none, errW_some] <;> rfl)) | (simp [*, errW_none, errW_some] <;> rfl), by repeat (first | (with_reducible first | exact HB.out | apply below_alloc | apply pw_below_drewN | apply below_drew1) | exact HB.out)⟩
                                  · rw [if_neg c46] at H
                                    exact absurd H (by simp)
              · rw [if_neg c16] at H
                exact absurd H (by simp)

/-- THE ONE PURE STATEMENT of clochelaw03_VisitsGallai: yours. -/
def clochelaw03_VisitsGallai.Pure : Prop := ∀ (l0 : List Int), l0.length ≤ maxLen → l0.length * 8 ≤ 140737488351232 → (∀ x ∈ l0, (Lit.int .i64 x).wf = true) → ∃ k, clochelaw03_VisitsGallai.f k l0 = some true
theorem clochelaw03_VisitsGallai.walk (P : clochelaw03_VisitsGallai.Pure) (a0 : Option Addr) (len0 cap0 : Nat) (z0 : List Int) (w : World) (w0 : (a0 = none ∧ len0 = 0 ∧ cap0 = 0 ∧ z0 = []) ∨ ∃ x, a0 = some x ∧ len0 ≤ cap0 ∧ cap0 ≤ maxLen ∧ z0.length = cap0 ∧ (∀ i, i < z0.length → w.cell? (x.add i) = some (.int .i64 (z0.getD i 0))) ∧ ∀ n ∈ z0, (Lit.int .i64 n).wf = true) (y0 : len0 * 8 ≤ 140737488351232) (hT : Tab w) :
    Calls Tryd.prog 10 #[.slice a0 len0 cap0] w fun e w' => e = .returned (.bool true) ∧ Below w.heap.size w w' := by
  obtain ⟨l0, rfl, hr0, hm0, hw0, hc0⟩ := ReadsInt.ofRowC w0
  obtain ⟨k, h⟩ := P l0 hm0 y0 hw0
  refine (clochelaw03_VisitsGallai.calls k _ _ l0 true w (Kd.C_of_reads (d := (0 : Int)) (h1 := fun _ => rfl) hr0) hc0 h hT).mono ?_
  rintro e w' ⟨rfl, hd⟩
  exact ⟨rfl, hd⟩

end Go.Proofs.YtadfcplobidmeaaDoor.Print
