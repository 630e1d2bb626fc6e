/- What the functions of the blocks compute, printed by this repo's hand printer. -/
import Derived.Test.YtcmphfcpiciehaaPrintx0
import Derived.Test.YtcmphfcpiciehaaPrintx1
import Derived.Test.YtcmphfcpiciehaaPrintx12
import Derived.Test.YtcmphfcpiciehaaPrintx13
import Derived.Test.YtcmphfcpiciehaaPrintx14
import Derived.Test.YtcmphfcpiciehaaPrintx24
import Derived.Test.YtcmphfcpiciehaaPrintx31
namespace Go.Proofs.Ytcmphfcpiciehaa.Print
open Go.RowKit Go.Proofs.YtcmphfcpiciehaaW.PrintWords Go.Proofs.YtcmphfcpiciehaaW.PrintLast Go.Proofs.YtcmphfcpiciehaaW.PrintMore
attribute [local go_sem] max2_int min2_int max_two min_two max_three min_three max_four min_four   -- for this text's walks alone
set_option linter.unusedVariables false
set_option linter.unusedSimpArgs false

/-! ### clochelaw04_BlocksHooked: function 12 -/
mutual
def clochelaw04_BlocksHooked.j0 : Nat → List Int → Int → Bool → Option (Bool)
  | 0, _, _, _ => none
  | k + 1, x0, x1, x26 => if x26 = true then ((clochelaw04_alive.f k).bind fun t807 => (some t807)) else ((clochelaw04_wires.f x1).bind fun t808 => ((blocks_Hooks.f k x0).bind fun bt809 => ((blocks_Core.f k x0 t808).bind fun bt813 => ((blocks_Strips.f k x0 t808).bind fun bt818 => ((blocks_IsCore.f k x0 t808).bind fun bt822 => (if bt809.2 = 0 then (if bt813.2.2 = 0 then (if bt818.2 = 0 then (if bt822.2 = 0 then (clochelaw04_BlocksHooked.j1 k x0 t808 bt809.1 bt813.2.1 bt818.1 bt822.1 ((bt809.1.length : Int) != (x0.length : Int))) else (none)) else (none)) else (none)) else (none)))))))
def clochelaw04_BlocksHooked.j1 : Nat → List Int → Int → List (List Int) → Int → List (List Int) → Bool → Bool → Option (Bool)
  | 0, _, _, _, _, _, _, _ => none
  | k + 1, x0, x5, x6, x9, x11, x13, x74 => if x74 = true then (none) else (clochelaw04_BlocksHooked.l0 k x0 x5 x6 x9 x11 x13 0 0 0)
def clochelaw04_BlocksHooked.l0 : Nat → List Int → Int → List (List Int) → Int → List (List Int) → Bool → Int → Int → Int → Option (Bool)
  | 0, _, _, _, _, _, _, _, _, _ => none
  | k + 1, x0, x5, x6, x9, x11, x13, x15, x16, x17 => if x17 < (x6.length : Int) then (if 0 ≤ x17 then (if x17 < (x0.length : Int) then (if ((rd_L1 x6 x17).length : Int) = (rd x0 x17) then (clochelaw04_BlocksHooked.l1 k x0 x5 x6 x9 x11 x13 x15 x16 x17 0) else (none)) else (none)) else (none)) else (if x15 = x9 then (if x16 = (x11.length : Int) then (if (x13 == (x15 == 0)) = true then (if (x13 == (x16 == 0)) = true then ((clochelaw04_alive.f k).bind fun t824 => (some t824)) else (none)) else (none)) else (none)) else (none))
def clochelaw04_BlocksHooked.l1 : Nat → List Int → Int → List (List Int) → Int → List (List Int) → Bool → Int → Int → Int → Int → Option (Bool)
  | 0, _, _, _, _, _, _, _, _, _, _ => none
  | k + 1, x0, x5, x6, x9, x11, x13, x15, x16, x17, x18 => if 0 ≤ x17 then (if x17 < (x6.length : Int) then (if x18 < ((rd_L1 x6 x17).length : Int) then (if 0 ≤ x18 then (if (rd (rd_L1 x6 x17) x18) < 1 then (none) else (if x5 = 0 then (none) else (if (Int.tmod (rd (rd_L1 x6 x17) x18) x5) = 0 then (if (rd (rd_L1 x6 x17) x18) = x5 then (clochelaw04_BlocksHooked.l1 k x0 x5 x6 x9 x11 x13 (wrap64 (x15 + 1)) (wrap64 (x16 + 1)) x17 (wrap64 (x18 + 1))) else (clochelaw04_BlocksHooked.l1 k x0 x5 x6 x9 x11 x13 (wrap64 (x15 + 1)) x16 x17 (wrap64 (x18 + 1)))) else (if (rd (rd_L1 x6 x17) x18) = x5 then (clochelaw04_BlocksHooked.l1 k x0 x5 x6 x9 x11 x13 x15 (wrap64 (x16 + 1)) x17 (wrap64 (x18 + 1))) else (clochelaw04_BlocksHooked.l1 k x0 x5 x6 x9 x11 x13 x15 x16 x17 (wrap64 (x18 + 1))))))) else (none)) else (clochelaw04_BlocksHooked.l0 k x0 x5 x6 x9 x11 x13 x15 x16 (wrap64 (x17 + 1)))) else (none)) else (none)
end
def clochelaw04_BlocksHooked.f (k : Nat) (l0 : List Int) (a1 : Int) : Option (Bool) := (clochelaw04_few.f k l0 ([] : List (List Int))).bind fun t805 => (if t805 = true then ((clocheref04_IsShape.f k l0).bind fun t806 => (clochelaw04_BlocksHooked.j0 k l0 a1 (!t806))) else (clochelaw04_BlocksHooked.j0 k l0 a1 true))
theorem clochelaw04_BlocksHooked.mono_l : ∀ k, (∀ y0 y1 y2, LeO (clochelaw04_BlocksHooked.j0 k y0 y1 y2) (clochelaw04_BlocksHooked.j0 (k + 1) y0 y1 y2)) ∧ (∀ y0 y1 y2 y3 y4 y5 y6, LeO (clochelaw04_BlocksHooked.j1 k y0 y1 y2 y3 y4 y5 y6) (clochelaw04_BlocksHooked.j1 (k + 1) y0 y1 y2 y3 y4 y5 y6)) ∧ (∀ y0 y1 y2 y3 y4 y5 y6 y7 y8, LeO (clochelaw04_BlocksHooked.l0 k y0 y1 y2 y3 y4 y5 y6 y7 y8) (clochelaw04_BlocksHooked.l0 (k + 1) y0 y1 y2 y3 y4 y5 y6 y7 y8)) ∧ (∀ y0 y1 y2 y3 y4 y5 y6 y7 y8 y9, LeO (clochelaw04_BlocksHooked.l1 k y0 y1 y2 y3 y4 y5 y6 y7 y8 y9) (clochelaw04_BlocksHooked.l1 (k + 1) y0 y1 y2 y3 y4 y5 y6 y7 y8 y9))
  | 0 => ⟨fun _ _ _ r h => by simp [clochelaw04_BlocksHooked.j0] at h, fun _ _ _ _ _ _ _ r h => by simp [clochelaw04_BlocksHooked.j1] at h, fun _ _ _ _ _ _ _ _ _ r h => by simp [clochelaw04_BlocksHooked.l0] at h, fun _ _ _ _ _ _ _ _ _ _ r h => by simp [clochelaw04_BlocksHooked.l1] at h⟩
  | k + 1 => by
    obtain ⟨ih0, ih1, ih2, ih3⟩ := clochelaw04_BlocksHooked.mono_l k
    refine ⟨?_, ?_, ?_, ?_⟩
    · intro y0 y1 y2
      unfold clochelaw04_BlocksHooked.j0
      repeat' first
      | (with_reducible exact ih0 _ _ _)
      | (with_reducible exact ih1 _ _ _ _ _ _ _)
      | (with_reducible exact ih2 _ _ _ _ _ _ _ _ _)
      | (with_reducible exact ih3 _ _ _ _ _ _ _ _ _ _)
      | (with_reducible exact blocks_Core.mono _ _ _)
      | (with_reducible exact blocks_Hooks.mono _ _)
      | (with_reducible exact blocks_IsCore.mono _ _ _)
      | (with_reducible exact blocks_Strips.mono _ _ _)
      | (with_reducible exact clochelaw04_alive.mono _)
      | (with_reducible exact clochelaw04_few.mono _ _ _)
      | (with_reducible exact clocheref04_IsShape.mono _ _)
      | (with_reducible exact LeO.refl _)
      | (with_reducible exact LeO.none _)
      | (with_reducible refine LeO.ite ?_ ?_)
      | (with_reducible refine LeO.bind ?_ (fun _ => ?_))
      | exact ih0 _ _ _
      | exact ih1 _ _ _ _ _ _ _
      | exact ih2 _ _ _ _ _ _ _ _ _
      | exact ih3 _ _ _ _ _ _ _ _ _ _
      | exact blocks_Core.mono _ _ _
      | exact blocks_Hooks.mono _ _
      | exact blocks_IsCore.mono _ _ _
      | exact blocks_Strips.mono _ _ _
      | exact clochelaw04_alive.mono _
      | exact clochelaw04_few.mono _ _ _
      | exact clocheref04_IsShape.mono _ _
      | exact LeO.none _
      | refine LeO.ite ?_ ?_
      | refine LeO.bind ?_ (fun _ => ?_)
    · intro y0 y1 y2 y3 y4 y5 y6
      unfold clochelaw04_BlocksHooked.j1
      repeat' first
      | (with_reducible exact ih0 _ _ _)
      | (with_reducible exact ih1 _ _ _ _ _ _ _)
      | (with_reducible exact ih2 _ _ _ _ _ _ _ _ _)
      | (with_reducible exact ih3 _ _ _ _ _ _ _ _ _ _)
      | (with_reducible exact blocks_Core.mono _ _ _)
      | (with_reducible exact blocks_Hooks.mono _ _)
      | (with_reducible exact blocks_IsCore.mono _ _ _)
      | (with_reducible exact blocks_Strips.mono _ _ _)
      | (with_reducible exact clochelaw04_alive.mono _)
      | (with_reducible exact clochelaw04_few.mono _ _ _)
      | (with_reducible exact clocheref04_IsShape.mono _ _)
      | (with_reducible exact LeO.refl _)
      | (with_reducible exact LeO.none _)
      | (with_reducible refine LeO.ite ?_ ?_)
      | (with_reducible refine LeO.bind ?_ (fun _ => ?_))
      | exact ih0 _ _ _
      | exact ih1 _ _ _ _ _ _ _
      | exact ih2 _ _ _ _ _ _ _ _ _
      | exact ih3 _ _ _ _ _ _ _ _ _ _
      | exact blocks_Core.mono _ _ _
      | exact blocks_Hooks.mono _ _
      | exact blocks_IsCore.mono _ _ _
      | exact blocks_Strips.mono _ _ _
      | exact clochelaw04_alive.mono _
      | exact clochelaw04_few.mono _ _ _
      | exact clocheref04_IsShape.mono _ _
      | exact LeO.none _
      | refine LeO.ite ?_ ?_
      | refine LeO.bind ?_ (fun _ => ?_)
    · intro y0 y1 y2 y3 y4 y5 y6 y7 y8
      unfold clochelaw04_BlocksHooked.l0
      repeat' first
      | (with_reducible exact ih0 _ _ _)
      | (with_reducible exact ih1 _ _ _ _ _ _ _)
      | (with_reducible exact ih2 _ _ _ _ _ _ _ _ _)
      | (with_reducible exact ih3 _ _ _ _ _ _ _ _ _ _)
      | (with_reducible exact blocks_Core.mono _ _ _)
      | (with_reducible exact blocks_Hooks.mono _ _)
      | (with_reducible exact blocks_IsCore.mono _ _ _)
      | (with_reducible exact blocks_Strips.mono _ _ _)
      | (with_reducible exact clochelaw04_alive.mono _)
      | (with_reducible exact clochelaw04_few.mono _ _ _)
      | (with_reducible exact clocheref04_IsShape.mono _ _)
      | (with_reducible exact LeO.refl _)
      | (with_reducible exact LeO.none _)
      | (with_reducible refine LeO.ite ?_ ?_)
      | (with_reducible refine LeO.bind ?_ (fun _ => ?_))
      | exact ih0 _ _ _
      | exact ih1 _ _ _ _ _ _ _
      | exact ih2 _ _ _ _ _ _ _ _ _
      | exact ih3 _ _ _ _ _ _ _ _ _ _
      | exact blocks_Core.mono _ _ _
      | exact blocks_Hooks.mono _ _
      | exact blocks_IsCore.mono _ _ _
      | exact blocks_Strips.mono _ _ _
      | exact clochelaw04_alive.mono _
      | exact clochelaw04_few.mono _ _ _
      | exact clocheref04_IsShape.mono _ _
      | exact LeO.none _
      | refine LeO.ite ?_ ?_
      | refine LeO.bind ?_ (fun _ => ?_)
    · intro y0 y1 y2 y3 y4 y5 y6 y7 y8 y9
      unfold clochelaw04_BlocksHooked.l1
      repeat' first
      | (with_reducible exact ih0 _ _ _)
      | (with_reducible exact ih1 _ _ _ _ _ _ _)
      | (with_reducible exact ih2 _ _ _ _ _ _ _ _ _)
      | (with_reducible exact ih3 _ _ _ _ _ _ _ _ _ _)
      | (with_reducible exact blocks_Core.mono _ _ _)
      | (with_reducible exact blocks_Hooks.mono _ _)
      | (with_reducible exact blocks_IsCore.mono _ _ _)
      | (with_reducible exact blocks_Strips.mono _ _ _)
      | (with_reducible exact clochelaw04_alive.mono _)
      | (with_reducible exact clochelaw04_few.mono _ _ _)
      | (with_reducible exact clocheref04_IsShape.mono _ _)
      | (with_reducible exact LeO.refl _)
      | (with_reducible exact LeO.none _)
      | (with_reducible refine LeO.ite ?_ ?_)
      | (with_reducible refine LeO.bind ?_ (fun _ => ?_))
      | exact ih0 _ _ _
      | exact ih1 _ _ _ _ _ _ _
      | exact ih2 _ _ _ _ _ _ _ _ _
      | exact ih3 _ _ _ _ _ _ _ _ _ _
      | exact blocks_Core.mono _ _ _
      | exact blocks_Hooks.mono _ _
      | exact blocks_IsCore.mono _ _ _
      | exact blocks_Strips.mono _ _ _
      | exact clochelaw04_alive.mono _
      | exact clochelaw04_few.mono _ _ _
      | exact clocheref04_IsShape.mono _ _
      | exact LeO.none _
      | refine LeO.ite ?_ ?_
      | refine LeO.bind ?_ (fun _ => ?_)
theorem clochelaw04_BlocksHooked.mono : ∀ a0 a1 k, LeO (clochelaw04_BlocksHooked.f k a0 a1) (clochelaw04_BlocksHooked.f (k + 1) a0 a1) := by
  intro a0 a1 k
  obtain ⟨ih0, ih1, ih2, ih3⟩ := clochelaw04_BlocksHooked.mono_l k
  unfold clochelaw04_BlocksHooked.f
  repeat' first
      | (with_reducible exact ih0 _ _ _)
      | (with_reducible exact ih1 _ _ _ _ _ _ _)
      | (with_reducible exact ih2 _ _ _ _ _ _ _ _ _)
      | (with_reducible exact ih3 _ _ _ _ _ _ _ _ _ _)
      | (with_reducible exact blocks_Core.mono _ _ _)
      | (with_reducible exact blocks_Hooks.mono _ _)
      | (with_reducible exact blocks_IsCore.mono _ _ _)
      | (with_reducible exact blocks_Strips.mono _ _ _)
      | (with_reducible exact clochelaw04_alive.mono _)
      | (with_reducible exact clochelaw04_few.mono _ _ _)
      | (with_reducible exact clocheref04_IsShape.mono _ _)
      | (with_reducible exact LeO.refl _)
      | (with_reducible exact LeO.none _)
      | (with_reducible refine LeO.ite ?_ ?_)
      | (with_reducible refine LeO.bind ?_ (fun _ => ?_))
      | exact ih0 _ _ _
      | exact ih1 _ _ _ _ _ _ _
      | exact ih2 _ _ _ _ _ _ _ _ _
      | exact ih3 _ _ _ _ _ _ _ _ _ _
      | exact blocks_Core.mono _ _ _
      | exact blocks_Hooks.mono _ _
      | exact blocks_IsCore.mono _ _ _
      | exact blocks_Strips.mono _ _ _
      | exact clochelaw04_alive.mono _
      | exact clochelaw04_few.mono _ _ _
      | exact clocheref04_IsShape.mono _ _
      | exact LeO.none _
      | refine LeO.ite ?_ ?_
      | refine LeO.bind ?_ (fun _ => ?_)
set_option maxHeartbeats 8000000 in
set_option maxRecDepth 100000 in
theorem clochelaw04_BlocksHooked.calls (k : Nat) (A0 : Option Addr) (c0 : Nat) (l0 : List Int) (a1 : Int) (r : Bool) (w : World) (hr0 : Kd.C (Kd.int .i64) w A0 l0.length l0) (hc0 : l0.length ≤ c0) (h : clochelaw04_BlocksHooked.f k l0 a1 = some r) :
    Calls Try.prog 12 #[.slice A0 l0.length c0, .int .u8 a1] w fun e w' => e = .returned (.bool r) ∧ Below w.heap.size w w' := by
  have HR0 := Aside0.mk hr0
  have HC0 := Aside0.mk hc0
  clear hr0 hc0
  have HB := Aside0.mk (Below.refl w.heap.size w)
  have H : ((clochelaw04_few.f k l0 ([] : List (List Int))).bind fun t805 => (if t805 = true then ((clocheref04_IsShape.f k l0).bind fun t806 => (clochelaw04_BlocksHooked.j0 k l0 a1 (!t806))) else (clochelaw04_BlocksHooked.j0 k l0 a1 true))) = some r := h
  clear h
  have HC3 := Aside0.mk H
  clear H
  go_enter Try.func12, Try.ntmps12
  go_upto_region 1 with (fail)
  repeat (go_quiet (fail); go_upto_region 1 with (fail))
  go_cut [26] (fun v26 wc => ∃ (kq : Nat) (x26_2 : Bool), v26 = .bool x26_2 ∧ Aside0 (clochelaw04_BlocksHooked.j0 kq l0 a1 x26_2 = some r) ∧ Aside0 (kq ≤ k) ∧ Aside0 (Below w.heap.size w wc))
  case first =>
    have H := HC3.out
    clear HC3
    replace H := Option.bind_eq_some_iff.mp H
    obtain ⟨t805, A40, H⟩ := H
    replace H : (if t805 = true then ((clocheref04_IsShape.f k l0).bind fun t806 => (clochelaw04_BlocksHooked.j0 k l0 a1 (!t806))) else (clochelaw04_BlocksHooked.j0 k l0 a1 true)) = some r := H
    have A4 := Aside0.mk A40
    clear A40
    by_cases c5 : t805 = true
    · subst c5
      have H1 : ((clocheref04_IsShape.f k l0).bind fun t806 => (clochelaw04_BlocksHooked.j0 k l0 a1 (!t806))) = some r := by rw [if_pos rfl] at H; exact H
      clear H
      have H := H1
      clear H1
      replace H := Option.bind_eq_some_iff.mp H
      obtain ⟨t806, A60, H⟩ := H
      replace H : (clochelaw04_BlocksHooked.j0 k l0 a1 (!t806)) = some r := H
      have A6 := Aside0.mk A60
      clear A60
      have H' := Aside0.mk H
      clear H
      go_wp2_with (first | (go_at_call 15; (refine (clochelaw04_few.calls k _ _ l0 _ _ ([] : List (List Int)) true _ ?side1 ?side2 ?side3 ?side4 A4.out).mono ?_); (case side1 => repeat (first | exact (Kd.C_below HR0.out HB.out) | (with_reducible refine Kd.C_alloc ?_ _) | (with_reducible refine Kd.C_drewN ?_ _) | (with_reducible refine Kd.C_drew ?_))); (case side2 => exact HC0.out); (case side3 => exact Kd.C_nil _ _); (case side4 => exact Nat.le_refl _); rintro e w' ⟨rfl, ⟨nd, rfl⟩⟩; (try first | exact ⟨rfl, _, World.drewN_drewN _ _ _⟩ | exact ⟨rfl, _, Eq.trans (World.drewN_drewN _ _ _) (congrArg (World.drewN _) (Nat.add_assoc _ _ _))⟩)) | (go_at_call 25; (with_reducible refine (clocheref04_IsShape.calls k _ _ l0 t806 _ ?side1 ?side2 A6.out).mono ?_); (case side1 => repeat (first | exact (Kd.C_below HR0.out (by repeat (first | (with_reducible first | exact HB.out | apply below_alloc | apply pw_below_drewN | apply below_drew1) | exact HB.out))) | (with_reducible refine Kd.C_alloc ?_ _) | (with_reducible refine Kd.C_drewN ?_ _) | (with_reducible refine Kd.C_drew ?_))); (case side2 => exact HC0.out); rintro e w' ⟨rfl, ⟨nd, rfl⟩⟩; (try first | exact ⟨rfl, _, World.drewN_drewN _ _ _⟩ | exact ⟨rfl, _, Eq.trans (World.drewN_drewN _ _ _) (congrArg (World.drewN _) (Nat.add_assoc _ _ _))⟩)))
      repeat (go_quiet (first | (go_at_call 15; (refine (clochelaw04_few.calls k _ _ l0 _ _ ([] : List (List Int)) true _ ?side1 ?side2 ?side3 ?side4 A4.out).mono ?_); (case side1 => repeat (first | exact (Kd.C_below HR0.out HB.out) | (with_reducible refine Kd.C_alloc ?_ _) | (with_reducible refine Kd.C_drewN ?_ _) | (with_reducible refine Kd.C_drew ?_))); (case side2 => exact HC0.out); (case side3 => exact Kd.C_nil _ _); (case side4 => exact Nat.le_refl _); rintro e w' ⟨rfl, ⟨nd, rfl⟩⟩; (try first | exact ⟨rfl, _, World.drewN_drewN _ _ _⟩ | exact ⟨rfl, _, Eq.trans (World.drewN_drewN _ _ _) (congrArg (World.drewN _) (Nat.add_assoc _ _ _))⟩)) | (go_at_call 25; (with_reducible refine (clocheref04_IsShape.calls k _ _ l0 t806 _ ?side1 ?side2 A6.out).mono ?_); (case side1 => repeat (first | exact (Kd.C_below HR0.out (by repeat (first | (with_reducible first | exact HB.out | apply below_alloc | apply pw_below_drewN | apply below_drew1) | exact HB.out))) | (with_reducible refine Kd.C_alloc ?_ _) | (with_reducible refine Kd.C_drewN ?_ _) | (with_reducible refine Kd.C_drew ?_))); (case side2 => exact HC0.out); rintro e w' ⟨rfl, ⟨nd, rfl⟩⟩; (try first | exact ⟨rfl, _, World.drewN_drewN _ _ _⟩ | exact ⟨rfl, _, Eq.trans (World.drewN_drewN _ _ _) (congrArg (World.drewN _) (Nat.add_assoc _ _ _))⟩))); try go_wp2_with (first | (go_at_call 15; (refine (clochelaw04_few.calls k _ _ l0 _ _ ([] : List (List Int)) true _ ?side1 ?side2 ?side3 ?side4 A4.out).mono ?_); (case side1 => repeat (first | exact (Kd.C_below HR0.out HB.out) | (with_reducible refine Kd.C_alloc ?_ _) | (with_reducible refine Kd.C_drewN ?_ _) | (with_reducible refine Kd.C_drew ?_))); (case side2 => exact HC0.out); (case side3 => exact Kd.C_nil _ _); (case side4 => exact Nat.le_refl _); rintro e w' ⟨rfl, ⟨nd, rfl⟩⟩; (try first | exact ⟨rfl, _, World.drewN_drewN _ _ _⟩ | exact ⟨rfl, _, Eq.trans (World.drewN_drewN _ _ _) (congrArg (World.drewN _) (Nat.add_assoc _ _ _))⟩)) | (go_at_call 25; (with_reducible refine (clocheref04_IsShape.calls k _ _ l0 t806 _ ?side1 ?side2 A6.out).mono ?_); (case side1 => repeat (first | exact (Kd.C_below HR0.out (by repeat (first | (with_reducible first | exact HB.out | apply below_alloc | apply pw_below_drewN | apply below_drew1) | exact HB.out))) | (with_reducible refine Kd.C_alloc ?_ _) | (with_reducible refine Kd.C_drewN ?_ _) | (with_reducible refine Kd.C_drew ?_))); (case side2 => exact HC0.out); rintro e w' ⟨rfl, ⟨nd, rfl⟩⟩; (try first | exact ⟨rfl, _, World.drewN_drewN _ _ _⟩ | exact ⟨rfl, _, Eq.trans (World.drewN_drewN _ _ _) (congrArg (World.drewN _) (Nat.add_assoc _ _ _))⟩))))
      go_meet
      case rel => exact ⟨_, (!t806), (by first | rfl | (simp; done) | (simp [*]; done)), H', ⟨by first | omega | exact Nat.le_refl _⟩, ⟨by repeat (first | (with_reducible first | exact HB.out | apply below_alloc | apply pw_below_drewN | apply below_drew1) | exact HB.out)⟩⟩
    · replace c5 := Bool.eq_false_iff.mpr c5
      subst c5
      have H1 : (clochelaw04_BlocksHooked.j0 k l0 a1 true) = some r := by rw [if_neg (show ¬ (false = true) by decide)] at H; exact H
      clear H
      have H := H1
      clear H1
      have H' := Aside0.mk H
      clear H
      go_wp2_with (first | (go_at_call 15; (refine (clochelaw04_few.calls k _ _ l0 _ _ ([] : List (List Int)) false _ ?side1 ?side2 ?side3 ?side4 A4.out).mono ?_); (case side1 => repeat (first | exact (Kd.C_below HR0.out HB.out) | (with_reducible refine Kd.C_alloc ?_ _) | (with_reducible refine Kd.C_drewN ?_ _) | (with_reducible refine Kd.C_drew ?_))); (case side2 => exact HC0.out); (case side3 => exact Kd.C_nil _ _); (case side4 => exact Nat.le_refl _); rintro e w' ⟨rfl, ⟨nd, rfl⟩⟩; (try first | exact ⟨rfl, _, World.drewN_drewN _ _ _⟩ | exact ⟨rfl, _, Eq.trans (World.drewN_drewN _ _ _) (congrArg (World.drewN _) (Nat.add_assoc _ _ _))⟩)))
      repeat (go_quiet (first | (go_at_call 15; (refine (clochelaw04_few.calls k _ _ l0 _ _ ([] : List (List Int)) false _ ?side1 ?side2 ?side3 ?side4 A4.out).mono ?_); (case side1 => repeat (first | exact (Kd.C_below HR0.out HB.out) | (with_reducible refine Kd.C_alloc ?_ _) | (with_reducible refine Kd.C_drewN ?_ _) | (with_reducible refine Kd.C_drew ?_))); (case side2 => exact HC0.out); (case side3 => exact Kd.C_nil _ _); (case side4 => exact Nat.le_refl _); rintro e w' ⟨rfl, ⟨nd, rfl⟩⟩; (try first | exact ⟨rfl, _, World.drewN_drewN _ _ _⟩ | exact ⟨rfl, _, Eq.trans (World.drewN_drewN _ _ _) (congrArg (World.drewN _) (Nat.add_assoc _ _ _))⟩))); try go_wp2_with (first | (go_at_call 15; (refine (clochelaw04_few.calls k _ _ l0 _ _ ([] : List (List Int)) false _ ?side1 ?side2 ?side3 ?side4 A4.out).mono ?_); (case side1 => repeat (first | exact (Kd.C_below HR0.out HB.out) | (with_reducible refine Kd.C_alloc ?_ _) | (with_reducible refine Kd.C_drewN ?_ _) | (with_reducible refine Kd.C_drew ?_))); (case side2 => exact HC0.out); (case side3 => exact Kd.C_nil _ _); (case side4 => exact Nat.le_refl _); rintro e w' ⟨rfl, ⟨nd, rfl⟩⟩; (try first | exact ⟨rfl, _, World.drewN_drewN _ _ _⟩ | exact ⟨rfl, _, Eq.trans (World.drewN_drewN _ _ _) (congrArg (World.drewN _) (Nat.add_assoc _ _ _))⟩))))
      go_meet
      case rel => exact ⟨_, (true), (by first | rfl | (simp; done) | (simp [*]; done)), H', ⟨by first | omega | exact Nat.le_refl _⟩, ⟨by repeat (first | (with_reducible first | exact HB.out | apply below_alloc | apply pw_below_drewN | apply below_drew1) | exact HB.out)⟩⟩
  case rest =>
    clear HC3
    try clear c1
    try clear p2
    try clear c5
    obtain ⟨kq, x26_2, rfl, HA, HJ2, HB⟩ := hcut
    cases kq with
    | zero => exact absurd HA.out (by simp [clochelaw04_BlocksHooked.j0])
    | succ kj2 =>
      have H := HA.out
      clear HA
      simp only [clochelaw04_BlocksHooked.j0] at H
      by_cases c7 : x26_2 = true
      · subst c7
        have H1 : ((clochelaw04_alive.f kj2).bind fun t807 => (some t807)) = some r := by rw [if_pos rfl] at H; exact H
        clear H
        have H := H1
        clear H1
        replace H := Option.bind_eq_some_iff.mp H
        obtain ⟨t807, A80, H⟩ := H
        replace H : (some t807) = some r := H
        have A8 := Aside0.mk A80
        clear A80
        obtain rfl := Option.some.inj H
        go_wp2_with (first | (go_at_call 16; (with_reducible refine (clochelaw04_alive.calls kj2  t807 _ A8.out).mono ?_); rintro e w9 ⟨rfl, hb⟩; have n0_ := Aside0.mk (below_step (by repeat (first | (with_reducible first | exact HB.out | apply below_alloc | apply pw_below_drewN | apply below_drew1) | exact HB.out)) hb); clear HB; have HB := n0_; clear n0_; (try clear hb); (try clear hb2); (try clear hk); (try clear hi)))
        repeat (go_quiet (first | (go_at_call 16; (with_reducible refine (clochelaw04_alive.calls kj2  t807 _ A8.out).mono ?_); rintro e w9 ⟨rfl, hb⟩; have n0_ := Aside0.mk (below_step (by repeat (first | (with_reducible first | exact HB.out | apply below_alloc | apply pw_below_drewN | apply below_drew1) | exact HB.out)) hb); clear HB; have HB := n0_; clear n0_; (try clear hb); (try clear hb2); (try clear hk); (try clear hi))); try go_wp2_with (first | (go_at_call 16; (with_reducible refine (clochelaw04_alive.calls kj2  t807 _ A8.out).mono ?_); rintro e w9 ⟨rfl, hb⟩; have n0_ := Aside0.mk (below_step (by repeat (first | (with_reducible first | exact HB.out | apply below_alloc | apply pw_below_drewN | apply below_drew1) | exact HB.out)) hb); clear HB; have HB := n0_; clear n0_; (try clear hb); (try clear hb2); (try clear hk); (try clear hi))))
        go_ret
        exact ⟨by first | rfl | (simp [errW_none, errW_some] <;> rfl) | (simp [*, errW_none, errW_some] <;> rfl), by repeat (first | (with_reducible first | exact HB.out | apply below_alloc | apply pw_below_drewN | apply below_drew1) | exact HB.out)⟩
      · replace c7 := Bool.eq_false_iff.mpr c7
        subst c7
        have H1 : ((clochelaw04_wires.f a1).bind fun t808 => ((blocks_Hooks.f kj2 l0).bind fun bt809 => ((blocks_Core.f kj2 l0 t808).bind fun bt813 => ((blocks_Strips.f kj2 l0 t808).bind fun bt818 => ((blocks_IsCore.f kj2 l0 t808).bind fun bt822 => (if bt809.2 = 0 then (if bt813.2.2 = 0 then (if bt818.2 = 0 then (if bt822.2 = 0 then (clochelaw04_BlocksHooked.j1 kj2 l0 t808 bt809.1 bt813.2.1 bt818.1 bt822.1 ((bt809.1.length : Int) != (l0.length : Int))) else (none)) else (none)) else (none)) else (none))))))) = some r := by rw [if_neg (show ¬ (false = true) by decide)] at H; exact H
        clear H
        have H := H1
        clear H1
        replace H := Option.bind_eq_some_iff.mp H
        obtain ⟨t808, A100, H⟩ := H
        replace H : ((blocks_Hooks.f kj2 l0).bind fun bt809 => ((blocks_Core.f kj2 l0 t808).bind fun bt813 => ((blocks_Strips.f kj2 l0 t808).bind fun bt818 => ((blocks_IsCore.f kj2 l0 t808).bind fun bt822 => (if bt809.2 = 0 then (if bt813.2.2 = 0 then (if bt818.2 = 0 then (if bt822.2 = 0 then (clochelaw04_BlocksHooked.j1 kj2 l0 t808 bt809.1 bt813.2.1 bt818.1 bt822.1 ((bt809.1.length : Int) != (l0.length : Int))) else (none)) else (none)) else (none)) else (none)))))) = some r := H
        have A10 := Aside0.mk A100
        clear A100
        replace H := Option.bind_eq_some_iff.mp H
        obtain ⟨⟨t809, t810⟩, A110, H⟩ := H
        replace H : ((blocks_Core.f kj2 l0 t808).bind fun bt813 => ((blocks_Strips.f kj2 l0 t808).bind fun bt818 => ((blocks_IsCore.f kj2 l0 t808).bind fun bt822 => (if t810 = 0 then (if bt813.2.2 = 0 then (if bt818.2 = 0 then (if bt822.2 = 0 then (clochelaw04_BlocksHooked.j1 kj2 l0 t808 t809 bt813.2.1 bt818.1 bt822.1 ((t809.length : Int) != (l0.length : Int))) else (none)) else (none)) else (none)) else (none))))) = some r := H
        have A11 := Aside0.mk A110
        clear A110
        replace H := Option.bind_eq_some_iff.mp H
        obtain ⟨⟨t813, t814, t815⟩, A120, H⟩ := H
        replace H : ((blocks_Strips.f kj2 l0 t808).bind fun bt818 => ((blocks_IsCore.f kj2 l0 t808).bind fun bt822 => (if t810 = 0 then (if t815 = 0 then (if bt818.2 = 0 then (if bt822.2 = 0 then (clochelaw04_BlocksHooked.j1 kj2 l0 t808 t809 t814 bt818.1 bt822.1 ((t809.length : Int) != (l0.length : Int))) else (none)) else (none)) else (none)) else (none)))) = some r := H
        have A12 := Aside0.mk A120
        clear A120
        replace H := Option.bind_eq_some_iff.mp H
        obtain ⟨⟨t818, t819⟩, A130, H⟩ := H
        replace H : ((blocks_IsCore.f kj2 l0 t808).bind fun bt822 => (if t810 = 0 then (if t815 = 0 then (if t819 = 0 then (if bt822.2 = 0 then (clochelaw04_BlocksHooked.j1 kj2 l0 t808 t809 t814 t818 bt822.1 ((t809.length : Int) != (l0.length : Int))) else (none)) else (none)) else (none)) else (none))) = some r := H
        have A13 := Aside0.mk A130
        clear A130
        replace H := Option.bind_eq_some_iff.mp H
        obtain ⟨⟨t822, t823⟩, A140, H⟩ := H
        replace H : (if t810 = 0 then (if t815 = 0 then (if t819 = 0 then (if t823 = 0 then (clochelaw04_BlocksHooked.j1 kj2 l0 t808 t809 t814 t818 t822 ((t809.length : Int) != (l0.length : Int))) else (none)) else (none)) else (none)) else (none)) = some r := H
        have A14 := Aside0.mk A140
        clear A140
        have HC15 := Aside0.mk H
        clear H
        go_upto_region 8 with (first | (go_at_call 26; (with_reducible refine (clochelaw04_wires.calls a1 t808 _ A10.out).mono ?_); rintro e w' ⟨rfl, ⟨nd, rfl⟩⟩; (try first | exact ⟨rfl, _, World.drewN_drewN _ _ _⟩ | exact ⟨rfl, _, Eq.trans (World.drewN_drewN _ _ _) (congrArg (World.drewN _) (Nat.add_assoc _ _ _))⟩)) | (go_at_call 30; (with_reducible refine (blocks_Hooks.calls kj2 _ _ l0 t809 t810 _ ?side1 ?side2 A11.out).mono ?_); (case side1 => repeat (first | exact (Kd.C_below HR0.out (by repeat (first | (with_reducible first | exact HB.out | apply below_alloc | apply pw_below_drewN | apply below_drew1) | exact HB.out))) | (with_reducible refine Kd.C_alloc ?_ _) | (with_reducible refine Kd.C_drewN ?_ _) | (with_reducible refine Kd.C_drew ?_))); (case side2 => exact HC0.out); rintro e w16 ⟨v811, rfl, ho0, hb⟩; have n0_ := Aside0.mk (Kd.S_lower ho0 (below_size (by repeat (first | (with_reducible first | exact HB.out | apply below_alloc | apply pw_below_drewN | apply below_drew1) | exact HB.out)))); have n1_ := Aside0.mk (below_step (by repeat (first | (with_reducible first | exact HB.out | apply below_alloc | apply pw_below_drewN | apply below_drew1) | exact HB.out)) hb); clear HB; have HO812 := n0_; have HB := n1_; clear n0_ n1_; (try clear hb); (try clear hb2); (try clear hk); (try clear hi); (try clear ho0)) | (go_at_call 27; (with_reducible refine (blocks_Core.calls kj2 _ _ l0 t808 t813 t814 t815 _ ?side1 ?side2 A12.out).mono ?_); (case side1 => repeat (first | exact (Kd.C_below HR0.out HB.out) | (with_reducible refine Kd.C_alloc ?_ _) | (with_reducible refine Kd.C_drewN ?_ _) | (with_reducible refine Kd.C_drew ?_))); (case side2 => exact HC0.out); rintro e w17 ⟨v816, rfl, ho0, hb⟩; have n0_ := Aside0.mk (Kd.S_elder' (by (with_reducible repeat (first | apply Kd.S_alloc | apply Kd.S_drewN | apply Kd.S_drew)); exact HO812.out) (Kd.R_base ho0) hb); have n1_ := Aside0.mk (Kd.R_lower ho0 (below_size (by repeat (first | (with_reducible first | exact HB.out | apply below_alloc | apply pw_below_drewN | apply below_drew1) | exact HB.out)))); have n2_ := Aside0.mk (below_step (by repeat (first | (with_reducible first | exact HB.out | apply below_alloc | apply pw_below_drewN | apply below_drew1) | exact HB.out)) hb); clear HO812; clear HB; have HO812 := n0_; have HO817 := n1_; have HB := n2_; clear n0_ n1_ n2_; (try clear hb); (try clear hb2); (try clear hk); (try clear hi); (try clear ho0)) | (go_at_call 38; (with_reducible refine (blocks_Strips.calls kj2 _ _ l0 t808 t818 t819 _ ?side1 ?side2 A13.out).mono ?_); (case side1 => repeat (first | exact (Kd.C_below HR0.out HB.out) | (with_reducible refine Kd.C_alloc ?_ _) | (with_reducible refine Kd.C_drewN ?_ _) | (with_reducible refine Kd.C_drew ?_))); (case side2 => exact HC0.out); rintro e w18 ⟨v820, rfl, ho0, hb⟩; have n0_ := Aside0.mk (Kd.S_elder' (by (with_reducible repeat (first | apply Kd.S_alloc | apply Kd.S_drewN | apply Kd.S_drew)); exact HO812.out) (Kd.S_base ho0) hb); have n1_ := Aside0.mk (Kd.R_below (by (with_reducible repeat (first | apply Kd.R_alloc | apply Kd.R_drewN | apply Kd.R_drew)); exact HO817.out) hb); have n2_ := Aside0.mk (Kd.S_lower (Kd.S_new' (Kd.S_new' ho0 (Kd.S_lt (by (with_reducible repeat (first | apply Kd.S_alloc | apply Kd.S_drewN | apply Kd.S_drew)); exact HO812.out))) (Kd.R_lt (by (with_reducible repeat (first | apply Kd.R_alloc | apply Kd.R_drewN | apply Kd.R_drew)); exact HO817.out))) (below_size (by repeat (first | (with_reducible first | exact HB.out | apply below_alloc | apply pw_below_drewN | apply below_drew1) | exact HB.out)))); have n3_ := Aside0.mk (below_step (by repeat (first | (with_reducible first | exact HB.out | apply below_alloc | apply pw_below_drewN | apply below_drew1) | exact HB.out)) hb); clear HO812; clear HO817; clear HB; have HO812 := n0_; have HO817 := n1_; have HO821 := n2_; have HB := n3_; clear n0_ n1_ n2_ n3_; (try clear hb); (try clear hb2); (try clear hk); (try clear hi); (try clear ho0)) | (go_at_call 41; (with_reducible refine (blocks_IsCore.calls kj2 _ _ l0 t808 t822 t823 _ ?side1 ?side2 A14.out).mono ?_); (case side1 => repeat (first | exact (Kd.C_below HR0.out HB.out) | (with_reducible refine Kd.C_alloc ?_ _) | (with_reducible refine Kd.C_drewN ?_ _) | (with_reducible refine Kd.C_drew ?_))); (case side2 => exact HC0.out); rintro e w19 ⟨rfl, hb⟩; have n0_ := Aside0.mk (Kd.S_below (by (with_reducible repeat (first | apply Kd.S_alloc | apply Kd.S_drewN | apply Kd.S_drew)); exact HO812.out) hb); have n1_ := Aside0.mk (Kd.R_below (by (with_reducible repeat (first | apply Kd.R_alloc | apply Kd.R_drewN | apply Kd.R_drew)); exact HO817.out) hb); have n2_ := Aside0.mk (Kd.S_below (by (with_reducible repeat (first | apply Kd.S_alloc | apply Kd.S_drewN | apply Kd.S_drew)); exact HO821.out) hb); have n3_ := Aside0.mk (below_step (by repeat (first | (with_reducible first | exact HB.out | apply below_alloc | apply pw_below_drewN | apply below_drew1) | exact HB.out)) hb); clear HO812; clear HO817; clear HO821; clear HB; have HO812 := n0_; have HO817 := n1_; have HO821 := n2_; have HB := n3_; clear n0_ n1_ n2_ n3_; (try clear hb); (try clear hb2); (try clear hk); (try clear hi)))
        repeat (go_quiet (first | (go_at_call 26; (with_reducible refine (clochelaw04_wires.calls a1 t808 _ A10.out).mono ?_); rintro e w' ⟨rfl, ⟨nd, rfl⟩⟩; (try first | exact ⟨rfl, _, World.drewN_drewN _ _ _⟩ | exact ⟨rfl, _, Eq.trans (World.drewN_drewN _ _ _) (congrArg (World.drewN _) (Nat.add_assoc _ _ _))⟩)) | (go_at_call 30; (with_reducible refine (blocks_Hooks.calls kj2 _ _ l0 t809 t810 _ ?side1 ?side2 A11.out).mono ?_); (case side1 => repeat (first | exact (Kd.C_below HR0.out (by repeat (first | (with_reducible first | exact HB.out | apply below_alloc | apply pw_below_drewN | apply below_drew1) | exact HB.out))) | (with_reducible refine Kd.C_alloc ?_ _) | (with_reducible refine Kd.C_drewN ?_ _) | (with_reducible refine Kd.C_drew ?_))); (case side2 => exact HC0.out); rintro e w16 ⟨v811, rfl, ho0, hb⟩; have n0_ := Aside0.mk (Kd.S_lower ho0 (below_size (by repeat (first | (with_reducible first | exact HB.out | apply below_alloc | apply pw_below_drewN | apply below_drew1) | exact HB.out)))); have n1_ := Aside0.mk (below_step (by repeat (first | (with_reducible first | exact HB.out | apply below_alloc | apply pw_below_drewN | apply below_drew1) | exact HB.out)) hb); clear HB; have HO812 := n0_; have HB := n1_; clear n0_ n1_; (try clear hb); (try clear hb2); (try clear hk); (try clear hi); (try clear ho0)) | (go_at_call 27; (with_reducible refine (blocks_Core.calls kj2 _ _ l0 t808 t813 t814 t815 _ ?side1 ?side2 A12.out).mono ?_); (case side1 => repeat (first | exact (Kd.C_below HR0.out HB.out) | (with_reducible refine Kd.C_alloc ?_ _) | (with_reducible refine Kd.C_drewN ?_ _) | (with_reducible refine Kd.C_drew ?_))); (case side2 => exact HC0.out); rintro e w17 ⟨v816, rfl, ho0, hb⟩; have n0_ := Aside0.mk (Kd.S_elder' (by (with_reducible repeat (first | apply Kd.S_alloc | apply Kd.S_drewN | apply Kd.S_drew)); exact HO812.out) (Kd.R_base ho0) hb); have n1_ := Aside0.mk (Kd.R_lower ho0 (below_size (by repeat (first | (with_reducible first | exact HB.out | apply below_alloc | apply pw_below_drewN | apply below_drew1) | exact HB.out)))); have n2_ := Aside0.mk (below_step (by repeat (first | (with_reducible first | exact HB.out | apply below_alloc | apply pw_below_drewN | apply below_drew1) | exact HB.out)) hb); clear HO812; clear HB; have HO812 := n0_; have HO817 := n1_; have HB := n2_; clear n0_ n1_ n2_; (try clear hb); (try clear hb2); (try clear hk); (try clear hi); (try clear ho0)) | (go_at_call 38; (with_reducible refine (blocks_Strips.calls kj2 _ _ l0 t808 t818 t819 _ ?side1 ?side2 A13.out).mono ?_); (case side1 => repeat (first | exact (Kd.C_below HR0.out HB.out) | (with_reducible refine Kd.C_alloc ?_ _) | (with_reducible refine Kd.C_drewN ?_ _) | (with_reducible refine Kd.C_drew ?_))); (case side2 => exact HC0.out); rintro e w18 ⟨v820, rfl, ho0, hb⟩; have n0_ := Aside0.mk (Kd.S_elder' (by (with_reducible repeat (first | apply Kd.S_alloc | apply Kd.S_drewN | apply Kd.S_drew)); exact HO812.out) (Kd.S_base ho0) hb); have n1_ := Aside0.mk (Kd.R_below (by (with_reducible repeat (first | apply Kd.R_alloc | apply Kd.R_drewN | apply Kd.R_drew)); exact HO817.out) hb); have n2_ := Aside0.mk (Kd.S_lower (Kd.S_new' (Kd.S_new' ho0 (Kd.S_lt (by (with_reducible repeat (first | apply Kd.S_alloc | apply Kd.S_drewN | apply Kd.S_drew)); exact HO812.out))) (Kd.R_lt (by (with_reducible repeat (first | apply Kd.R_alloc | apply Kd.R_drewN | apply Kd.R_drew)); exact HO817.out))) (below_size (by repeat (first | (with_reducible first | exact HB.out | apply below_alloc | apply pw_below_drewN | apply below_drew1) | exact HB.out)))); have n3_ := Aside0.mk (below_step (by repeat (first | (with_reducible first | exact HB.out | apply below_alloc | apply pw_below_drewN | apply below_drew1) | exact HB.out)) hb); clear HO812; clear HO817; clear HB; have HO812 := n0_; have HO817 := n1_; have HO821 := n2_; have HB := n3_; clear n0_ n1_ n2_ n3_; (try clear hb); (try clear hb2); (try clear hk); (try clear hi); (try clear ho0)) | (go_at_call 41; (with_reducible refine (blocks_IsCore.calls kj2 _ _ l0 t808 t822 t823 _ ?side1 ?side2 A14.out).mono ?_); (case side1 => repeat (first | exact (Kd.C_below HR0.out HB.out) | (with_reducible refine Kd.C_alloc ?_ _) | (with_reducible refine Kd.C_drewN ?_ _) | (with_reducible refine Kd.C_drew ?_))); (case side2 => exact HC0.out); rintro e w19 ⟨rfl, hb⟩; have n0_ := Aside0.mk (Kd.S_below (by (with_reducible repeat (first | apply Kd.S_alloc | apply Kd.S_drewN | apply Kd.S_drew)); exact HO812.out) hb); have n1_ := Aside0.mk (Kd.R_below (by (with_reducible repeat (first | apply Kd.R_alloc | apply Kd.R_drewN | apply Kd.R_drew)); exact HO817.out) hb); have n2_ := Aside0.mk (Kd.S_below (by (with_reducible repeat (first | apply Kd.S_alloc | apply Kd.S_drewN | apply Kd.S_drew)); exact HO821.out) hb); have n3_ := Aside0.mk (below_step (by repeat (first | (with_reducible first | exact HB.out | apply below_alloc | apply pw_below_drewN | apply below_drew1) | exact HB.out)) hb); clear HO812; clear HO817; clear HO821; clear HB; have HO812 := n0_; have HO817 := n1_; have HO821 := n2_; have HB := n3_; clear n0_ n1_ n2_ n3_; (try clear hb); (try clear hb2); (try clear hk); (try clear hi))); go_upto_region 8 with (first | (go_at_call 26; (with_reducible refine (clochelaw04_wires.calls a1 t808 _ A10.out).mono ?_); rintro e w' ⟨rfl, ⟨nd, rfl⟩⟩; (try first | exact ⟨rfl, _, World.drewN_drewN _ _ _⟩ | exact ⟨rfl, _, Eq.trans (World.drewN_drewN _ _ _) (congrArg (World.drewN _) (Nat.add_assoc _ _ _))⟩)) | (go_at_call 30; (with_reducible refine (blocks_Hooks.calls kj2 _ _ l0 t809 t810 _ ?side1 ?side2 A11.out).mono ?_); (case side1 => repeat (first | exact (Kd.C_below HR0.out (by repeat (first | (with_reducible first | exact HB.out | apply below_alloc | apply pw_below_drewN | apply below_drew1) | exact HB.out))) | (with_reducible refine Kd.C_alloc ?_ _) | (with_reducible refine Kd.C_drewN ?_ _) | (with_reducible refine Kd.C_drew ?_))); (case side2 => exact HC0.out); rintro e w16 ⟨v811, rfl, ho0, hb⟩; have n0_ := Aside0.mk (Kd.S_lower ho0 (below_size (by repeat (first | (with_reducible first | exact HB.out | apply below_alloc | apply pw_below_drewN | apply below_drew1) | exact HB.out)))); have n1_ := Aside0.mk (below_step (by repeat (first | (with_reducible first | exact HB.out | apply below_alloc | apply pw_below_drewN | apply below_drew1) | exact HB.out)) hb); clear HB; have HO812 := n0_; have HB := n1_; clear n0_ n1_; (try clear hb); (try clear hb2); (try clear hk); (try clear hi); (try clear ho0)) | (go_at_call 27; (with_reducible refine (blocks_Core.calls kj2 _ _ l0 t808 t813 t814 t815 _ ?side1 ?side2 A12.out).mono ?_); (case side1 => repeat (first | exact (Kd.C_below HR0.out HB.out) | (with_reducible refine Kd.C_alloc ?_ _) | (with_reducible refine Kd.C_drewN ?_ _) | (with_reducible refine Kd.C_drew ?_))); (case side2 => exact HC0.out); rintro e w17 ⟨v816, rfl, ho0, hb⟩; have n0_ := Aside0.mk (Kd.S_elder' (by (with_reducible repeat (first | apply Kd.S_alloc | apply Kd.S_drewN | apply Kd.S_drew)); exact HO812.out) (Kd.R_base ho0) hb); have n1_ := Aside0.mk (Kd.R_lower ho0 (below_size (by repeat (first | (with_reducible first | exact HB.out | apply below_alloc | apply pw_below_drewN | apply below_drew1) | exact HB.out)))); have n2_ := Aside0.mk (below_step (by repeat (first | (with_reducible first | exact HB.out | apply below_alloc | apply pw_below_drewN | apply below_drew1) | exact HB.out)) hb); clear HO812; clear HB; have HO812 := n0_; have HO817 := n1_; have HB := n2_; clear n0_ n1_ n2_; (try clear hb); (try clear hb2); (try clear hk); (try clear hi); (try clear ho0)) | (go_at_call 38; (with_reducible refine (blocks_Strips.calls kj2 _ _ l0 t808 t818 t819 _ ?side1 ?side2 A13.out).mono ?_); (case side1 => repeat (first | exact (Kd.C_below HR0.out HB.out) | (with_reducible refine Kd.C_alloc ?_ _) | (with_reducible refine Kd.C_drewN ?_ _) | (with_reducible refine Kd.C_drew ?_))); (case side2 => exact HC0.out); rintro e w18 ⟨v820, rfl, ho0, hb⟩; have n0_ := Aside0.mk (Kd.S_elder' (by (with_reducible repeat (first | apply Kd.S_alloc | apply Kd.S_drewN | apply Kd.S_drew)); exact HO812.out) (Kd.S_base ho0) hb); have n1_ := Aside0.mk (Kd.R_below (by (with_reducible repeat (first | apply Kd.R_alloc | apply Kd.R_drewN | apply Kd.R_drew)); exact HO817.out) hb); have n2_ := Aside0.mk (Kd.S_lower (Kd.S_new' (Kd.S_new' ho0 (Kd.S_lt (by (with_reducible repeat (first | apply Kd.S_alloc | apply Kd.S_drewN | apply Kd.S_drew)); exact HO812.out))) (Kd.R_lt (by (with_reducible repeat (first | apply Kd.R_alloc | apply Kd.R_drewN | apply Kd.R_drew)); exact HO817.out))) (below_size (by repeat (first | (with_reducible first | exact HB.out | apply below_alloc | apply pw_below_drewN | apply below_drew1) | exact HB.out)))); have n3_ := Aside0.mk (below_step (by repeat (first | (with_reducible first | exact HB.out | apply below_alloc | apply pw_below_drewN | apply below_drew1) | exact HB.out)) hb); clear HO812; clear HO817; clear HB; have HO812 := n0_; have HO817 := n1_; have HO821 := n2_; have HB := n3_; clear n0_ n1_ n2_ n3_; (try clear hb); (try clear hb2); (try clear hk); (try clear hi); (try clear ho0)) | (go_at_call 41; (with_reducible refine (blocks_IsCore.calls kj2 _ _ l0 t808 t822 t823 _ ?side1 ?side2 A14.out).mono ?_); (case side1 => repeat (first | exact (Kd.C_below HR0.out HB.out) | (with_reducible refine Kd.C_alloc ?_ _) | (with_reducible refine Kd.C_drewN ?_ _) | (with_reducible refine Kd.C_drew ?_))); (case side2 => exact HC0.out); rintro e w19 ⟨rfl, hb⟩; have n0_ := Aside0.mk (Kd.S_below (by (with_reducible repeat (first | apply Kd.S_alloc | apply Kd.S_drewN | apply Kd.S_drew)); exact HO812.out) hb); have n1_ := Aside0.mk (Kd.R_below (by (with_reducible repeat (first | apply Kd.R_alloc | apply Kd.R_drewN | apply Kd.R_drew)); exact HO817.out) hb); have n2_ := Aside0.mk (Kd.S_below (by (with_reducible repeat (first | apply Kd.S_alloc | apply Kd.S_drewN | apply Kd.S_drew)); exact HO821.out) hb); have n3_ := Aside0.mk (below_step (by repeat (first | (with_reducible first | exact HB.out | apply below_alloc | apply pw_below_drewN | apply below_drew1) | exact HB.out)) hb); clear HO812; clear HO817; clear HO821; clear HB; have HO812 := n0_; have HO817 := n1_; have HO821 := n2_; have HB := n3_; clear n0_ n1_ n2_ n3_; (try clear hb); (try clear hb2); (try clear hk); (try clear hi))))
        (try simp only [Act.put, List.setIfInBounds_toArray, List.set_cons_zero, List.set_cons_succ])
        go_cut [74] (fun v74 wc => ∃ (kq : Nat) (x74_14 : Bool), v74 = .bool x74_14 ∧ Aside0 (clochelaw04_BlocksHooked.j1 kq l0 t808 t809 t814 t818 t822 x74_14 = some r) ∧ Aside0 (kq ≤ kj2) ∧ Aside0 (Kd.S (Kd.slice 3 (Kd.int .i64)) 22 wc w.heap.size (fun k_ => some k_ ≠ (v820 : Value).ownBlock) v811 t809) ∧ Aside0 (Kd.S (Kd.slice 3 (Kd.int .i64)) 22 wc w.heap.size (fun k_ => some k_ ≠ (v811 : Value).ownBlock) v820 t818) ∧ Aside0 (Below w.heap.size w wc))
        case first =>
          have H := HC15.out
          clear HC15
          by_cases c20 : t810 = 0
          · rw [if_pos c20] at H
            have c20b0 : (t810 == 0) = true := beq_iff_eq.mpr c20
            have c20b1 : (t810 != 0) = false := bne_eq_false_iff_eq.mpr c20
            clear c20
            (first | rw [c20b0] | (simp only [i64_w, i32_w]; rw [c20b0]) | skip)
            by_cases c21 : t815 = 0
            · rw [if_pos c21] at H
              have c21b0 : (t815 == 0) = true := beq_iff_eq.mpr c21
              have c21b1 : (t815 != 0) = false := bne_eq_false_iff_eq.mpr c21
              clear c21
              by_cases c22 : t819 = 0
              · rw [if_pos c22] at H
                have c22b0 : (t819 == 0) = true := beq_iff_eq.mpr c22
                have c22b1 : (t819 != 0) = false := bne_eq_false_iff_eq.mpr c22
                clear c22
                by_cases c23 : t823 = 0
                · rw [if_pos c23] at H
                  have c23b0 : (t823 == 0) = true := beq_iff_eq.mpr c23
                  have c23b1 : (t823 != 0) = false := bne_eq_false_iff_eq.mpr c23
                  clear c23
                  have H' := Aside0.mk H
                  clear H
                  obtain ⟨Ao24, co24, eo24⟩ := Kd.S_slice HO812.out
                  subst eo24
                  go_wp2
                  repeat (go_quiet (fail); try go_wp2)
                  go_meet
                  case rel => exact ⟨_, (((t809.length : Int) != (l0.length : Int))), (by first | rfl | (simp; done) | (simp [*]; done)), H', ⟨by have := HJ2.out; first | omega | exact Nat.le_refl _⟩, ⟨by (with_reducible repeat (first | apply Kd.S_alloc | apply Kd.S_drewN | apply Kd.S_drew)); exact Kd.S_mono HO812.out (fun _ hk => hk.2)⟩, ⟨by (with_reducible repeat (first | apply Kd.S_alloc | apply Kd.S_drewN | apply Kd.S_drew)); exact Kd.S_mono HO821.out (fun _ hk => hk.1.2)⟩, ⟨by repeat (first | (with_reducible first | exact HB.out | apply below_alloc | apply pw_below_drewN | apply below_drew1) | exact HB.out)⟩⟩
                · rw [if_neg c23] at H
                  exact absurd H (by simp)
              · rw [if_neg c22] at H
                exact absurd H (by simp)
            · rw [if_neg c21] at H
              exact absurd H (by simp)
          · rw [if_neg c20] at H
            exact absurd H (by simp)
        case rest =>
          clear HC15
          try clear c1
          try clear c2
          try clear p2
          try clear c5
          try clear c7
          try clear c12
          try clear c20
          try clear c20b0
          try clear c20b1
          try clear c21
          try clear c21b0
          try clear c21b1
          try clear c22
          try clear c22b0
          try clear c22b1
          try clear c23
          try clear c23b0
          try clear c23b1
          try clear p2
          obtain ⟨kq, x74_14, rfl, HA, HJ14, HO_6, HO_11, HB⟩ := hcut
          cases kq with
          | zero => exact absurd HA.out (by simp [clochelaw04_BlocksHooked.j1])
          | succ kj14 =>
            have H := HA.out
            clear HA
            simp only [clochelaw04_BlocksHooked.j1] at H
            by_cases c25 : x74_14 = true
            · subst c25
              have H1 : (none) = some r := by rw [if_pos rfl] at H; exact H
              clear H
              have H := H1
              clear H1
              exact absurd H (by simp)
            · replace c25 := Bool.eq_false_iff.mpr c25
              subst c25
              have H1 : (clochelaw04_BlocksHooked.l0 kj14 l0 t808 t809 t814 t818 t822 0 0 0) = some r := by rw [if_neg (show ¬ (false = true) by decide)] at H; exact H
              clear H
              have H := H1
              clear H1
              have H' := Aside0.mk H
              clear H
              go_wp2
              repeat (go_quiet (fail); try go_wp2)
              go_loopg [15, 16, 17] kj14 (fun kq v15 v16 v17 w' => ∃ (x15_3 : Int) (x16_3 : Int) (x17_3 : Int), v15 = .int .i64 x15_3 ∧ v16 = .int .i64 x16_3 ∧ v17 = .int .i64 x17_3 ∧ Aside0 (clochelaw04_BlocksHooked.l0 kq l0 t808 t809 t814 t818 t822 x15_3 x16_3 x17_3 = some r) ∧ Aside0 (kq ≤ kj14) ∧ Aside0 (Kd.S (Kd.slice 3 (Kd.int .i64)) 22 w' w.heap.size (fun k_ => some k_ ≠ (v820 : Value).ownBlock) v811 t809) ∧ Aside0 (Kd.S (Kd.slice 3 (Kd.int .i64)) 22 w' w.heap.size (fun k_ => some k_ ≠ (v811 : Value).ownBlock) v820 t818) ∧ Aside0 (Below w.heap.size w w'))
              case atStart => exact ⟨(0), (0), (0), (by first | rfl | (simp; done) | (simp [*]; done)), (by first | rfl | (simp; done) | (simp [*]; done)), (by first | rfl | (simp; done) | (simp [*]; done)), H', ⟨Nat.le_refl _⟩, ⟨by (with_reducible repeat (first | apply Kd.S_alloc | apply Kd.S_drewN | apply Kd.S_drew)); exact HO_6.out⟩, ⟨by (with_reducible repeat (first | apply Kd.S_alloc | apply Kd.S_drewN | apply Kd.S_drew)); exact HO_11.out⟩, ⟨by repeat (first | (with_reducible first | exact HB.out | apply below_alloc | apply pw_below_drewN | apply below_drew1) | exact HB.out)⟩⟩
              case round =>
                clear H'
                try clear c1
                try clear c2
                try clear p2
                try clear c5
                try clear c7
                try clear c12
                try clear c20
                try clear c20b0
                try clear c20b1
                try clear c21
                try clear c21b0
                try clear c21b1
                try clear c22
                try clear c22b0
                try clear c22b1
                try clear c23
                try clear c23b0
                try clear c23b1
                try clear c25
                try clear p2
                obtain ⟨x15_3, x16_3, x17_3, rfl, rfl, rfl, HA, HK3, HO_6, HO_11, HB⟩ := hrel
                cases gk with
                | zero => exact absurd HA.out (by simp [clochelaw04_BlocksHooked.l0])
                | succ k3 =>
                  have H := HA.out
                  clear HA
                  simp only [clochelaw04_BlocksHooked.l0] at H
                  by_cases c26 : x17_3 < (t809.length : Int)
                  · rw [if_pos c26] at H
                    have c26b0 : decide (x17_3 < (t809.length : Int)) = true := decide_eq_true c26
                    clear c26
                    by_cases c27 : 0 ≤ x17_3
                    · rw [if_pos c27] at H
                      have c27b0 : decide (0 ≤ x17_3) = true := decide_eq_true c27
                      clear c27
                      by_cases c28 : x17_3 < (l0.length : Int)
                      · rw [if_pos c28] at H
                        have c28b0 : decide (x17_3 < (l0.length : Int)) = true := decide_eq_true c28
                        clear c28
                        by_cases c29 : ((rd_L1 t809 x17_3).length : Int) = (rd l0 x17_3)
                        · rw [if_pos c29] at H
                          have c29b0 : (((rd_L1 t809 x17_3).length : Int) == (rd l0 x17_3)) = true := beq_iff_eq.mpr c29
                          have c29b1 : (((rd_L1 t809 x17_3).length : Int) != (rd l0 x17_3)) = false := bne_eq_false_iff_eq.mpr c29
                          clear c29
                          have H' := Aside0.mk H
                          clear H
                          obtain ⟨Ao30, co30, eo30⟩ := Kd.S_slice HO_6.out
                          subst eo30
                          have p825 : 0 ≤ (x17_3 : Int) := of_decide_eq_true (by first | (with_reducible assumption) | assumption)
                          have q825 : x17_3 < (t809.length : Int) := of_decide_eq_true (by first | (with_reducible assumption) | assumption)
                          obtain ⟨ad825, A825_0, c825_0, e825, hx825_0, hl825_0, hi825_0⟩ := at_L1 (Kd.S_reads' HO_6.out).2.2 x17_3 p825 q825
                          cases e825
                          obtain ⟨ce825, hce825, hMe825, hcc825⟩ := Kd.S_get HO_6.out [] x17_3 p825 (by first | exact q825 | exact of_decide_eq_true (by first | (with_reducible assumption) | assumption) | (have e_ := (Kd.S_reads' HO_6.out).1; omega))
                          obtain ⟨ve825_0, rfl, ge825_0⟩ := hMe825
                          have hv825_0 := hcc825 0 _ rfl
                          rw [Nat.add_zero, show ((Kd.slice 3 (Kd.int .i64))).sz = 1 from rfl, Nat.mul_one] at hv825_0
                          replace hv825_0 := Option.some.inj (hv825_0.symm.trans hx825_0)
                          rw [hv825_0] at ge825_0
                          have HL825_0 := Aside0.mk (show Kd.R (Kd.int .i64) 3 _ _ _ _ (rd_L1 t809 x17_3) from ge825_0)
                          clear hv825_0 ge825_0
                          clear hcc825 hce825
                          have HR825_0 := Aside0.mk hi825_0
                          have HC825_0 := Aside0.mk hl825_0
                          clear hi825_0 hl825_0
                          replace p825 := eq_true p825
                          replace q825 := eq_true q825
                          have p826 : 0 ≤ (x17_3 : Int) := of_decide_eq_true (by first | (with_reducible assumption) | assumption)
                          have q826 : x17_3 < (l0.length : Int) := of_decide_eq_true (by first | (with_reducible assumption) | assumption)
                          obtain ⟨ad826, e826, hx826_0⟩ := Kd.at_int HR0.out x17_3 p826 q826
                          cases e826
                          replace hx826_0 := (HB.out.cell (World.block_lt_of_cell? w _ hx826_0)).trans hx826_0
                          replace p826 := eq_true p826
                          replace q826 := eq_true q826
                          go_wp2
                          repeat (go_quiet (fail); try go_wp2)
                          go_loopg [15, 16, 18] k3 (fun kq v15 v16 v18 w' => ∃ (x15_4 : Int) (x16_4 : Int) (x18_4 : Int), v15 = .int .i64 x15_4 ∧ v16 = .int .i64 x16_4 ∧ v18 = .int .i64 x18_4 ∧ Aside0 (clochelaw04_BlocksHooked.l1 kq l0 t808 t809 t814 t818 t822 x15_4 x16_4 x17_3 x18_4 = some r) ∧ Aside0 (kq ≤ k3) ∧ Aside0 (Kd.S (Kd.slice 3 (Kd.int .i64)) 22 w' w.heap.size (fun k_ => some k_ ≠ (v820 : Value).ownBlock) (.slice (some ad825) t809.length co30) t809) ∧ Aside0 (Kd.S (Kd.slice 3 (Kd.int .i64)) 22 w' w.heap.size (fun k_ => some k_ ≠ ((.slice (some ad825) t809.length co30) : Value).ownBlock) v820 t818) ∧ Aside0 (Kd.C (Kd.int .i64) w' A825_0 (rd_L1 t809 x17_3).length (rd_L1 t809 x17_3)) ∧ Aside0 (Below w.heap.size w w'))
                          case atStart => exact ⟨(x15_3), (x16_3), (0), (by first | rfl | (simp; done) | (simp [*]; done)), (by first | rfl | (simp; done) | (simp [*]; done)), (by first | rfl | (simp; done) | (simp [*]; done)), H', ⟨Nat.le_refl _⟩, ⟨by (with_reducible repeat (first | apply Kd.S_alloc | apply Kd.S_drewN | apply Kd.S_drew)); exact HO_6.out⟩, ⟨by (with_reducible repeat (first | apply Kd.S_alloc | apply Kd.S_drewN | apply Kd.S_drew)); exact HO_11.out⟩, ⟨by repeat (first | (with_reducible exact HR825_0.out) | (with_reducible refine Kd.C_alloc ?_ _) | (with_reducible refine Kd.C_drewN ?_ _) | (with_reducible refine Kd.C_drew ?_) | exact HR825_0.out)⟩, ⟨by repeat (first | (with_reducible first | exact HB.out | apply below_alloc | apply pw_below_drewN | apply below_drew1) | exact HB.out)⟩⟩
                          case round =>
                            clear H'
                            try clear c1
                            try clear c2
                            try clear p2
                            try clear c5
                            try clear c7
                            try clear c8
                            try clear p8
                            try clear q8
                            try clear hx8
                            try clear c12
                            try clear c20
                            try clear c20b0
                            try clear c20b1
                            try clear c21
                            try clear c21b0
                            try clear c21b1
                            try clear c22
                            try clear c22b0
                            try clear c22b1
                            try clear c23
                            try clear c23b0
                            try clear c23b1
                            try clear c25
                            try clear c26
                            try clear c26b0
                            try clear c27
                            try clear c27b0
                            try clear c28
                            try clear c28b0
                            try clear c29
                            try clear c29b0
                            try clear c29b1
                            try clear hx825_0
                            try clear hx826_0
                            try clear p2
                            try clear p825
                            try clear p826
                            try clear q825
                            try clear q826
                            obtain ⟨x15_4, x16_4, x18_4, rfl, rfl, rfl, HA, HK4, HO_6, HO_11, HR825_0, HB⟩ := hrel
                            cases gk with
                            | zero => exact absurd HA.out (by simp [clochelaw04_BlocksHooked.l1])
                            | succ k4 =>
                              have H := HA.out
                              clear HA
                              simp only [clochelaw04_BlocksHooked.l1] at H
                              by_cases c31 : 0 ≤ x17_3
                              · rw [if_pos c31] at H
                                have c31b0 : decide (0 ≤ x17_3) = true := decide_eq_true c31
                                clear c31
                                by_cases c32 : x17_3 < (t809.length : Int)
                                · rw [if_pos c32] at H
                                  have c32b0 : decide (x17_3 < (t809.length : Int)) = true := decide_eq_true c32
                                  clear c32
                                  by_cases c33 : x18_4 < ((rd_L1 t809 x17_3).length : Int)
                                  · rw [if_pos c33] at H
                                    have c33b0 : decide (x18_4 < ((rd_L1 t809 x17_3).length : Int)) = true := decide_eq_true c33
                                    clear c33
                                    by_cases c34 : 0 ≤ x18_4
                                    · rw [if_pos c34] at H
                                      have c34b0 : decide (0 ≤ x18_4) = true := decide_eq_true c34
                                      clear c34
                                      by_cases c35 : (rd (rd_L1 t809 x17_3) x18_4) < 1
                                      · rw [if_pos c35] at H
                                        exact absurd H (by simp)
                                      · rw [if_neg c35] at H
                                        have c35b0 : decide ((rd (rd_L1 t809 x17_3) x18_4) < 1) = false := decide_eq_false c35
                                        clear c35
                                        by_cases c36 : t808 = 0
                                        · rw [if_pos c36] at H
                                          exact absurd H (by simp)
                                        · rw [if_neg c36] at H
                                          have c36b0 : (t808 == 0) = false := beq_eq_false_iff_ne.mpr c36
                                          have c36b1 : (t808 != 0) = true := bne_iff_ne.mpr c36
                                          by_cases c37 : (Int.tmod (rd (rd_L1 t809 x17_3) x18_4) t808) = 0
                                          · rw [if_pos c37] at H
                                            have c37b0 : ((Int.tmod (rd (rd_L1 t809 x17_3) x18_4) t808) == 0) = true := beq_iff_eq.mpr c37
                                            have c37b1 : ((Int.tmod (rd (rd_L1 t809 x17_3) x18_4) t808) != 0) = false := bne_eq_false_iff_eq.mpr c37
                                            clear c37
                                            by_cases c38 : (rd (rd_L1 t809 x17_3) x18_4) = t808
                                            · rw [if_pos c38] at H
                                              have c38b0 : ((rd (rd_L1 t809 x17_3) x18_4) == t808) = true := beq_iff_eq.mpr c38
                                              have c38b1 : ((rd (rd_L1 t809 x17_3) x18_4) != t808) = false := bne_eq_false_iff_eq.mpr c38
                                              clear c38
                                              have H' := Aside0.mk H
                                              clear H
                                              have p827 : 0 ≤ (x17_3 : Int) := of_decide_eq_true (by first | (with_reducible assumption) | assumption)
                                              have q827 : x17_3 < (t809.length : Int) := of_decide_eq_true (by first | (with_reducible assumption) | assumption)
                                              obtain ⟨ad827, A827_0, c827_0, e827, hx827_0, hl827_0, hi827_0⟩ := at_L1 (Kd.S_reads' HO_6.out).2.2 x17_3 p827 q827
                                              obtain rfl : ad825 = ad827 := (by injection e827)
                                              obtain ⟨ce827, hce827, hMe827, hcc827⟩ := Kd.S_get HO_6.out [] x17_3 p827 (by first | exact q827 | exact of_decide_eq_true (by first | (with_reducible assumption) | assumption) | (have e_ := (Kd.S_reads' HO_6.out).1; omega))
                                              obtain ⟨ve827_0, rfl, ge827_0⟩ := hMe827
                                              have hv827_0 := hcc827 0 _ rfl
                                              rw [Nat.add_zero, show ((Kd.slice 3 (Kd.int .i64))).sz = 1 from rfl, Nat.mul_one] at hv827_0
                                              replace hv827_0 := Option.some.inj (hv827_0.symm.trans hx827_0)
                                              rw [hv827_0] at ge827_0
                                              have HL827_0 := Aside0.mk (show Kd.R (Kd.int .i64) 3 _ _ _ _ (rd_L1 t809 x17_3) from ge827_0)
                                              clear hv827_0 ge827_0
                                              clear hcc827 hce827
                                              have HR827_0 := Aside0.mk hi827_0
                                              have HC827_0 := Aside0.mk hl827_0
                                              clear hi827_0 hl827_0
                                              replace p827 := eq_true p827
                                              replace q827 := eq_true q827
                                              have p828 : 0 ≤ (x17_3 : Int) := of_decide_eq_true (by first | (with_reducible assumption) | assumption)
                                              have q828 : x17_3 < (t809.length : Int) := of_decide_eq_true (by first | (with_reducible assumption) | assumption)
                                              obtain ⟨ad828, A828_0, c828_0, e828, hx828_0, hl828_0, hi828_0⟩ := at_L1 (Kd.S_reads' HO_6.out).2.2 x17_3 p828 q828
                                              obtain rfl : ad825 = ad828 := (by injection e828)
                                              obtain ⟨ce828, hce828, hMe828, hcc828⟩ := Kd.S_get HO_6.out [] x17_3 p828 (by first | exact q828 | exact of_decide_eq_true (by first | (with_reducible assumption) | assumption) | (have e_ := (Kd.S_reads' HO_6.out).1; omega))
                                              obtain ⟨ve828_0, rfl, ge828_0⟩ := hMe828
                                              have hv828_0 := hcc828 0 _ rfl
                                              rw [Nat.add_zero, show ((Kd.slice 3 (Kd.int .i64))).sz = 1 from rfl, Nat.mul_one] at hv828_0
                                              replace hv828_0 := Option.some.inj (hv828_0.symm.trans hx828_0)
                                              rw [hv828_0] at ge828_0
                                              have HL828_0 := Aside0.mk (show Kd.R (Kd.int .i64) 3 _ _ _ _ (rd_L1 t809 x17_3) from ge828_0)
                                              clear hv828_0 ge828_0
                                              clear hcc828 hce828
                                              have HR828_0 := Aside0.mk hi828_0
                                              have HC828_0 := Aside0.mk hl828_0
                                              clear hi828_0 hl828_0
                                              replace p828 := eq_true p828
                                              replace q828 := eq_true q828
                                              have ea_ := Option.some.inj (hx827_0.symm.trans hx828_0)
                                              injection ea_ with ea_ en_ ec_
                                              subst ea_
                                              subst ec_
                                              clear en_
                                              have p829 : 0 ≤ (x18_4 : Int) := of_decide_eq_true (by first | (with_reducible assumption) | assumption)
                                              have q829 : x18_4 < ((rd_L1 t809 x17_3).length : Int) := of_decide_eq_true (by first | (with_reducible assumption) | assumption)
                                              obtain ⟨ad829, e829, hx829_0⟩ := Kd.at_int (by repeat (first | (with_reducible exact HR828_0.out) | (with_reducible refine Kd.C_alloc ?_ _) | (with_reducible refine Kd.C_drewN ?_ _) | (with_reducible refine Kd.C_drew ?_) | exact HR828_0.out)) x18_4 p829 q829
                                              cases e829
                                              replace p829 := eq_true p829
                                              replace q829 := eq_true q829
                                              have p830 : 0 ≤ (x17_3 : Int) := of_decide_eq_true (by first | (with_reducible assumption) | assumption)
                                              have q830 : x17_3 < (t809.length : Int) := of_decide_eq_true (by first | (with_reducible assumption) | assumption)
                                              obtain ⟨ad830, A830_0, c830_0, e830, hx830_0, hl830_0, hi830_0⟩ := at_L1 (Kd.S_reads' HO_6.out).2.2 x17_3 p830 q830
                                              obtain rfl : ad825 = ad830 := (by injection e830)
                                              obtain ⟨ce830, hce830, hMe830, hcc830⟩ := Kd.S_get HO_6.out [] x17_3 p830 (by first | exact q830 | exact of_decide_eq_true (by first | (with_reducible assumption) | assumption) | (have e_ := (Kd.S_reads' HO_6.out).1; omega))
                                              obtain ⟨ve830_0, rfl, ge830_0⟩ := hMe830
                                              have hv830_0 := hcc830 0 _ rfl
                                              rw [Nat.add_zero, show ((Kd.slice 3 (Kd.int .i64))).sz = 1 from rfl, Nat.mul_one] at hv830_0
                                              replace hv830_0 := Option.some.inj (hv830_0.symm.trans hx830_0)
                                              rw [hv830_0] at ge830_0
                                              have HL830_0 := Aside0.mk (show Kd.R (Kd.int .i64) 3 _ _ _ _ (rd_L1 t809 x17_3) from ge830_0)
                                              clear hv830_0 ge830_0
                                              clear hcc830 hce830
                                              have HR830_0 := Aside0.mk hi830_0
                                              have HC830_0 := Aside0.mk hl830_0
                                              clear hi830_0 hl830_0
                                              replace p830 := eq_true p830
                                              replace q830 := eq_true q830
                                              have ea_ := Option.some.inj (hx827_0.symm.trans hx830_0)
                                              injection ea_ with ea_ en_ ec_
                                              subst ea_
                                              subst ec_
                                              clear en_
                                              have p831 : 0 ≤ (x18_4 : Int) := of_decide_eq_true (by first | (with_reducible assumption) | assumption)
                                              have q831 : x18_4 < ((rd_L1 t809 x17_3).length : Int) := of_decide_eq_true (by first | (with_reducible assumption) | assumption)
                                              obtain ⟨ad831, e831, hx831_0⟩ := Kd.at_int (by repeat (first | (with_reducible exact HR830_0.out) | (with_reducible refine Kd.C_alloc ?_ _) | (with_reducible refine Kd.C_drewN ?_ _) | (with_reducible refine Kd.C_drew ?_) | exact HR830_0.out)) x18_4 p831 q831
                                              cases e831
                                              replace p831 := eq_true p831
                                              replace q831 := eq_true q831
                                              have p832 : 0 ≤ (x17_3 : Int) := of_decide_eq_true (by first | (with_reducible assumption) | assumption)
                                              have q832 : x17_3 < (t809.length : Int) := of_decide_eq_true (by first | (with_reducible assumption) | assumption)
                                              obtain ⟨ad832, A832_0, c832_0, e832, hx832_0, hl832_0, hi832_0⟩ := at_L1 (Kd.S_reads' HO_6.out).2.2 x17_3 p832 q832
                                              obtain rfl : ad825 = ad832 := (by injection e832)
                                              obtain ⟨ce832, hce832, hMe832, hcc832⟩ := Kd.S_get HO_6.out [] x17_3 p832 (by first | exact q832 | exact of_decide_eq_true (by first | (with_reducible assumption) | assumption) | (have e_ := (Kd.S_reads' HO_6.out).1; omega))
                                              obtain ⟨ve832_0, rfl, ge832_0⟩ := hMe832
                                              have hv832_0 := hcc832 0 _ rfl
                                              rw [Nat.add_zero, show ((Kd.slice 3 (Kd.int .i64))).sz = 1 from rfl, Nat.mul_one] at hv832_0
                                              replace hv832_0 := Option.some.inj (hv832_0.symm.trans hx832_0)
                                              rw [hv832_0] at ge832_0
                                              have HL832_0 := Aside0.mk (show Kd.R (Kd.int .i64) 3 _ _ _ _ (rd_L1 t809 x17_3) from ge832_0)
                                              clear hv832_0 ge832_0
                                              clear hcc832 hce832
                                              have HR832_0 := Aside0.mk hi832_0
                                              have HC832_0 := Aside0.mk hl832_0
                                              clear hi832_0 hl832_0
                                              replace p832 := eq_true p832
                                              replace q832 := eq_true q832
                                              have ea_ := Option.some.inj (hx827_0.symm.trans hx832_0)
                                              injection ea_ with ea_ en_ ec_
                                              subst ea_
                                              subst ec_
                                              clear en_
                                              have p833 : 0 ≤ (x18_4 : Int) := of_decide_eq_true (by first | (with_reducible assumption) | assumption)
                                              have q833 : x18_4 < ((rd_L1 t809 x17_3).length : Int) := of_decide_eq_true (by first | (with_reducible assumption) | assumption)
                                              obtain ⟨ad833, e833, hx833_0⟩ := Kd.at_int (by repeat (first | (with_reducible exact HR832_0.out) | (with_reducible refine Kd.C_alloc ?_ _) | (with_reducible refine Kd.C_drewN ?_ _) | (with_reducible refine Kd.C_drew ?_) | exact HR832_0.out)) x18_4 p833 q833
                                              cases e833
                                              replace p833 := eq_true p833
                                              replace q833 := eq_true q833
                                              go_wp2
                                              repeat (go_quiet (fail); try go_wp2)
                                              go_roundg k4
                                              case measure => have := HJ2.out; have := HJ14.out; have := HK3.out; have := HK4.out; omega
                                              case rel => exact ⟨(wrap64 (x15_4 + 1)), (wrap64 (x16_4 + 1)), (wrap64 (x18_4 + 1)), (by first | rfl | (simp; done) | (simp [*]; done)), (by first | rfl | (simp; done) | (simp [*]; done)), (by first | rfl | (simp; done) | (simp [*]; done)), H', ⟨by have := HJ2.out; have := HJ14.out; have := HK3.out; have := HK4.out; omega⟩, ⟨by (with_reducible repeat (first | apply Kd.S_alloc | apply Kd.S_drewN | apply Kd.S_drew)); exact HO_6.out⟩, ⟨by (with_reducible repeat (first | apply Kd.S_alloc | apply Kd.S_drewN | apply Kd.S_drew)); exact HO_11.out⟩, ⟨by repeat (first | (with_reducible exact HR825_0.out) | (with_reducible refine Kd.C_alloc ?_ _) | (with_reducible refine Kd.C_drewN ?_ _) | (with_reducible refine Kd.C_drew ?_) | exact HR825_0.out)⟩, ⟨by repeat (first | (with_reducible first | exact HB.out | apply below_alloc | apply pw_below_drewN | apply below_drew1) | exact HB.out)⟩⟩
                                            · rw [if_neg c38] at H
                                              have c38b0 : ((rd (rd_L1 t809 x17_3) x18_4) == t808) = false := beq_eq_false_iff_ne.mpr c38
                                              have c38b1 : ((rd (rd_L1 t809 x17_3) x18_4) != t808) = true := bne_iff_ne.mpr c38
                                              have H' := Aside0.mk H
                                              clear H
                                              have p827 : 0 ≤ (x17_3 : Int) := of_decide_eq_true (by first | (with_reducible assumption) | assumption)
                                              have q827 : x17_3 < (t809.length : Int) := of_decide_eq_true (by first | (with_reducible assumption) | assumption)
                                              obtain ⟨ad827, A827_0, c827_0, e827, hx827_0, hl827_0, hi827_0⟩ := at_L1 (Kd.S_reads' HO_6.out).2.2 x17_3 p827 q827
                                              obtain rfl : ad825 = ad827 := (by injection e827)
                                              obtain ⟨ce827, hce827, hMe827, hcc827⟩ := Kd.S_get HO_6.out [] x17_3 p827 (by first | exact q827 | exact of_decide_eq_true (by first | (with_reducible assumption) | assumption) | (have e_ := (Kd.S_reads' HO_6.out).1; omega))
                                              obtain ⟨ve827_0, rfl, ge827_0⟩ := hMe827
                                              have hv827_0 := hcc827 0 _ rfl
                                              rw [Nat.add_zero, show ((Kd.slice 3 (Kd.int .i64))).sz = 1 from rfl, Nat.mul_one] at hv827_0
                                              replace hv827_0 := Option.some.inj (hv827_0.symm.trans hx827_0)
                                              rw [hv827_0] at ge827_0
                                              have HL827_0 := Aside0.mk (show Kd.R (Kd.int .i64) 3 _ _ _ _ (rd_L1 t809 x17_3) from ge827_0)
                                              clear hv827_0 ge827_0
                                              clear hcc827 hce827
                                              have HR827_0 := Aside0.mk hi827_0
                                              have HC827_0 := Aside0.mk hl827_0
                                              clear hi827_0 hl827_0
                                              replace p827 := eq_true p827
                                              replace q827 := eq_true q827
                                              have p828 : 0 ≤ (x17_3 : Int) := of_decide_eq_true (by first | (with_reducible assumption) | assumption)
                                              have q828 : x17_3 < (t809.length : Int) := of_decide_eq_true (by first | (with_reducible assumption) | assumption)
                                              obtain ⟨ad828, A828_0, c828_0, e828, hx828_0, hl828_0, hi828_0⟩ := at_L1 (Kd.S_reads' HO_6.out).2.2 x17_3 p828 q828
                                              obtain rfl : ad825 = ad828 := (by injection e828)
                                              obtain ⟨ce828, hce828, hMe828, hcc828⟩ := Kd.S_get HO_6.out [] x17_3 p828 (by first | exact q828 | exact of_decide_eq_true (by first | (with_reducible assumption) | assumption) | (have e_ := (Kd.S_reads' HO_6.out).1; omega))
                                              obtain ⟨ve828_0, rfl, ge828_0⟩ := hMe828
                                              have hv828_0 := hcc828 0 _ rfl
                                              rw [Nat.add_zero, show ((Kd.slice 3 (Kd.int .i64))).sz = 1 from rfl, Nat.mul_one] at hv828_0
                                              replace hv828_0 := Option.some.inj (hv828_0.symm.trans hx828_0)
                                              rw [hv828_0] at ge828_0
                                              have HL828_0 := Aside0.mk (show Kd.R (Kd.int .i64) 3 _ _ _ _ (rd_L1 t809 x17_3) from ge828_0)
                                              clear hv828_0 ge828_0
                                              clear hcc828 hce828
                                              have HR828_0 := Aside0.mk hi828_0
                                              have HC828_0 := Aside0.mk hl828_0
                                              clear hi828_0 hl828_0
                                              replace p828 := eq_true p828
                                              replace q828 := eq_true q828
                                              have ea_ := Option.some.inj (hx827_0.symm.trans hx828_0)
                                              injection ea_ with ea_ en_ ec_
                                              subst ea_
                                              subst ec_
                                              clear en_
                                              have p829 : 0 ≤ (x18_4 : Int) := of_decide_eq_true (by first | (with_reducible assumption) | assumption)
                                              have q829 : x18_4 < ((rd_L1 t809 x17_3).length : Int) := of_decide_eq_true (by first | (with_reducible assumption) | assumption)
                                              obtain ⟨ad829, e829, hx829_0⟩ := Kd.at_int (by repeat (first | (with_reducible exact HR828_0.out) | (with_reducible refine Kd.C_alloc ?_ _) | (with_reducible refine Kd.C_drewN ?_ _) | (with_reducible refine Kd.C_drew ?_) | exact HR828_0.out)) x18_4 p829 q829
                                              cases e829
                                              replace p829 := eq_true p829
                                              replace q829 := eq_true q829
                                              have p830 : 0 ≤ (x17_3 : Int) := of_decide_eq_true (by first | (with_reducible assumption) | assumption)
                                              have q830 : x17_3 < (t809.length : Int) := of_decide_eq_true (by first | (with_reducible assumption) | assumption)
                                              obtain ⟨ad830, A830_0, c830_0, e830, hx830_0, hl830_0, hi830_0⟩ := at_L1 (Kd.S_reads' HO_6.out).2.2 x17_3 p830 q830
                                              obtain rfl : ad825 = ad830 := (by injection e830)
                                              obtain ⟨ce830, hce830, hMe830, hcc830⟩ := Kd.S_get HO_6.out [] x17_3 p830 (by first | exact q830 | exact of_decide_eq_true (by first | (with_reducible assumption) | assumption) | (have e_ := (Kd.S_reads' HO_6.out).1; omega))
                                              obtain ⟨ve830_0, rfl, ge830_0⟩ := hMe830
                                              have hv830_0 := hcc830 0 _ rfl
                                              rw [Nat.add_zero, show ((Kd.slice 3 (Kd.int .i64))).sz = 1 from rfl, Nat.mul_one] at hv830_0
                                              replace hv830_0 := Option.some.inj (hv830_0.symm.trans hx830_0)
                                              rw [hv830_0] at ge830_0
                                              have HL830_0 := Aside0.mk (show Kd.R (Kd.int .i64) 3 _ _ _ _ (rd_L1 t809 x17_3) from ge830_0)
                                              clear hv830_0 ge830_0
                                              clear hcc830 hce830
                                              have HR830_0 := Aside0.mk hi830_0
                                              have HC830_0 := Aside0.mk hl830_0
                                              clear hi830_0 hl830_0
                                              replace p830 := eq_true p830
                                              replace q830 := eq_true q830
                                              have ea_ := Option.some.inj (hx827_0.symm.trans hx830_0)
                                              injection ea_ with ea_ en_ ec_
                                              subst ea_
                                              subst ec_
                                              clear en_
                                              have p831 : 0 ≤ (x18_4 : Int) := of_decide_eq_true (by first | (with_reducible assumption) | assumption)
                                              have q831 : x18_4 < ((rd_L1 t809 x17_3).length : Int) := of_decide_eq_true (by first | (with_reducible assumption) | assumption)
                                              obtain ⟨ad831, e831, hx831_0⟩ := Kd.at_int (by repeat (first | (with_reducible exact HR830_0.out) | (with_reducible refine Kd.C_alloc ?_ _) | (with_reducible refine Kd.C_drewN ?_ _) | (with_reducible refine Kd.C_drew ?_) | exact HR830_0.out)) x18_4 p831 q831
                                              cases e831
                                              replace p831 := eq_true p831
                                              replace q831 := eq_true q831
                                              have p832 : 0 ≤ (x17_3 : Int) := of_decide_eq_true (by first | (with_reducible assumption) | assumption)
                                              have q832 : x17_3 < (t809.length : Int) := of_decide_eq_true (by first | (with_reducible assumption) | assumption)
                                              obtain ⟨ad832, A832_0, c832_0, e832, hx832_0, hl832_0, hi832_0⟩ := at_L1 (Kd.S_reads' HO_6.out).2.2 x17_3 p832 q832
                                              obtain rfl : ad825 = ad832 := (by injection e832)
                                              obtain ⟨ce832, hce832, hMe832, hcc832⟩ := Kd.S_get HO_6.out [] x17_3 p832 (by first | exact q832 | exact of_decide_eq_true (by first | (with_reducible assumption) | assumption) | (have e_ := (Kd.S_reads' HO_6.out).1; omega))
                                              obtain ⟨ve832_0, rfl, ge832_0⟩ := hMe832
                                              have hv832_0 := hcc832 0 _ rfl
                                              rw [Nat.add_zero, show ((Kd.slice 3 (Kd.int .i64))).sz = 1 from rfl, Nat.mul_one] at hv832_0
                                              replace hv832_0 := Option.some.inj (hv832_0.symm.trans hx832_0)
                                              rw [hv832_0] at ge832_0
                                              have HL832_0 := Aside0.mk (show Kd.R (Kd.int .i64) 3 _ _ _ _ (rd_L1 t809 x17_3) from ge832_0)
                                              clear hv832_0 ge832_0
                                              clear hcc832 hce832
                                              have HR832_0 := Aside0.mk hi832_0
                                              have HC832_0 := Aside0.mk hl832_0
                                              clear hi832_0 hl832_0
                                              replace p832 := eq_true p832
                                              replace q832 := eq_true q832
                                              have ea_ := Option.some.inj (hx827_0.symm.trans hx832_0)
                                              injection ea_ with ea_ en_ ec_
                                              subst ea_
                                              subst ec_
                                              clear en_
                                              have p833 : 0 ≤ (x18_4 : Int) := of_decide_eq_true (by first | (with_reducible assumption) | assumption)
                                              have q833 : x18_4 < ((rd_L1 t809 x17_3).length : Int) := of_decide_eq_true (by first | (with_reducible assumption) | assumption)
                                              obtain ⟨ad833, e833, hx833_0⟩ := Kd.at_int (by repeat (first | (with_reducible exact HR832_0.out) | (with_reducible refine Kd.C_alloc ?_ _) | (with_reducible refine Kd.C_drewN ?_ _) | (with_reducible refine Kd.C_drew ?_) | exact HR832_0.out)) x18_4 p833 q833
                                              cases e833
                                              replace p833 := eq_true p833
                                              replace q833 := eq_true q833
                                              go_wp2
                                              repeat (go_quiet (fail); try go_wp2)
                                              go_roundg k4
                                              case measure => have := HJ2.out; have := HJ14.out; have := HK3.out; have := HK4.out; omega
                                              case rel => exact ⟨(wrap64 (x15_4 + 1)), (x16_4), (wrap64 (x18_4 + 1)), (by first | rfl | (simp; done) | (simp [*]; done)), (by first | rfl | (simp; done) | (simp [*]; done)), (by first | rfl | (simp; done) | (simp [*]; done)), H', ⟨by have := HJ2.out; have := HJ14.out; have := HK3.out; have := HK4.out; omega⟩, ⟨by (with_reducible repeat (first | apply Kd.S_alloc | apply Kd.S_drewN | apply Kd.S_drew)); exact HO_6.out⟩, ⟨by (with_reducible repeat (first | apply Kd.S_alloc | apply Kd.S_drewN | apply Kd.S_drew)); exact HO_11.out⟩, ⟨by repeat (first | (with_reducible exact HR825_0.out) | (with_reducible refine Kd.C_alloc ?_ _) | (with_reducible refine Kd.C_drewN ?_ _) | (with_reducible refine Kd.C_drew ?_) | exact HR825_0.out)⟩, ⟨by repeat (first | (with_reducible first | exact HB.out | apply below_alloc | apply pw_below_drewN | apply below_drew1) | exact HB.out)⟩⟩
                                          · rw [if_neg c37] at H
                                            have c37b0 : ((Int.tmod (rd (rd_L1 t809 x17_3) x18_4) t808) == 0) = false := beq_eq_false_iff_ne.mpr c37
                                            have c37b1 : ((Int.tmod (rd (rd_L1 t809 x17_3) x18_4) t808) != 0) = true := bne_iff_ne.mpr c37
                                            by_cases c39 : (rd (rd_L1 t809 x17_3) x18_4) = t808
                                            · rw [if_pos c39] at H
                                              have c39b0 : ((rd (rd_L1 t809 x17_3) x18_4) == t808) = true := beq_iff_eq.mpr c39
                                              have c39b1 : ((rd (rd_L1 t809 x17_3) x18_4) != t808) = false := bne_eq_false_iff_eq.mpr c39
                                              clear c39
                                              have H' := Aside0.mk H
                                              clear H
                                              have p827 : 0 ≤ (x17_3 : Int) := of_decide_eq_true (by first | (with_reducible assumption) | assumption)
                                              have q827 : x17_3 < (t809.length : Int) := of_decide_eq_true (by first | (with_reducible assumption) | assumption)
                                              obtain ⟨ad827, A827_0, c827_0, e827, hx827_0, hl827_0, hi827_0⟩ := at_L1 (Kd.S_reads' HO_6.out).2.2 x17_3 p827 q827
                                              obtain rfl : ad825 = ad827 := (by injection e827)
                                              obtain ⟨ce827, hce827, hMe827, hcc827⟩ := Kd.S_get HO_6.out [] x17_3 p827 (by first | exact q827 | exact of_decide_eq_true (by first | (with_reducible assumption) | assumption) | (have e_ := (Kd.S_reads' HO_6.out).1; omega))
                                              obtain ⟨ve827_0, rfl, ge827_0⟩ := hMe827
                                              have hv827_0 := hcc827 0 _ rfl
                                              rw [Nat.add_zero, show ((Kd.slice 3 (Kd.int .i64))).sz = 1 from rfl, Nat.mul_one] at hv827_0
                                              replace hv827_0 := Option.some.inj (hv827_0.symm.trans hx827_0)
                                              rw [hv827_0] at ge827_0
                                              have HL827_0 := Aside0.mk (show Kd.R (Kd.int .i64) 3 _ _ _ _ (rd_L1 t809 x17_3) from ge827_0)
                                              clear hv827_0 ge827_0
                                              clear hcc827 hce827
                                              have HR827_0 := Aside0.mk hi827_0
                                              have HC827_0 := Aside0.mk hl827_0
                                              clear hi827_0 hl827_0
                                              replace p827 := eq_true p827
                                              replace q827 := eq_true q827
                                              have p828 : 0 ≤ (x17_3 : Int) := of_decide_eq_true (by first | (with_reducible assumption) | assumption)
                                              have q828 : x17_3 < (t809.length : Int) := of_decide_eq_true (by first | (with_reducible assumption) | assumption)
                                              obtain ⟨ad828, A828_0, c828_0, e828, hx828_0, hl828_0, hi828_0⟩ := at_L1 (Kd.S_reads' HO_6.out).2.2 x17_3 p828 q828
                                              obtain rfl : ad825 = ad828 := (by injection e828)
                                              obtain ⟨ce828, hce828, hMe828, hcc828⟩ := Kd.S_get HO_6.out [] x17_3 p828 (by first | exact q828 | exact of_decide_eq_true (by first | (with_reducible assumption) | assumption) | (have e_ := (Kd.S_reads' HO_6.out).1; omega))
                                              obtain ⟨ve828_0, rfl, ge828_0⟩ := hMe828
                                              have hv828_0 := hcc828 0 _ rfl
                                              rw [Nat.add_zero, show ((Kd.slice 3 (Kd.int .i64))).sz = 1 from rfl, Nat.mul_one] at hv828_0
                                              replace hv828_0 := Option.some.inj (hv828_0.symm.trans hx828_0)
                                              rw [hv828_0] at ge828_0
                                              have HL828_0 := Aside0.mk (show Kd.R (Kd.int .i64) 3 _ _ _ _ (rd_L1 t809 x17_3) from ge828_0)
                                              clear hv828_0 ge828_0
                                              clear hcc828 hce828
                                              have HR828_0 := Aside0.mk hi828_0
                                              have HC828_0 := Aside0.mk hl828_0
                                              clear hi828_0 hl828_0
                                              replace p828 := eq_true p828
                                              replace q828 := eq_true q828
                                              have ea_ := Option.some.inj (hx827_0.symm.trans hx828_0)
                                              injection ea_ with ea_ en_ ec_
                                              subst ea_
                                              subst ec_
                                              clear en_
                                              have p829 : 0 ≤ (x18_4 : Int) := of_decide_eq_true (by first | (with_reducible assumption) | assumption)
                                              have q829 : x18_4 < ((rd_L1 t809 x17_3).length : Int) := of_decide_eq_true (by first | (with_reducible assumption) | assumption)
                                              obtain ⟨ad829, e829, hx829_0⟩ := Kd.at_int (by repeat (first | (with_reducible exact HR828_0.out) | (with_reducible refine Kd.C_alloc ?_ _) | (with_reducible refine Kd.C_drewN ?_ _) | (with_reducible refine Kd.C_drew ?_) | exact HR828_0.out)) x18_4 p829 q829
                                              cases e829
                                              replace p829 := eq_true p829
                                              replace q829 := eq_true q829
                                              have p830 : 0 ≤ (x17_3 : Int) := of_decide_eq_true (by first | (with_reducible assumption) | assumption)
                                              have q830 : x17_3 < (t809.length : Int) := of_decide_eq_true (by first | (with_reducible assumption) | assumption)
                                              obtain ⟨ad830, A830_0, c830_0, e830, hx830_0, hl830_0, hi830_0⟩ := at_L1 (Kd.S_reads' HO_6.out).2.2 x17_3 p830 q830
                                              obtain rfl : ad825 = ad830 := (by injection e830)
                                              obtain ⟨ce830, hce830, hMe830, hcc830⟩ := Kd.S_get HO_6.out [] x17_3 p830 (by first | exact q830 | exact of_decide_eq_true (by first | (with_reducible assumption) | assumption) | (have e_ := (Kd.S_reads' HO_6.out).1; omega))
                                              obtain ⟨ve830_0, rfl, ge830_0⟩ := hMe830
                                              have hv830_0 := hcc830 0 _ rfl
                                              rw [Nat.add_zero, show ((Kd.slice 3 (Kd.int .i64))).sz = 1 from rfl, Nat.mul_one] at hv830_0
                                              replace hv830_0 := Option.some.inj (hv830_0.symm.trans hx830_0)
                                              rw [hv830_0] at ge830_0
                                              have HL830_0 := Aside0.mk (show Kd.R (Kd.int .i64) 3 _ _ _ _ (rd_L1 t809 x17_3) from ge830_0)
                                              clear hv830_0 ge830_0
                                              clear hcc830 hce830
                                              have HR830_0 := Aside0.mk hi830_0
                                              have HC830_0 := Aside0.mk hl830_0
                                              clear hi830_0 hl830_0
                                              replace p830 := eq_true p830
                                              replace q830 := eq_true q830
                                              have ea_ := Option.some.inj (hx827_0.symm.trans hx830_0)
                                              injection ea_ with ea_ en_ ec_
                                              subst ea_
                                              subst ec_
                                              clear en_
                                              have p831 : 0 ≤ (x18_4 : Int) := of_decide_eq_true (by first | (with_reducible assumption) | assumption)
                                              have q831 : x18_4 < ((rd_L1 t809 x17_3).length : Int) := of_decide_eq_true (by first | (with_reducible assumption) | assumption)
                                              obtain ⟨ad831, e831, hx831_0⟩ := Kd.at_int (by repeat (first | (with_reducible exact HR830_0.out) | (with_reducible refine Kd.C_alloc ?_ _) | (with_reducible refine Kd.C_drewN ?_ _) | (with_reducible refine Kd.C_drew ?_) | exact HR830_0.out)) x18_4 p831 q831
                                              cases e831
                                              replace p831 := eq_true p831
                                              replace q831 := eq_true q831
                                              have p834 : 0 ≤ (x17_3 : Int) := of_decide_eq_true (by first | (with_reducible assumption) | assumption)
                                              have q834 : x17_3 < (t809.length : Int) := of_decide_eq_true (by first | (with_reducible assumption) | assumption)
                                              obtain ⟨ad834, A834_0, c834_0, e834, hx834_0, hl834_0, hi834_0⟩ := at_L1 (Kd.S_reads' HO_6.out).2.2 x17_3 p834 q834
                                              obtain rfl : ad825 = ad834 := (by injection e834)
                                              obtain ⟨ce834, hce834, hMe834, hcc834⟩ := Kd.S_get HO_6.out [] x17_3 p834 (by first | exact q834 | exact of_decide_eq_true (by first | (with_reducible assumption) | assumption) | (have e_ := (Kd.S_reads' HO_6.out).1; omega))
                                              obtain ⟨ve834_0, rfl, ge834_0⟩ := hMe834
                                              have hv834_0 := hcc834 0 _ rfl
                                              rw [Nat.add_zero, show ((Kd.slice 3 (Kd.int .i64))).sz = 1 from rfl, Nat.mul_one] at hv834_0
                                              replace hv834_0 := Option.some.inj (hv834_0.symm.trans hx834_0)
                                              rw [hv834_0] at ge834_0
                                              have HL834_0 := Aside0.mk (show Kd.R (Kd.int .i64) 3 _ _ _ _ (rd_L1 t809 x17_3) from ge834_0)
                                              clear hv834_0 ge834_0
                                              clear hcc834 hce834
                                              have HR834_0 := Aside0.mk hi834_0
                                              have HC834_0 := Aside0.mk hl834_0
                                              clear hi834_0 hl834_0
                                              replace p834 := eq_true p834
                                              replace q834 := eq_true q834
                                              have ea_ := Option.some.inj (hx827_0.symm.trans hx834_0)
                                              injection ea_ with ea_ en_ ec_
                                              subst ea_
                                              subst ec_
                                              clear en_
                                              have p835 : 0 ≤ (x18_4 : Int) := of_decide_eq_true (by first | (with_reducible assumption) | assumption)
                                              have q835 : x18_4 < ((rd_L1 t809 x17_3).length : Int) := of_decide_eq_true (by first | (with_reducible assumption) | assumption)
                                              obtain ⟨ad835, e835, hx835_0⟩ := Kd.at_int (by repeat (first | (with_reducible exact HR834_0.out) | (with_reducible refine Kd.C_alloc ?_ _) | (with_reducible refine Kd.C_drewN ?_ _) | (with_reducible refine Kd.C_drew ?_) | exact HR834_0.out)) x18_4 p835 q835
                                              cases e835
                                              replace p835 := eq_true p835
                                              replace q835 := eq_true q835
                                              go_wp2
                                              repeat (go_quiet (fail); try go_wp2)
                                              go_roundg k4
                                              case measure => have := HJ2.out; have := HJ14.out; have := HK3.out; have := HK4.out; omega
                                              case rel => exact ⟨(x15_4), (wrap64 (x16_4 + 1)), (wrap64 (x18_4 + 1)), (by first | rfl | (simp; done) | (simp [*]; done)), (by first | rfl | (simp; done) | (simp [*]; done)), (by first | rfl | (simp; done) | (simp [*]; done)), H', ⟨by have := HJ2.out; have := HJ14.out; have := HK3.out; have := HK4.out; omega⟩, ⟨by (with_reducible repeat (first | apply Kd.S_alloc | apply Kd.S_drewN | apply Kd.S_drew)); exact HO_6.out⟩, ⟨by (with_reducible repeat (first | apply Kd.S_alloc | apply Kd.S_drewN | apply Kd.S_drew)); exact HO_11.out⟩, ⟨by repeat (first | (with_reducible exact HR825_0.out) | (with_reducible refine Kd.C_alloc ?_ _) | (with_reducible refine Kd.C_drewN ?_ _) | (with_reducible refine Kd.C_drew ?_) | exact HR825_0.out)⟩, ⟨by repeat (first | (with_reducible first | exact HB.out | apply below_alloc | apply pw_below_drewN | apply below_drew1) | exact HB.out)⟩⟩
                                            · rw [if_neg c39] at H
                                              have c39b0 : ((rd (rd_L1 t809 x17_3) x18_4) == t808) = false := beq_eq_false_iff_ne.mpr c39
                                              have c39b1 : ((rd (rd_L1 t809 x17_3) x18_4) != t808) = true := bne_iff_ne.mpr c39
                                              have H' := Aside0.mk H
                                              clear H
                                              have p827 : 0 ≤ (x17_3 : Int) := of_decide_eq_true (by first | (with_reducible assumption) | assumption)
                                              have q827 : x17_3 < (t809.length : Int) := of_decide_eq_true (by first | (with_reducible assumption) | assumption)
                                              obtain ⟨ad827, A827_0, c827_0, e827, hx827_0, hl827_0, hi827_0⟩ := at_L1 (Kd.S_reads' HO_6.out).2.2 x17_3 p827 q827
                                              obtain rfl : ad825 = ad827 := (by injection e827)
                                              obtain ⟨ce827, hce827, hMe827, hcc827⟩ := Kd.S_get HO_6.out [] x17_3 p827 (by first | exact q827 | exact of_decide_eq_true (by first | (with_reducible assumption) | assumption) | (have e_ := (Kd.S_reads' HO_6.out).1; omega))
                                              obtain ⟨ve827_0, rfl, ge827_0⟩ := hMe827
                                              have hv827_0 := hcc827 0 _ rfl
                                              rw [Nat.add_zero, show ((Kd.slice 3 (Kd.int .i64))).sz = 1 from rfl, Nat.mul_one] at hv827_0
                                              replace hv827_0 := Option.some.inj (hv827_0.symm.trans hx827_0)
                                              rw [hv827_0] at ge827_0
                                              have HL827_0 := Aside0.mk (show Kd.R (Kd.int .i64) 3 _ _ _ _ (rd_L1 t809 x17_3) from ge827_0)
                                              clear hv827_0 ge827_0
                                              clear hcc827 hce827
                                              have HR827_0 := Aside0.mk hi827_0
                                              have HC827_0 := Aside0.mk hl827_0
                                              clear hi827_0 hl827_0
                                              replace p827 := eq_true p827
                                              replace q827 := eq_true q827
                                              have p828 : 0 ≤ (x17_3 : Int) := of_decide_eq_true (by first | (with_reducible assumption) | assumption)
                                              have q828 : x17_3 < (t809.length : Int) := of_decide_eq_true (by first | (with_reducible assumption) | assumption)
                                              obtain ⟨ad828, A828_0, c828_0, e828, hx828_0, hl828_0, hi828_0⟩ := at_L1 (Kd.S_reads' HO_6.out).2.2 x17_3 p828 q828
                                              obtain rfl : ad825 = ad828 := (by injection e828)
                                              obtain ⟨ce828, hce828, hMe828, hcc828⟩ := Kd.S_get HO_6.out [] x17_3 p828 (by first | exact q828 | exact of_decide_eq_true (by first | (with_reducible assumption) | assumption) | (have e_ := (Kd.S_reads' HO_6.out).1; omega))
                                              obtain ⟨ve828_0, rfl, ge828_0⟩ := hMe828
                                              have hv828_0 := hcc828 0 _ rfl
                                              rw [Nat.add_zero, show ((Kd.slice 3 (Kd.int .i64))).sz = 1 from rfl, Nat.mul_one] at hv828_0
                                              replace hv828_0 := Option.some.inj (hv828_0.symm.trans hx828_0)
                                              rw [hv828_0] at ge828_0
                                              have HL828_0 := Aside0.mk (show Kd.R (Kd.int .i64) 3 _ _ _ _ (rd_L1 t809 x17_3) from ge828_0)
                                              clear hv828_0 ge828_0
                                              clear hcc828 hce828
                                              have HR828_0 := Aside0.mk hi828_0
                                              have HC828_0 := Aside0.mk hl828_0
                                              clear hi828_0 hl828_0
                                              replace p828 := eq_true p828
                                              replace q828 := eq_true q828
                                              have ea_ := Option.some.inj (hx827_0.symm.trans hx828_0)
                                              injection ea_ with ea_ en_ ec_
                                              subst ea_
                                              subst ec_
                                              clear en_
                                              have p829 : 0 ≤ (x18_4 : Int) := of_decide_eq_true (by first | (with_reducible assumption) | assumption)
                                              have q829 : x18_4 < ((rd_L1 t809 x17_3).length : Int) := of_decide_eq_true (by first | (with_reducible assumption) | assumption)
                                              obtain ⟨ad829, e829, hx829_0⟩ := Kd.at_int (by repeat (first | (with_reducible exact HR828_0.out) | (with_reducible refine Kd.C_alloc ?_ _) | (with_reducible refine Kd.C_drewN ?_ _) | (with_reducible refine Kd.C_drew ?_) | exact HR828_0.out)) x18_4 p829 q829
                                              cases e829
                                              replace p829 := eq_true p829
                                              replace q829 := eq_true q829
                                              have p830 : 0 ≤ (x17_3 : Int) := of_decide_eq_true (by first | (with_reducible assumption) | assumption)
                                              have q830 : x17_3 < (t809.length : Int) := of_decide_eq_true (by first | (with_reducible assumption) | assumption)
                                              obtain ⟨ad830, A830_0, c830_0, e830, hx830_0, hl830_0, hi830_0⟩ := at_L1 (Kd.S_reads' HO_6.out).2.2 x17_3 p830 q830
                                              obtain rfl : ad825 = ad830 := (by injection e830)
                                              obtain ⟨ce830, hce830, hMe830, hcc830⟩ := Kd.S_get HO_6.out [] x17_3 p830 (by first | exact q830 | exact of_decide_eq_true (by first | (with_reducible assumption) | assumption) | (have e_ := (Kd.S_reads' HO_6.out).1; omega))
                                              obtain ⟨ve830_0, rfl, ge830_0⟩ := hMe830
                                              have hv830_0 := hcc830 0 _ rfl
                                              rw [Nat.add_zero, show ((Kd.slice 3 (Kd.int .i64))).sz = 1 from rfl, Nat.mul_one] at hv830_0
                                              replace hv830_0 := Option.some.inj (hv830_0.symm.trans hx830_0)
                                              rw [hv830_0] at ge830_0
                                              have HL830_0 := Aside0.mk (show Kd.R (Kd.int .i64) 3 _ _ _ _ (rd_L1 t809 x17_3) from ge830_0)
                                              clear hv830_0 ge830_0
                                              clear hcc830 hce830
                                              have HR830_0 := Aside0.mk hi830_0
                                              have HC830_0 := Aside0.mk hl830_0
                                              clear hi830_0 hl830_0
                                              replace p830 := eq_true p830
                                              replace q830 := eq_true q830
                                              have ea_ := Option.some.inj (hx827_0.symm.trans hx830_0)
                                              injection ea_ with ea_ en_ ec_
                                              subst ea_
                                              subst ec_
                                              clear en_
                                              have p831 : 0 ≤ (x18_4 : Int) := of_decide_eq_true (by first | (with_reducible assumption) | assumption)
                                              have q831 : x18_4 < ((rd_L1 t809 x17_3).length : Int) := of_decide_eq_true (by first | (with_reducible assumption) | assumption)
                                              obtain ⟨ad831, e831, hx831_0⟩ := Kd.at_int (by repeat (first | (with_reducible exact HR830_0.out) | (with_reducible refine Kd.C_alloc ?_ _) | (with_reducible refine Kd.C_drewN ?_ _) | (with_reducible refine Kd.C_drew ?_) | exact HR830_0.out)) x18_4 p831 q831
                                              cases e831
                                              replace p831 := eq_true p831
                                              replace q831 := eq_true q831
                                              have p834 : 0 ≤ (x17_3 : Int) := of_decide_eq_true (by first | (with_reducible assumption) | assumption)
                                              have q834 : x17_3 < (t809.length : Int) := of_decide_eq_true (by first | (with_reducible assumption) | assumption)
                                              obtain ⟨ad834, A834_0, c834_0, e834, hx834_0, hl834_0, hi834_0⟩ := at_L1 (Kd.S_reads' HO_6.out).2.2 x17_3 p834 q834
                                              obtain rfl : ad825 = ad834 := (by injection e834)
                                              obtain ⟨ce834, hce834, hMe834, hcc834⟩ := Kd.S_get HO_6.out [] x17_3 p834 (by first | exact q834 | exact of_decide_eq_true (by first | (with_reducible assumption) | assumption) | (have e_ := (Kd.S_reads' HO_6.out).1; omega))
                                              obtain ⟨ve834_0, rfl, ge834_0⟩ := hMe834
                                              have hv834_0 := hcc834 0 _ rfl
                                              rw [Nat.add_zero, show ((Kd.slice 3 (Kd.int .i64))).sz = 1 from rfl, Nat.mul_one] at hv834_0
                                              replace hv834_0 := Option.some.inj (hv834_0.symm.trans hx834_0)
                                              rw [hv834_0] at ge834_0
                                              have HL834_0 := Aside0.mk (show Kd.R (Kd.int .i64) 3 _ _ _ _ (rd_L1 t809 x17_3) from ge834_0)
                                              clear hv834_0 ge834_0
                                              clear hcc834 hce834
                                              have HR834_0 := Aside0.mk hi834_0
                                              have HC834_0 := Aside0.mk hl834_0
                                              clear hi834_0 hl834_0
                                              replace p834 := eq_true p834
                                              replace q834 := eq_true q834
                                              have ea_ := Option.some.inj (hx827_0.symm.trans hx834_0)
                                              injection ea_ with ea_ en_ ec_
                                              subst ea_
                                              subst ec_
                                              clear en_
                                              have p835 : 0 ≤ (x18_4 : Int) := of_decide_eq_true (by first | (with_reducible assumption) | assumption)
                                              have q835 : x18_4 < ((rd_L1 t809 x17_3).length : Int) := of_decide_eq_true (by first | (with_reducible assumption) | assumption)
                                              obtain ⟨ad835, e835, hx835_0⟩ := Kd.at_int (by repeat (first | (with_reducible exact HR834_0.out) | (with_reducible refine Kd.C_alloc ?_ _) | (with_reducible refine Kd.C_drewN ?_ _) | (with_reducible refine Kd.C_drew ?_) | exact HR834_0.out)) x18_4 p835 q835
                                              cases e835
                                              replace p835 := eq_true p835
                                              replace q835 := eq_true q835
                                              go_wp2
                                              repeat (go_quiet (fail); try go_wp2)
                                              go_roundg k4
                                              case measure => have := HJ2.out; have := HJ14.out; have := HK3.out; have := HK4.out; omega
                                              case rel => exact ⟨(x15_4), (x16_4), (wrap64 (x18_4 + 1)), (by first | rfl | (simp; done) | (simp [*]; done)), (by first | rfl | (simp; done) | (simp [*]; done)), (by first | rfl | (simp; done) | (simp [*]; done)), H', ⟨by have := HJ2.out; have := HJ14.out; have := HK3.out; have := HK4.out; omega⟩, ⟨by (with_reducible repeat (first | apply Kd.S_alloc | apply Kd.S_drewN | apply Kd.S_drew)); exact HO_6.out⟩, ⟨by (with_reducible repeat (first | apply Kd.S_alloc | apply Kd.S_drewN | apply Kd.S_drew)); exact HO_11.out⟩, ⟨by repeat (first | (with_reducible exact HR825_0.out) | (with_reducible refine Kd.C_alloc ?_ _) | (with_reducible refine Kd.C_drewN ?_ _) | (with_reducible refine Kd.C_drew ?_) | exact HR825_0.out)⟩, ⟨by repeat (first | (with_reducible first | exact HB.out | apply below_alloc | apply pw_below_drewN | apply below_drew1) | exact HB.out)⟩⟩
                                    · rw [if_neg c34] at H
                                      exact absurd H (by simp)
                                  · rw [if_neg c33] at H
                                    have c33b0 : decide (x18_4 < ((rd_L1 t809 x17_3).length : Int)) = false := decide_eq_false c33
                                    clear c33
                                    have H' := Aside0.mk H
                                    clear H
                                    have p827 : 0 ≤ (x17_3 : Int) := of_decide_eq_true (by first | (with_reducible assumption) | assumption)
                                    have q827 : x17_3 < (t809.length : Int) := of_decide_eq_true (by first | (with_reducible assumption) | assumption)
                                    obtain ⟨ad827, A827_0, c827_0, e827, hx827_0, hl827_0, hi827_0⟩ := at_L1 (Kd.S_reads' HO_6.out).2.2 x17_3 p827 q827
                                    obtain rfl : ad825 = ad827 := (by injection e827)
                                    obtain ⟨ce827, hce827, hMe827, hcc827⟩ := Kd.S_get HO_6.out [] x17_3 p827 (by first | exact q827 | exact of_decide_eq_true (by first | (with_reducible assumption) | assumption) | (have e_ := (Kd.S_reads' HO_6.out).1; omega))
                                    obtain ⟨ve827_0, rfl, ge827_0⟩ := hMe827
                                    have hv827_0 := hcc827 0 _ rfl
                                    rw [Nat.add_zero, show ((Kd.slice 3 (Kd.int .i64))).sz = 1 from rfl, Nat.mul_one] at hv827_0
                                    replace hv827_0 := Option.some.inj (hv827_0.symm.trans hx827_0)
                                    rw [hv827_0] at ge827_0
                                    have HL827_0 := Aside0.mk (show Kd.R (Kd.int .i64) 3 _ _ _ _ (rd_L1 t809 x17_3) from ge827_0)
                                    clear hv827_0 ge827_0
                                    clear hcc827 hce827
                                    have HR827_0 := Aside0.mk hi827_0
                                    have HC827_0 := Aside0.mk hl827_0
                                    clear hi827_0 hl827_0
                                    replace p827 := eq_true p827
                                    replace q827 := eq_true q827
                                    go_wp2
                                    repeat (go_quiet (fail); try go_wp2)
                                    go_roundg k4
                                    case measure => have := HJ2.out; have := HJ14.out; have := HK3.out; have := HK4.out; omega
                                    case rel => exact ⟨(x15_4), (x16_4), (wrap64 (x17_3 + 1)), (by first | rfl | (simp; done) | (simp [*]; done)), (by first | rfl | (simp; done) | (simp [*]; done)), (by first | rfl | (simp; done) | (simp [*]; done)), H', ⟨by have := HJ2.out; have := HJ14.out; have := HK3.out; have := HK4.out; omega⟩, ⟨by (with_reducible repeat (first | apply Kd.S_alloc | apply Kd.S_drewN | apply Kd.S_drew)); exact HO_6.out⟩, ⟨by (with_reducible repeat (first | apply Kd.S_alloc | apply Kd.S_drewN | apply Kd.S_drew)); exact HO_11.out⟩, ⟨by repeat (first | (with_reducible first | exact HB.out | apply below_alloc | apply pw_below_drewN | apply below_drew1) | exact HB.out)⟩⟩
                                · rw [if_neg c32] at H
                                  exact absurd H (by simp)
                              · rw [if_neg c31] at H
                                exact absurd H (by simp)
                        · rw [if_neg c29] at H
                          exact absurd H (by simp)
                      · rw [if_neg c28] at H
                        exact absurd H (by simp)
                    · rw [if_neg c27] at H
                      exact absurd H (by simp)
                  · rw [if_neg c26] at H
                    have c26b0 : decide (x17_3 < (t809.length : Int)) = false := decide_eq_false c26
                    clear c26
                    by_cases c40 : x15_3 = t814
                    · rw [if_pos c40] at H
                      have c40b0 : (x15_3 == t814) = true := beq_iff_eq.mpr c40
                      have c40b1 : (x15_3 != t814) = false := bne_eq_false_iff_eq.mpr c40
                      clear c40
                      by_cases c41 : x16_3 = (t818.length : Int)
                      · rw [if_pos c41] at H
                        have c41b0 : (x16_3 == (t818.length : Int)) = true := beq_iff_eq.mpr c41
                        have c41b1 : (x16_3 != (t818.length : Int)) = false := bne_eq_false_iff_eq.mpr c41
                        clear c41
                        by_cases c42 : (t822 == (x15_3 == 0)) = true
                        · rw [if_pos c42] at H
                          have c42b0 : (t822 == (x15_3 == 0)) = true := c42
                          (try (have c42b1 : decide (t822 = (x15_3 == 0)) = true := by simpa using c42))
                          (try (have c42b2 : (t822 == (x15_3 == 0)) = true := by simpa using c42))
                          clear c42
                          by_cases c43 : (t822 == (x16_3 == 0)) = true
                          · rw [if_pos c43] at H
                            have c43b0 : (t822 == (x16_3 == 0)) = true := c43
                            (try (have c43b1 : decide (t822 = (x16_3 == 0)) = true := by simpa using c43))
                            (try (have c43b2 : (t822 == (x16_3 == 0)) = true := by simpa using c43))
                            clear c43
                            replace H := Option.bind_eq_some_iff.mp H
                            obtain ⟨t824, A440, H⟩ := H
                            replace H : (some t824) = some r := H
                            have A44 := Aside0.mk A440
                            clear A440
                            obtain rfl := Option.some.inj H
                            obtain ⟨Ao45, co45, eo45⟩ := Kd.S_slice HO_6.out
                            subst eo45
                            obtain ⟨Ao46, co46, eo46⟩ := Kd.S_slice HO_11.out
                            subst eo46
                            go_wp2_with (first | (go_at_call 16; (with_reducible refine (clochelaw04_alive.calls k3  t824 _ A44.out).mono ?_); rintro e w47 ⟨rfl, hb⟩; have n0_ := Aside0.mk (Kd.S_below (by (with_reducible repeat (first | apply Kd.S_alloc | apply Kd.S_drewN | apply Kd.S_drew)); exact HO_6.out) hb); have n1_ := Aside0.mk (Kd.S_below (by (with_reducible repeat (first | apply Kd.S_alloc | apply Kd.S_drewN | apply Kd.S_drew)); exact HO_11.out) hb); have n2_ := Aside0.mk (below_step (by repeat (first | (with_reducible first | exact HB.out | apply below_alloc | apply pw_below_drewN | apply below_drew1) | exact HB.out)) hb); clear HO_6; clear HO_11; clear HB; have HO_6 := n0_; have HO_11 := n1_; have HB := n2_; clear n0_ n1_ n2_; (try clear hb); (try clear hb2); (try clear hk); (try clear hi)))
                            repeat (go_quiet (first | (go_at_call 16; (with_reducible refine (clochelaw04_alive.calls k3  t824 _ A44.out).mono ?_); rintro e w47 ⟨rfl, hb⟩; have n0_ := Aside0.mk (Kd.S_below (by (with_reducible repeat (first | apply Kd.S_alloc | apply Kd.S_drewN | apply Kd.S_drew)); exact HO_6.out) hb); have n1_ := Aside0.mk (Kd.S_below (by (with_reducible repeat (first | apply Kd.S_alloc | apply Kd.S_drewN | apply Kd.S_drew)); exact HO_11.out) hb); have n2_ := Aside0.mk (below_step (by repeat (first | (with_reducible first | exact HB.out | apply below_alloc | apply pw_below_drewN | apply below_drew1) | exact HB.out)) hb); clear HO_6; clear HO_11; clear HB; have HO_6 := n0_; have HO_11 := n1_; have HB := n2_; clear n0_ n1_ n2_; (try clear hb); (try clear hb2); (try clear hk); (try clear hi))); try go_wp2_with (first | (go_at_call 16; (with_reducible refine (clochelaw04_alive.calls k3  t824 _ A44.out).mono ?_); rintro e w47 ⟨rfl, hb⟩; have n0_ := Aside0.mk (Kd.S_below (by (with_reducible repeat (first | apply Kd.S_alloc | apply Kd.S_drewN | apply Kd.S_drew)); exact HO_6.out) hb); have n1_ := Aside0.mk (Kd.S_below (by (with_reducible repeat (first | apply Kd.S_alloc | apply Kd.S_drewN | apply Kd.S_drew)); exact HO_11.out) hb); have n2_ := Aside0.mk (below_step (by repeat (first | (with_reducible first | exact HB.out | apply below_alloc | apply pw_below_drewN | apply below_drew1) | exact HB.out)) hb); clear HO_6; clear HO_11; clear HB; have HO_6 := n0_; have HO_11 := n1_; have HB := n2_; clear n0_ n1_ n2_; (try clear hb); (try clear hb2); (try clear hk); (try clear hi))))
                            go_ret
                            exact ⟨by first | rfl | (simp [errW_none, errW_some] <;> rfl) | (simp [*, errW_none, errW_some] <;> rfl), by repeat (first | (with_reducible first | exact HB.out | apply below_alloc | apply pw_below_drewN | apply below_drew1) | exact HB.out)⟩
                          · rw [if_neg c43] at H
                            exact absurd H (by simp)
                        · rw [if_neg c42] at H
                          exact absurd H (by simp)
                      · rw [if_neg c41] at H
                        exact absurd H (by simp)
                    · rw [if_neg c40] at H
                      exact absurd H (by simp)

/-- THE ONE PURE STATEMENT of clochelaw04_BlocksHooked: yours. -/
def clochelaw04_BlocksHooked.Pure : Prop := ∀ (l0 : List Int) (a1 : Int), l0.length ≤ maxLen → l0.length * 8 ≤ 140737488351232 → (∀ x ∈ l0, (Lit.int .i64 x).wf = true) → (Lit.int .u8 a1).wf = true → ∃ k, clochelaw04_BlocksHooked.f k l0 a1 = some true
theorem clochelaw04_BlocksHooked.walk (P : clochelaw04_BlocksHooked.Pure) (a0 : Option Addr) (len0 cap0 : Nat) (z0 : List Int) (a1 : Int) (w : World) (w0 : (a0 = none ∧ len0 = 0 ∧ cap0 = 0 ∧ z0 = []) ∨ ∃ x, a0 = some x ∧ len0 ≤ cap0 ∧ cap0 ≤ maxLen ∧ z0.length = cap0 ∧ (∀ i, i < z0.length → w.cell? (x.add i) = some (.int .i64 (z0.getD i 0))) ∧ ∀ n ∈ z0, (Lit.int .i64 n).wf = true) (y0 : len0 * 8 ≤ 140737488351232) (w1 : (Lit.int .u8 a1).wf = true) :
    Calls Try.prog 12 #[.slice a0 len0 cap0, .int .u8 a1] w fun e w' => e = .returned (.bool true) ∧ Below w.heap.size w w' := by
  obtain ⟨l0, rfl, hr0, hm0, hw0, hc0⟩ := ReadsInt.ofRowC w0
  obtain ⟨k, h⟩ := P l0 a1 hm0 y0 hw0 w1
  refine (clochelaw04_BlocksHooked.calls k _ _ l0 a1 true w (Kd.C_of_reads (d := (0 : Int)) (h1 := fun _ => rfl) hr0) hc0 h).mono ?_
  rintro e w' ⟨rfl, hd⟩
  exact ⟨rfl, hd⟩

end Go.Proofs.Ytcmphfcpiciehaa.Print
