/- What the functions of the blocks compute, printed by this repo's hand printer. -/
import Derived.Test.YtcmphfcpiciehaaPrintx0
import Derived.Test.YtcmphfcpiciehaaPrintx1
import Derived.Test.YtcmphfcpiciehaaPrintx5
import Derived.Test.YtcmphfcpiciehaaPrintx8
import Derived.Test.YtcmphfcpiciehaaPrintx12
import Derived.Test.YtcmphfcpiciehaaPrintx13
import Derived.Test.YtcmphfcpiciehaaPrintx14
import Derived.Test.YtcmphfcpiciehaaPrintx16
import Derived.Test.YtcmphfcpiciehaaPrintx24
namespace Go.Proofs.Ytcmphfcpiciehaa.Print
open Go.RowKit Go.Proofs.YtcmphfcpiciehaaW.PrintWords Go.Proofs.YtcmphfcpiciehaaW.PrintLast Go.Proofs.YtcmphfcpiciehaaW.PrintMore
attribute [local go_sem] max2_int min2_int max_two min_two max_three min_three max_four min_four   -- for this text's walks alone
set_option linter.unusedVariables false
set_option linter.unusedSimpArgs false

/-! ### clochelaw04_BlocksBack: function 5 -/
mutual
def clochelaw04_BlocksBack.j0 : Nat → List Int → Int → Bool → Option (Bool)
  | 0, _, _, _ => none
  | k + 1, x0, x1, x21 => if x21 = true then ((clochelaw04_alive.f k).bind fun t514 => (some t514)) else ((clochelaw04_wires.f x1).bind fun t515 => ((blocks_Core.f k x0 t515).bind fun bt516 => ((blocks_Quotient.f k x0 t515).bind fun bt521 => (if bt516.2.2 = 0 then (if bt521.2 = 0 then (clochelaw04_BlocksBack.j1 k x0 t515 bt516.1 bt516.2.1 bt521.1 ((bt521.1.length : Int) != t515)) else (none)) else (none)))))
def clochelaw04_BlocksBack.j1 : Nat → List Int → Int → List Int → Int → List (List Int) → Bool → Option (Bool)
  | 0, _, _, _, _, _, _ => none
  | k + 1, x0, x5, x6, x7, x9, x49 => if x49 = true then (none) else (clochelaw04_BlocksBack.l0 k x0 x5 x6 x7 x9 0 0)
def clochelaw04_BlocksBack.l0 : Nat → List Int → Int → List Int → Int → List (List Int) → Int → Int → Option (Bool)
  | 0, _, _, _, _, _, _, _ => none
  | k + 1, x0, x5, x6, x7, x9, x11, x12 => if x12 < x5 then (if 0 ≤ x12 then (if x12 < (x9.length : Int) then ((clocheref04_IsShape.f k (rd_L1 x9 x12)).bind fun t526 => (if t526 = true then ((clocheref04_Sum.f k (rd_L1 x9 x12)).bind fun t528 => (clochelaw04_BlocksBack.l0 k x0 x5 x6 x7 x9 (wrap64 (x11 + t528)) (wrap64 (x12 + 1)))) else (none))) else (none)) else (none)) else ((clocheref04_Sum.f k x6).bind fun t529 => ((clocheref04_Sum.f k x0).bind fun t530 => (if (wrap64 (t529 + (wrap64 (x5 * x11)))) = t530 then (clochelaw04_BlocksBack.j3 k x0 x6 x9 (x11 != x7)) else (none))))
def clochelaw04_BlocksBack.j3 : Nat → List Int → List Int → List (List Int) → Bool → Option (Bool)
  | 0, _, _, _, _ => none
  | k + 1, x0, x6, x9, x81 => if x81 = true then (none) else ((blocks_Of.f k x6 x9).bind fun bt531 => (if bt531.2 = 0 then ((clochelaw04_same.f k bt531.1 x0).bind fun t535 => (if t535 = true then ((clochelaw04_alive.f k).bind fun t536 => (some t536)) else (none))) else (none)))
end
def clochelaw04_BlocksBack.f (k : Nat) (l0 : List Int) (a1 : Int) : Option (Bool) := (clochelaw04_few.f k l0 ([] : List (List Int))).bind fun t512 => (if t512 = true then ((clocheref04_IsShape.f k l0).bind fun t513 => (clochelaw04_BlocksBack.j0 k l0 a1 (!t513))) else (clochelaw04_BlocksBack.j0 k l0 a1 true))
theorem clochelaw04_BlocksBack.mono_l : ∀ k, (∀ y0 y1 y2, LeO (clochelaw04_BlocksBack.j0 k y0 y1 y2) (clochelaw04_BlocksBack.j0 (k + 1) y0 y1 y2)) ∧ (∀ y0 y1 y2 y3 y4 y5, LeO (clochelaw04_BlocksBack.j1 k y0 y1 y2 y3 y4 y5) (clochelaw04_BlocksBack.j1 (k + 1) y0 y1 y2 y3 y4 y5)) ∧ (∀ y0 y1 y2 y3 y4 y5 y6, LeO (clochelaw04_BlocksBack.l0 k y0 y1 y2 y3 y4 y5 y6) (clochelaw04_BlocksBack.l0 (k + 1) y0 y1 y2 y3 y4 y5 y6)) ∧ (∀ y0 y1 y2 y3, LeO (clochelaw04_BlocksBack.j3 k y0 y1 y2 y3) (clochelaw04_BlocksBack.j3 (k + 1) y0 y1 y2 y3))
  | 0 => ⟨fun _ _ _ r h => by simp [clochelaw04_BlocksBack.j0] at h, fun _ _ _ _ _ _ r h => by simp [clochelaw04_BlocksBack.j1] at h, fun _ _ _ _ _ _ _ r h => by simp [clochelaw04_BlocksBack.l0] at h, fun _ _ _ _ r h => by simp [clochelaw04_BlocksBack.j3] at h⟩
  | k + 1 => by
    obtain ⟨ih0, ih1, ih2, ih3⟩ := clochelaw04_BlocksBack.mono_l k
    refine ⟨?_, ?_, ?_, ?_⟩
    · intro y0 y1 y2
      unfold clochelaw04_BlocksBack.j0
      repeat' first
      | (with_reducible exact ih0 _ _ _)
      | (with_reducible exact ih1 _ _ _ _ _ _)
      | (with_reducible exact ih2 _ _ _ _ _ _ _)
      | (with_reducible exact ih3 _ _ _ _)
      | (with_reducible exact blocks_Core.mono _ _ _)
      | (with_reducible exact blocks_Of.mono _ _ _)
      | (with_reducible exact blocks_Quotient.mono _ _ _)
      | (with_reducible exact clochelaw04_alive.mono _)
      | (with_reducible exact clochelaw04_few.mono _ _ _)
      | (with_reducible exact clochelaw04_same.mono _ _ _)
      | (with_reducible exact clocheref04_IsShape.mono _ _)
      | (with_reducible exact clocheref04_Sum.mono _ _)
      | (with_reducible exact LeO.refl _)
      | (with_reducible exact LeO.none _)
      | (with_reducible refine LeO.ite ?_ ?_)
      | (with_reducible refine LeO.bind ?_ (fun _ => ?_))
      | exact ih0 _ _ _
      | exact ih1 _ _ _ _ _ _
      | exact ih2 _ _ _ _ _ _ _
      | exact ih3 _ _ _ _
      | exact blocks_Core.mono _ _ _
      | exact blocks_Of.mono _ _ _
      | exact blocks_Quotient.mono _ _ _
      | exact clochelaw04_alive.mono _
      | exact clochelaw04_few.mono _ _ _
      | exact clochelaw04_same.mono _ _ _
      | exact clocheref04_IsShape.mono _ _
      | exact clocheref04_Sum.mono _ _
      | exact LeO.none _
      | refine LeO.ite ?_ ?_
      | refine LeO.bind ?_ (fun _ => ?_)
    · intro y0 y1 y2 y3 y4 y5
      unfold clochelaw04_BlocksBack.j1
      repeat' first
      | (with_reducible exact ih0 _ _ _)
      | (with_reducible exact ih1 _ _ _ _ _ _)
      | (with_reducible exact ih2 _ _ _ _ _ _ _)
      | (with_reducible exact ih3 _ _ _ _)
      | (with_reducible exact blocks_Core.mono _ _ _)
      | (with_reducible exact blocks_Of.mono _ _ _)
      | (with_reducible exact blocks_Quotient.mono _ _ _)
      | (with_reducible exact clochelaw04_alive.mono _)
      | (with_reducible exact clochelaw04_few.mono _ _ _)
      | (with_reducible exact clochelaw04_same.mono _ _ _)
      | (with_reducible exact clocheref04_IsShape.mono _ _)
      | (with_reducible exact clocheref04_Sum.mono _ _)
      | (with_reducible exact LeO.refl _)
      | (with_reducible exact LeO.none _)
      | (with_reducible refine LeO.ite ?_ ?_)
      | (with_reducible refine LeO.bind ?_ (fun _ => ?_))
      | exact ih0 _ _ _
      | exact ih1 _ _ _ _ _ _
      | exact ih2 _ _ _ _ _ _ _
      | exact ih3 _ _ _ _
      | exact blocks_Core.mono _ _ _
      | exact blocks_Of.mono _ _ _
      | exact blocks_Quotient.mono _ _ _
      | exact clochelaw04_alive.mono _
      | exact clochelaw04_few.mono _ _ _
      | exact clochelaw04_same.mono _ _ _
      | exact clocheref04_IsShape.mono _ _
      | exact clocheref04_Sum.mono _ _
      | exact LeO.none _
      | refine LeO.ite ?_ ?_
      | refine LeO.bind ?_ (fun _ => ?_)
    · intro y0 y1 y2 y3 y4 y5 y6
      unfold clochelaw04_BlocksBack.l0
      repeat' first
      | (with_reducible exact ih0 _ _ _)
      | (with_reducible exact ih1 _ _ _ _ _ _)
      | (with_reducible exact ih2 _ _ _ _ _ _ _)
      | (with_reducible exact ih3 _ _ _ _)
      | (with_reducible exact blocks_Core.mono _ _ _)
      | (with_reducible exact blocks_Of.mono _ _ _)
      | (with_reducible exact blocks_Quotient.mono _ _ _)
      | (with_reducible exact clochelaw04_alive.mono _)
      | (with_reducible exact clochelaw04_few.mono _ _ _)
      | (with_reducible exact clochelaw04_same.mono _ _ _)
      | (with_reducible exact clocheref04_IsShape.mono _ _)
      | (with_reducible exact clocheref04_Sum.mono _ _)
      | (with_reducible exact LeO.refl _)
      | (with_reducible exact LeO.none _)
      | (with_reducible refine LeO.ite ?_ ?_)
      | (with_reducible refine LeO.bind ?_ (fun _ => ?_))
      | exact ih0 _ _ _
      | exact ih1 _ _ _ _ _ _
      | exact ih2 _ _ _ _ _ _ _
      | exact ih3 _ _ _ _
      | exact blocks_Core.mono _ _ _
      | exact blocks_Of.mono _ _ _
      | exact blocks_Quotient.mono _ _ _
      | exact clochelaw04_alive.mono _
      | exact clochelaw04_few.mono _ _ _
      | exact clochelaw04_same.mono _ _ _
      | exact clocheref04_IsShape.mono _ _
      | exact clocheref04_Sum.mono _ _
      | exact LeO.none _
      | refine LeO.ite ?_ ?_
      | refine LeO.bind ?_ (fun _ => ?_)
    · intro y0 y1 y2 y3
      unfold clochelaw04_BlocksBack.j3
      repeat' first
      | (with_reducible exact ih0 _ _ _)
      | (with_reducible exact ih1 _ _ _ _ _ _)
      | (with_reducible exact ih2 _ _ _ _ _ _ _)
      | (with_reducible exact ih3 _ _ _ _)
      | (with_reducible exact blocks_Core.mono _ _ _)
      | (with_reducible exact blocks_Of.mono _ _ _)
      | (with_reducible exact blocks_Quotient.mono _ _ _)
      | (with_reducible exact clochelaw04_alive.mono _)
      | (with_reducible exact clochelaw04_few.mono _ _ _)
      | (with_reducible exact clochelaw04_same.mono _ _ _)
      | (with_reducible exact clocheref04_IsShape.mono _ _)
      | (with_reducible exact clocheref04_Sum.mono _ _)
      | (with_reducible exact LeO.refl _)
      | (with_reducible exact LeO.none _)
      | (with_reducible refine LeO.ite ?_ ?_)
      | (with_reducible refine LeO.bind ?_ (fun _ => ?_))
      | exact ih0 _ _ _
      | exact ih1 _ _ _ _ _ _
      | exact ih2 _ _ _ _ _ _ _
      | exact ih3 _ _ _ _
      | exact blocks_Core.mono _ _ _
      | exact blocks_Of.mono _ _ _
      | exact blocks_Quotient.mono _ _ _
      | exact clochelaw04_alive.mono _
      | exact clochelaw04_few.mono _ _ _
      | exact clochelaw04_same.mono _ _ _
      | exact clocheref04_IsShape.mono _ _
      | exact clocheref04_Sum.mono _ _
      | exact LeO.none _
      | refine LeO.ite ?_ ?_
      | refine LeO.bind ?_ (fun _ => ?_)
theorem clochelaw04_BlocksBack.mono : ∀ a0 a1 k, LeO (clochelaw04_BlocksBack.f k a0 a1) (clochelaw04_BlocksBack.f (k + 1) a0 a1) := by
  intro a0 a1 k
  obtain ⟨ih0, ih1, ih2, ih3⟩ := clochelaw04_BlocksBack.mono_l k
  unfold clochelaw04_BlocksBack.f
  repeat' first
      | (with_reducible exact ih0 _ _ _)
      | (with_reducible exact ih1 _ _ _ _ _ _)
      | (with_reducible exact ih2 _ _ _ _ _ _ _)
      | (with_reducible exact ih3 _ _ _ _)
      | (with_reducible exact blocks_Core.mono _ _ _)
      | (with_reducible exact blocks_Of.mono _ _ _)
      | (with_reducible exact blocks_Quotient.mono _ _ _)
      | (with_reducible exact clochelaw04_alive.mono _)
      | (with_reducible exact clochelaw04_few.mono _ _ _)
      | (with_reducible exact clochelaw04_same.mono _ _ _)
      | (with_reducible exact clocheref04_IsShape.mono _ _)
      | (with_reducible exact clocheref04_Sum.mono _ _)
      | (with_reducible exact LeO.refl _)
      | (with_reducible exact LeO.none _)
      | (with_reducible refine LeO.ite ?_ ?_)
      | (with_reducible refine LeO.bind ?_ (fun _ => ?_))
      | exact ih0 _ _ _
      | exact ih1 _ _ _ _ _ _
      | exact ih2 _ _ _ _ _ _ _
      | exact ih3 _ _ _ _
      | exact blocks_Core.mono _ _ _
      | exact blocks_Of.mono _ _ _
      | exact blocks_Quotient.mono _ _ _
      | exact clochelaw04_alive.mono _
      | exact clochelaw04_few.mono _ _ _
      | exact clochelaw04_same.mono _ _ _
      | exact clocheref04_IsShape.mono _ _
      | exact clocheref04_Sum.mono _ _
      | exact LeO.none _
      | refine LeO.ite ?_ ?_
      | refine LeO.bind ?_ (fun _ => ?_)
set_option maxHeartbeats 8000000 in
set_option maxRecDepth 100000 in
theorem clochelaw04_BlocksBack.calls (k : Nat) (A0 : Option Addr) (c0 : Nat) (l0 : List Int) (a1 : Int) (r : Bool) (w : World) (hr0 : Kd.C (Kd.int .i64) w A0 l0.length l0) (hc0 : l0.length ≤ c0) (h : clochelaw04_BlocksBack.f k l0 a1 = some r) :
    Calls Try.prog 5 #[.slice A0 l0.length c0, .int .u8 a1] w fun e w' => e = .returned (.bool r) ∧ Below w.heap.size w w' := by
  have HR0 := Aside0.mk hr0
  have HC0 := Aside0.mk hc0
  clear hr0 hc0
  have HB := Aside0.mk (Below.refl w.heap.size w)
  have H : ((clochelaw04_few.f k l0 ([] : List (List Int))).bind fun t512 => (if t512 = true then ((clocheref04_IsShape.f k l0).bind fun t513 => (clochelaw04_BlocksBack.j0 k l0 a1 (!t513))) else (clochelaw04_BlocksBack.j0 k l0 a1 true))) = some r := h
  clear h
  have HC3 := Aside0.mk H
  clear H
  go_enter Try.func5, Try.ntmps5
  go_upto_region 1 with (fail)
  go_cut [21] (fun v21 wc => ∃ (kq : Nat) (x21_2 : Bool), v21 = .bool x21_2 ∧ Aside0 (clochelaw04_BlocksBack.j0 kq l0 a1 x21_2 = some r) ∧ Aside0 (kq ≤ k) ∧ Aside0 (Below w.heap.size w wc))
  case first =>
    have H := HC3.out
    clear HC3
    replace H := Option.bind_eq_some_iff.mp H
    obtain ⟨t512, A40, H⟩ := H
    replace H : (if t512 = true then ((clocheref04_IsShape.f k l0).bind fun t513 => (clochelaw04_BlocksBack.j0 k l0 a1 (!t513))) else (clochelaw04_BlocksBack.j0 k l0 a1 true)) = some r := H
    have A4 := Aside0.mk A40
    clear A40
    by_cases c5 : t512 = true
    · subst c5
      have H1 : ((clocheref04_IsShape.f k l0).bind fun t513 => (clochelaw04_BlocksBack.j0 k l0 a1 (!t513))) = some r := by rw [if_pos rfl] at H; exact H
      clear H
      have H := H1
      clear H1
      replace H := Option.bind_eq_some_iff.mp H
      obtain ⟨t513, A60, H⟩ := H
      replace H : (clochelaw04_BlocksBack.j0 k l0 a1 (!t513)) = some r := H
      have A6 := Aside0.mk A60
      clear A60
      have H' := Aside0.mk H
      clear H
      go_wp2_with (first | ((with_reducible refine gate_callee (f := 15) rfl ?_); refine goesL_ (some 15) rfl rfl Try.func15 (by kernel_rfl) rfl #[.slice A0 l0.length c0, .slice none 0 0] rfl (by (try simp only [List.map_toArray, List.map_cons, List.map_nil]); first | done | rfl | (simp only [List.length_drop, List.length_take]; rfl)) ?_; (refine (clochelaw04_few.calls k _ _ l0 _ _ ([] : List (List Int)) true _ ?side1 ?side2 ?side3 ?side4 A4.out).mono ?_); (case side1 => repeat (first | exact (Kd.C_below HR0.out HB.out) | (with_reducible refine Kd.C_alloc ?_ _) | (with_reducible refine Kd.C_drewN ?_ _) | (with_reducible refine Kd.C_drew ?_))); (case side2 => exact HC0.out); (case side3 => exact Kd.C_nil _ _); (case side4 => exact Nat.le_refl _); rintro e w' ⟨rfl, ⟨nd, rfl⟩⟩; refine ⟨_, rfl, ?_⟩) | (go_at_call 25; (with_reducible refine (clocheref04_IsShape.calls k _ _ l0 t513 _ ?side1 ?side2 A6.out).mono ?_); (case side1 => repeat (first | exact (Kd.C_below HR0.out (by repeat (first | (with_reducible first | exact HB.out | apply below_alloc | apply pw_below_drewN | apply below_drew1) | exact HB.out))) | (with_reducible refine Kd.C_alloc ?_ _) | (with_reducible refine Kd.C_drewN ?_ _) | (with_reducible refine Kd.C_drew ?_))); (case side2 => exact HC0.out); rintro e w' ⟨rfl, ⟨nd, rfl⟩⟩))
      go_meet
      case rel => exact ⟨_, (!t513), (by first | rfl | (simp; done) | (simp [*]; done)), H', ⟨by first | omega | exact Nat.le_refl _⟩, ⟨by repeat (first | (with_reducible first | exact HB.out | apply below_alloc | apply pw_below_drewN | apply below_drew1) | exact HB.out)⟩⟩
    · replace c5 := Bool.eq_false_iff.mpr c5
      subst c5
      have H1 : (clochelaw04_BlocksBack.j0 k l0 a1 true) = some r := by rw [if_neg (show ¬ (false = true) by decide)] at H; exact H
      clear H
      have H := H1
      clear H1
      have H' := Aside0.mk H
      clear H
      go_wp2_with (first | ((with_reducible refine gate_callee (f := 15) rfl ?_); refine goesL_ (some 15) rfl rfl Try.func15 (by kernel_rfl) rfl #[.slice A0 l0.length c0, .slice none 0 0] rfl (by (try simp only [List.map_toArray, List.map_cons, List.map_nil]); first | done | rfl | (simp only [List.length_drop, List.length_take]; rfl)) ?_; (refine (clochelaw04_few.calls k _ _ l0 _ _ ([] : List (List Int)) false _ ?side1 ?side2 ?side3 ?side4 A4.out).mono ?_); (case side1 => repeat (first | exact (Kd.C_below HR0.out HB.out) | (with_reducible refine Kd.C_alloc ?_ _) | (with_reducible refine Kd.C_drewN ?_ _) | (with_reducible refine Kd.C_drew ?_))); (case side2 => exact HC0.out); (case side3 => exact Kd.C_nil _ _); (case side4 => exact Nat.le_refl _); rintro e w' ⟨rfl, ⟨nd, rfl⟩⟩; refine ⟨_, rfl, ?_⟩))
      go_meet
      case rel => exact ⟨_, (true), (by first | rfl | (simp; done) | (simp [*]; done)), H', ⟨by first | omega | exact Nat.le_refl _⟩, ⟨by repeat (first | (with_reducible first | exact HB.out | apply below_alloc | apply pw_below_drewN | apply below_drew1) | exact HB.out)⟩⟩
  case rest =>
    clear HC3
    try clear c1
    try clear p2
    try clear c5
    obtain ⟨kq, x21_2, rfl, HA, HJ2, HB⟩ := hcut
    cases kq with
    | zero => exact absurd HA.out (by simp [clochelaw04_BlocksBack.j0])
    | succ kj2 =>
      have H := HA.out
      clear HA
      simp only [clochelaw04_BlocksBack.j0] at H
      by_cases c7 : x21_2 = true
      · subst c7
        have H1 : ((clochelaw04_alive.f kj2).bind fun t514 => (some t514)) = some r := by rw [if_pos rfl] at H; exact H
        clear H
        have H := H1
        clear H1
        replace H := Option.bind_eq_some_iff.mp H
        obtain ⟨t514, A80, H⟩ := H
        replace H : (some t514) = some r := H
        have A8 := Aside0.mk A80
        clear A80
        obtain rfl := Option.some.inj H
        go_wp2_with (first | ((with_reducible refine gate_callee (f := 16) rfl ?_); refine goesL_ (some 22) rfl rfl Try.func16 (by kernel_rfl) rfl #[] rfl (by (try simp only [List.map_toArray, List.map_cons, List.map_nil]); first | done | rfl | (simp only [List.length_drop, List.length_take]; rfl)) ?_; (with_reducible refine (clochelaw04_alive.calls kj2  t514 _ A8.out).mono ?_); rintro e w9 ⟨rfl, hb⟩; refine ⟨_, rfl, ?_⟩; have n0_ := Aside0.mk (below_step (by repeat (first | (with_reducible first | exact HB.out | apply below_alloc | apply pw_below_drewN | apply below_drew1) | exact HB.out)) hb); clear HB; have HB := n0_; clear n0_; (try clear hb); (try clear hb2); (try clear hk); (try clear hi)))
        go_ret
        exact ⟨by first | rfl | (simp [errW_none, errW_some] <;> rfl) | (simp [*, errW_none, errW_some] <;> rfl), by repeat (first | (with_reducible first | exact HB.out | apply below_alloc | apply pw_below_drewN | apply below_drew1) | exact HB.out)⟩
      · replace c7 := Bool.eq_false_iff.mpr c7
        subst c7
        have H1 : ((clochelaw04_wires.f a1).bind fun t515 => ((blocks_Core.f kj2 l0 t515).bind fun bt516 => ((blocks_Quotient.f kj2 l0 t515).bind fun bt521 => (if bt516.2.2 = 0 then (if bt521.2 = 0 then (clochelaw04_BlocksBack.j1 kj2 l0 t515 bt516.1 bt516.2.1 bt521.1 ((bt521.1.length : Int) != t515)) else (none)) else (none))))) = some r := by rw [if_neg (show ¬ (false = true) by decide)] at H; exact H
        clear H
        have H := H1
        clear H1
        replace H := Option.bind_eq_some_iff.mp H
        obtain ⟨t515, A100, H⟩ := H
        replace H : ((blocks_Core.f kj2 l0 t515).bind fun bt516 => ((blocks_Quotient.f kj2 l0 t515).bind fun bt521 => (if bt516.2.2 = 0 then (if bt521.2 = 0 then (clochelaw04_BlocksBack.j1 kj2 l0 t515 bt516.1 bt516.2.1 bt521.1 ((bt521.1.length : Int) != t515)) else (none)) else (none)))) = some r := H
        have A10 := Aside0.mk A100
        clear A100
        replace H := Option.bind_eq_some_iff.mp H
        obtain ⟨⟨t516, t517, t518⟩, A110, H⟩ := H
        replace H : ((blocks_Quotient.f kj2 l0 t515).bind fun bt521 => (if t518 = 0 then (if bt521.2 = 0 then (clochelaw04_BlocksBack.j1 kj2 l0 t515 t516 t517 bt521.1 ((bt521.1.length : Int) != t515)) else (none)) else (none))) = some r := H
        have A11 := Aside0.mk A110
        clear A110
        replace H := Option.bind_eq_some_iff.mp H
        obtain ⟨⟨t521, t522⟩, A120, H⟩ := H
        replace H : (if t518 = 0 then (if t522 = 0 then (clochelaw04_BlocksBack.j1 kj2 l0 t515 t516 t517 t521 ((t521.length : Int) != t515)) else (none)) else (none)) = some r := H
        have A12 := Aside0.mk A120
        clear A120
        have HC13 := Aside0.mk H
        clear H
        go_upto_region 6 with (first | ((with_reducible refine gate_callee (f := 26) rfl ?_); refine goesL_ (some 24) rfl rfl Try.func26 (by kernel_rfl) rfl #[.int .u8 a1] rfl (by (try simp only [List.map_toArray, List.map_cons, List.map_nil]); first | done | rfl | (simp only [List.length_drop, List.length_take]; rfl)) ?_; (with_reducible refine (clochelaw04_wires.calls a1 t515 _ A10.out).mono ?_); rintro e w' ⟨rfl, ⟨nd, rfl⟩⟩; refine ⟨_, rfl, ?_⟩) | ((with_reducible refine gate_callee (f := 27) rfl ?_); refine goesL_ (some 28) rfl rfl Try.func27 (by kernel_rfl) rfl #[.slice A0 l0.length c0, .int .i64 t515] rfl (by (try simp only [List.map_toArray, List.map_cons, List.map_nil]); first | done | rfl | (simp only [List.length_drop, List.length_take]; rfl)) ?_; (with_reducible refine (blocks_Core.calls kj2 _ _ l0 t515 t516 t517 t518 _ ?side1 ?side2 A11.out).mono ?_); (case side1 => repeat (first | exact (Kd.C_below HR0.out (by repeat (first | (with_reducible first | exact HB.out | apply below_alloc | apply pw_below_drewN | apply below_drew1) | exact HB.out))) | (with_reducible refine Kd.C_alloc ?_ _) | (with_reducible refine Kd.C_drewN ?_ _) | (with_reducible refine Kd.C_drew ?_))); (case side2 => exact HC0.out); rintro e w14 ⟨v519, rfl, ho0, hb⟩; refine ⟨_, rfl, ?_⟩; have n0_ := Aside0.mk (Kd.R_lower ho0 (below_size (by repeat (first | (with_reducible first | exact HB.out | apply below_alloc | apply pw_below_drewN | apply below_drew1) | exact HB.out)))); have n1_ := Aside0.mk (below_step (by repeat (first | (with_reducible first | exact HB.out | apply below_alloc | apply pw_below_drewN | apply below_drew1) | exact HB.out)) hb); clear HB; have HO520 := n0_; have HB := n1_; clear n0_ n1_; (try clear hb); (try clear hb2); (try clear hk); (try clear hi); (try clear ho0)) | ((with_reducible refine gate_callee (f := 17) rfl ?_); refine goesL_ (some 35) rfl rfl Try.func17 (by kernel_rfl) rfl #[.slice A0 l0.length c0, .int .i64 t515] rfl (by (try simp only [List.map_toArray, List.map_cons, List.map_nil]); first | done | rfl | (simp only [List.length_drop, List.length_take]; rfl)) ?_; (with_reducible refine (blocks_Quotient.calls kj2 _ _ l0 t515 t521 t522 _ ?side1 ?side2 A12.out).mono ?_); (case side1 => repeat (first | exact (Kd.C_below HR0.out HB.out) | (with_reducible refine Kd.C_alloc ?_ _) | (with_reducible refine Kd.C_drewN ?_ _) | (with_reducible refine Kd.C_drew ?_))); (case side2 => exact HC0.out); rintro e w15 ⟨v523, rfl, ho0, hb⟩; refine ⟨_, rfl, ?_⟩; have n0_ := Aside0.mk (Kd.R_below (by (with_reducible repeat (first | apply Kd.R_alloc | apply Kd.R_drewN | apply Kd.R_drew)); exact HO520.out) hb); have n1_ := Aside0.mk (Kd.S_lower (Kd.S_new' ho0 (Kd.R_lt (by (with_reducible repeat (first | apply Kd.R_alloc | apply Kd.R_drewN | apply Kd.R_drew)); exact HO520.out))) (below_size (by repeat (first | (with_reducible first | exact HB.out | apply below_alloc | apply pw_below_drewN | apply below_drew1) | exact HB.out)))); have n2_ := Aside0.mk (below_step (by repeat (first | (with_reducible first | exact HB.out | apply below_alloc | apply pw_below_drewN | apply below_drew1) | exact HB.out)) hb); clear HO520; clear HB; have HO520 := n0_; have HO524 := n1_; have HB := n2_; clear n0_ n1_ n2_; (try clear hb); (try clear hb2); (try clear hk); (try clear hi); (try clear ho0)))
        (try simp only [Act.put, List.setIfInBounds_toArray, List.set_cons_zero, List.set_cons_succ])
        go_cut [49] (fun v49 wc => ∃ (kq : Nat) (x49_12 : Bool), v49 = .bool x49_12 ∧ Aside0 (clochelaw04_BlocksBack.j1 kq l0 t515 t516 t517 t521 x49_12 = some r) ∧ Aside0 (kq ≤ kj2) ∧ Aside0 (Kd.R (Kd.int .i64) 3 wc w.heap.size (fun _ => True) v519 t516) ∧ Aside0 (Kd.S (Kd.slice 3 (Kd.int .i64)) 22 wc w.heap.size (fun k_ => some k_ ≠ (v519 : Value).ownBlock) v523 t521) ∧ Aside0 (Below w.heap.size w wc))
        case first =>
          have H := HC13.out
          clear HC13
          by_cases c16 : t518 = 0
          · rw [if_pos c16] at H
            have c16b0 : (t518 == 0) = true := beq_iff_eq.mpr c16
            have c16b1 : (t518 != 0) = false := bne_eq_false_iff_eq.mpr c16
            clear c16
            (first | rw [c16b0] | (simp only [i64_w, i32_w]; rw [c16b0]) | skip)
            by_cases c17 : t522 = 0
            · rw [if_pos c17] at H
              have c17b0 : (t522 == 0) = true := beq_iff_eq.mpr c17
              have c17b1 : (t522 != 0) = false := bne_eq_false_iff_eq.mpr c17
              clear c17
              have H' := Aside0.mk H
              clear H
              obtain ⟨Ao18, co18, eo18⟩ := Kd.S_slice HO524.out
              subst eo18
              go_wp2
              go_meet
              case rel => exact ⟨_, (((t521.length : Int) != t515)), (by first | rfl | (simp; done) | (simp [*]; done)), H', ⟨by have := HJ2.out; first | omega | exact Nat.le_refl _⟩, ⟨by (with_reducible repeat (first | apply Kd.R_alloc | apply Kd.R_drewN | apply Kd.R_drew)); exact HO520.out⟩, ⟨by (with_reducible repeat (first | apply Kd.S_alloc | apply Kd.S_drewN | apply Kd.S_drew)); exact Kd.S_mono HO524.out (fun _ hk => hk.2)⟩, ⟨by repeat (first | (with_reducible first | exact HB.out | apply below_alloc | apply pw_below_drewN | apply below_drew1) | exact HB.out)⟩⟩
            · rw [if_neg c17] at H
              exact absurd H (by simp)
          · rw [if_neg c16] at H
            exact absurd H (by simp)
        case rest =>
          clear HC13
          try clear c1
          try clear c2
          try clear p2
          try clear c5
          try clear c7
          try clear c15
          try clear c16
          try clear c16b0
          try clear c16b1
          try clear c17
          try clear c17b0
          try clear c17b1
          try clear p2
          obtain ⟨kq, x49_12, rfl, HA, HJ12, HO_6, HO_9, HB⟩ := hcut
          cases kq with
          | zero => exact absurd HA.out (by simp [clochelaw04_BlocksBack.j1])
          | succ kj12 =>
            have H := HA.out
            clear HA
            simp only [clochelaw04_BlocksBack.j1] at H
            by_cases c19 : x49_12 = true
            · subst c19
              have H1 : (none) = some r := by rw [if_pos rfl] at H; exact H
              clear H
              have H := H1
              clear H1
              exact absurd H (by simp)
            · replace c19 := Bool.eq_false_iff.mpr c19
              subst c19
              have H1 : (clochelaw04_BlocksBack.l0 kj12 l0 t515 t516 t517 t521 0 0) = some r := by rw [if_neg (show ¬ (false = true) by decide)] at H; exact H
              clear H
              have H := H1
              clear H1
              have H' := Aside0.mk H
              clear H
              go_wp2
              go_loopg [11, 12] kj12 (fun kq v11 v12 w' => ∃ (x11_3 : Int) (x12_3 : Int), v11 = .int .i64 x11_3 ∧ v12 = .int .i64 x12_3 ∧ Aside0 (clochelaw04_BlocksBack.l0 kq l0 t515 t516 t517 t521 x11_3 x12_3 = some r) ∧ Aside0 (kq ≤ kj12) ∧ Aside0 (Kd.R (Kd.int .i64) 3 w' w.heap.size (fun _ => True) v519 t516) ∧ Aside0 (Kd.S (Kd.slice 3 (Kd.int .i64)) 22 w' w.heap.size (fun k_ => some k_ ≠ (v519 : Value).ownBlock) v523 t521) ∧ Aside0 (Below w.heap.size w w'))
              case atStart => exact ⟨(0), (0), (by first | rfl | (simp; done) | (simp [*]; done)), (by first | rfl | (simp; done) | (simp [*]; done)), H', ⟨Nat.le_refl _⟩, ⟨by (with_reducible repeat (first | apply Kd.R_alloc | apply Kd.R_drewN | apply Kd.R_drew)); exact HO_6.out⟩, ⟨by (with_reducible repeat (first | apply Kd.S_alloc | apply Kd.S_drewN | apply Kd.S_drew)); exact HO_9.out⟩, ⟨by repeat (first | (with_reducible first | exact HB.out | apply below_alloc | apply pw_below_drewN | apply below_drew1) | exact HB.out)⟩⟩
              case round =>
                clear H'
                try clear c1
                try clear c2
                try clear p2
                try clear c5
                try clear c7
                try clear c15
                try clear c16
                try clear c16b0
                try clear c16b1
                try clear c17
                try clear c17b0
                try clear c17b1
                try clear c19
                try clear p2
                obtain ⟨x11_3, x12_3, rfl, rfl, HA, HK3, HO_6, HO_9, HB⟩ := hrel
                cases gk with
                | zero => exact absurd HA.out (by simp [clochelaw04_BlocksBack.l0])
                | succ k3 =>
                  have H := HA.out
                  clear HA
                  simp only [clochelaw04_BlocksBack.l0] at H
                  by_cases c20 : x12_3 < t515
                  · rw [if_pos c20] at H
                    have c20b0 : decide (x12_3 < t515) = true := decide_eq_true c20
                    clear c20
                    by_cases c21 : 0 ≤ x12_3
                    · rw [if_pos c21] at H
                      have c21b0 : decide (0 ≤ x12_3) = true := decide_eq_true c21
                      clear c21
                      by_cases c22 : x12_3 < (t521.length : Int)
                      · rw [if_pos c22] at H
                        have c22b0 : decide (x12_3 < (t521.length : Int)) = true := decide_eq_true c22
                        clear c22
                        replace H := Option.bind_eq_some_iff.mp H
                        obtain ⟨t526, A230, H⟩ := H
                        replace H : (if t526 = true then ((clocheref04_Sum.f k3 (rd_L1 t521 x12_3)).bind fun t528 => (clochelaw04_BlocksBack.l0 k3 l0 t515 t516 t517 t521 (wrap64 (x11_3 + t528)) (wrap64 (x12_3 + 1)))) else (none)) = some r := H
                        have A23 := Aside0.mk A230
                        clear A230
                        by_cases c24 : t526 = true
                        · subst c24
                          have H1 : ((clocheref04_Sum.f k3 (rd_L1 t521 x12_3)).bind fun t528 => (clochelaw04_BlocksBack.l0 k3 l0 t515 t516 t517 t521 (wrap64 (x11_3 + t528)) (wrap64 (x12_3 + 1)))) = some r := by rw [if_pos rfl] at H; exact H
                          clear H
                          have H := H1
                          clear H1
                          replace H := Option.bind_eq_some_iff.mp H
                          obtain ⟨t528, A250, H⟩ := H
                          replace H : (clochelaw04_BlocksBack.l0 k3 l0 t515 t516 t517 t521 (wrap64 (x11_3 + t528)) (wrap64 (x12_3 + 1))) = some r := H
                          have A25 := Aside0.mk A250
                          clear A250
                          have H' := Aside0.mk H
                          clear H
                          obtain ⟨Ao26, co26, eo26⟩ := Kd.S_slice HO_9.out
                          subst eo26
                          have p525 : 0 ≤ (x12_3 : Int) := of_decide_eq_true (by first | (with_reducible assumption) | assumption)
                          have q525 : x12_3 < (t521.length : Int) := of_decide_eq_true (by first | (with_reducible assumption) | assumption)
                          obtain ⟨ad525, A525_0, c525_0, e525, hx525_0, hl525_0, hi525_0⟩ := at_L1 (Kd.S_reads' HO_9.out).2.2 x12_3 p525 q525
                          cases e525
                          obtain ⟨ce525, hce525, hMe525, hcc525⟩ := Kd.S_get HO_9.out [] x12_3 p525 (by first | exact q525 | exact of_decide_eq_true (by first | (with_reducible assumption) | assumption) | (have e_ := (Kd.S_reads' HO_9.out).1; omega))
                          obtain ⟨ve525_0, rfl, ge525_0⟩ := hMe525
                          have hv525_0 := hcc525 0 _ rfl
                          rw [Nat.add_zero, show ((Kd.slice 3 (Kd.int .i64))).sz = 1 from rfl, Nat.mul_one] at hv525_0
                          replace hv525_0 := Option.some.inj (hv525_0.symm.trans hx525_0)
                          rw [hv525_0] at ge525_0
                          have HL525_0 := Aside0.mk (show Kd.R (Kd.int .i64) 3 _ _ _ _ (rd_L1 t521 x12_3) from ge525_0)
                          clear hv525_0 ge525_0
                          clear hcc525 hce525
                          have HR525_0 := Aside0.mk hi525_0
                          have HC525_0 := Aside0.mk hl525_0
                          clear hi525_0 hl525_0
                          replace p525 := eq_true p525
                          replace q525 := eq_true q525
                          go_wp2_with (first | ((with_reducible refine gate_callee (f := 25) rfl ?_); refine goesL_ (some 59) rfl rfl Try.func25 (by kernel_rfl) rfl #[.slice A525_0 (rd_L1 t521 x12_3).length c525_0] rfl (by (try simp only [List.map_toArray, List.map_cons, List.map_nil]); first | done | rfl | (simp only [List.length_drop, List.length_take]; rfl)) ?_; (with_reducible refine (clocheref04_IsShape.calls k3 _ _ (rd_L1 t521 x12_3) true _ ?side1 ?side2 A23.out).mono ?_); (case side1 => repeat (first | exact (by repeat (first | (with_reducible exact HR525_0.out) | (with_reducible refine Kd.C_alloc ?_ _) | (with_reducible refine Kd.C_drewN ?_ _) | (with_reducible refine Kd.C_drew ?_) | exact HR525_0.out)) | (with_reducible refine Kd.C_alloc ?_ _) | (with_reducible refine Kd.C_drewN ?_ _) | (with_reducible refine Kd.C_drew ?_))); (case side2 => exact HC525_0.out); rintro e w' ⟨rfl, ⟨nd, rfl⟩⟩; refine ⟨_, rfl, ?_⟩; have p527 : 0 ≤ (x12_3 : Int) := of_decide_eq_true (by first | (with_reducible assumption) | assumption); have q527 : x12_3 < (t521.length : Int) := of_decide_eq_true (by first | (with_reducible assumption) | assumption); obtain ⟨ad527, A527_0, c527_0, e527, hx527_0, hl527_0, hi527_0⟩ := at_L1 (Kd.S_reads' HO_9.out).2.2 x12_3 p527 q527; obtain rfl : ad525 = ad527 := (by injection e527); obtain ⟨ce527, hce527, hMe527, hcc527⟩ := Kd.S_get HO_9.out [] x12_3 p527 (by first | exact q527 | exact of_decide_eq_true (by first | (with_reducible assumption) | assumption) | (have e_ := (Kd.S_reads' HO_9.out).1; omega)); obtain ⟨ve527_0, rfl, ge527_0⟩ := hMe527; have hv527_0 := hcc527 0 _ rfl; rw [Nat.add_zero, show ((Kd.slice 3 (Kd.int .i64))).sz = 1 from rfl, Nat.mul_one] at hv527_0; replace hv527_0 := Option.some.inj (hv527_0.symm.trans hx527_0); rw [hv527_0] at ge527_0; have HL527_0 := Aside0.mk (show Kd.R (Kd.int .i64) 3 _ _ _ _ (rd_L1 t521 x12_3) from ge527_0); clear hv527_0 ge527_0; clear hcc527 hce527; have HR527_0 := Aside0.mk hi527_0; have HC527_0 := Aside0.mk hl527_0; clear hi527_0 hl527_0; replace p527 := eq_true p527; replace q527 := eq_true q527; have ea_ := Option.some.inj (hx525_0.symm.trans hx527_0); injection ea_ with ea_ en_ ec_; subst ea_; subst ec_; clear en_) | ((with_reducible refine gate_callee (f := 28) rfl ?_); refine goesL_ (some 66) rfl rfl Try.func28 (by kernel_rfl) rfl #[.slice A525_0 (rd_L1 t521 x12_3).length c525_0] rfl (by (try simp only [List.map_toArray, List.map_cons, List.map_nil]); first | done | rfl | (simp only [List.length_drop, List.length_take]; rfl)) ?_; (with_reducible refine (clocheref04_Sum.calls k3 _ _ (rd_L1 t521 x12_3) t528 _ ?side1 ?side2 A25.out).mono ?_); (case side1 => repeat (first | exact (by repeat (first | (with_reducible exact HR527_0.out) | (with_reducible refine Kd.C_alloc ?_ _) | (with_reducible refine Kd.C_drewN ?_ _) | (with_reducible refine Kd.C_drew ?_) | exact HR527_0.out)) | (with_reducible refine Kd.C_alloc ?_ _) | (with_reducible refine Kd.C_drewN ?_ _) | (with_reducible refine Kd.C_drew ?_))); (case side2 => exact HC527_0.out); rintro e w' ⟨rfl, ⟨nd, rfl⟩⟩; refine ⟨_, rfl, ?_⟩))
                          go_roundg k3
                          case measure => have := HJ2.out; have := HJ12.out; have := HK3.out; omega
                          case rel => exact ⟨(wrap64 (x11_3 + t528)), (wrap64 (x12_3 + 1)), (by first | rfl | (simp; done) | (simp [*]; done)), (by first | rfl | (simp; done) | (simp [*]; done)), H', ⟨by have := HJ2.out; have := HJ12.out; have := HK3.out; omega⟩, ⟨by (with_reducible repeat (first | apply Kd.R_alloc | apply Kd.R_drewN | apply Kd.R_drew)); exact HO_6.out⟩, ⟨by (with_reducible repeat (first | apply Kd.S_alloc | apply Kd.S_drewN | apply Kd.S_drew)); exact HO_9.out⟩, ⟨by repeat (first | (with_reducible first | exact HB.out | apply below_alloc | apply pw_below_drewN | apply below_drew1) | exact HB.out)⟩⟩
                        · replace c24 := Bool.eq_false_iff.mpr c24
                          subst c24
                          have H1 : (none) = some r := by rw [if_neg (show ¬ (false = true) by decide)] at H; exact H
                          clear H
                          have H := H1
                          clear H1
                          exact absurd H (by simp)
                      · rw [if_neg c22] at H
                        exact absurd H (by simp)
                    · rw [if_neg c21] at H
                      exact absurd H (by simp)
                  · rw [if_neg c20] at H
                    have c20b0 : decide (x12_3 < t515) = false := decide_eq_false c20
                    clear c20
                    have HC27 := Aside0.mk H
                    clear H
                    go_upto_region 15 with (fail)
                    go_cut [81] (fun v81 wc => ∃ (kq : Nat) (x81_26 : Bool), v81 = .bool x81_26 ∧ Aside0 (clochelaw04_BlocksBack.j3 kq l0 t516 t521 x81_26 = some r) ∧ Aside0 (kq ≤ k3) ∧ Aside0 (Kd.R (Kd.int .i64) 3 wc w.heap.size (fun _ => True) v519 t516) ∧ Aside0 (Kd.S (Kd.slice 3 (Kd.int .i64)) 22 wc w.heap.size (fun k_ => some k_ ≠ (v519 : Value).ownBlock) v523 t521) ∧ Aside0 (Below w.heap.size w wc))
                    case first =>
                      have H := HC27.out
                      clear HC27
                      replace H := Option.bind_eq_some_iff.mp H
                      obtain ⟨t529, A280, H⟩ := H
                      replace H : ((clocheref04_Sum.f k3 l0).bind fun t530 => (if (wrap64 (t529 + (wrap64 (t515 * x11_3)))) = t530 then (clochelaw04_BlocksBack.j3 k3 l0 t516 t521 (x11_3 != t517)) else (none))) = some r := H
                      have A28 := Aside0.mk A280
                      clear A280
                      replace H := Option.bind_eq_some_iff.mp H
                      obtain ⟨t530, A290, H⟩ := H
                      replace H : (if (wrap64 (t529 + (wrap64 (t515 * x11_3)))) = t530 then (clochelaw04_BlocksBack.j3 k3 l0 t516 t521 (x11_3 != t517)) else (none)) = some r := H
                      have A29 := Aside0.mk A290
                      clear A290
                      by_cases c30 : (wrap64 (t529 + (wrap64 (t515 * x11_3)))) = t530
                      · rw [if_pos c30] at H
                        have c30b0 : ((wrap64 (t529 + (wrap64 (t515 * x11_3)))) == t530) = true := beq_iff_eq.mpr c30
                        have c30b1 : ((wrap64 (t529 + (wrap64 (t515 * x11_3)))) != t530) = false := bne_eq_false_iff_eq.mpr c30
                        clear c30
                        (first | rw [c30b0] | (simp only [i64_w, i32_w]; rw [c30b0]) | skip)
                        have H' := Aside0.mk H
                        clear H
                        obtain ⟨Ao31, co31, eo31⟩ := Kd.R_slice HO_6.out
                        subst eo31
                        go_wp2_with (first | ((with_reducible refine gate_callee (f := 28) rfl ?_); refine goesL_ (some 69) rfl rfl Try.func28 (by kernel_rfl) rfl #[.slice Ao31 t516.length co31] rfl (by (try simp only [List.map_toArray, List.map_cons, List.map_nil]); first | done | rfl | (simp only [List.length_drop, List.length_take]; rfl)) ?_; (with_reducible refine (clocheref04_Sum.calls k3 _ _ t516 t529 _ ?side1 ?side2 A28.out).mono ?_); (case side1 => repeat (first | exact (Kd.R_reads' HO_6.out).2.2 | (with_reducible refine Kd.C_alloc ?_ _) | (with_reducible refine Kd.C_drewN ?_ _) | (with_reducible refine Kd.C_drew ?_))); (case side2 => exact (Kd.R_reads' HO_6.out).2.1); rintro e w' ⟨rfl, ⟨nd, rfl⟩⟩; refine ⟨_, rfl, ?_⟩) | ((with_reducible refine gate_callee (f := 28) rfl ?_); refine goesL_ (some 75) rfl rfl Try.func28 (by kernel_rfl) rfl #[.slice A0 l0.length c0] rfl (by (try simp only [List.map_toArray, List.map_cons, List.map_nil]); first | done | rfl | (simp only [List.length_drop, List.length_take]; rfl)) ?_; (with_reducible refine (clocheref04_Sum.calls k3 _ _ l0 t530 _ ?side1 ?side2 A29.out).mono ?_); (case side1 => repeat (first | exact (Kd.C_below HR0.out (by repeat (first | (with_reducible first | exact HB.out | apply below_alloc | apply pw_below_drewN | apply below_drew1) | exact HB.out))) | (with_reducible refine Kd.C_alloc ?_ _) | (with_reducible refine Kd.C_drewN ?_ _) | (with_reducible refine Kd.C_drew ?_))); (case side2 => exact HC0.out); rintro e w' ⟨rfl, ⟨nd, rfl⟩⟩; refine ⟨_, rfl, ?_⟩))
                        go_meet
                        case rel => exact ⟨_, ((x11_3 != t517)), (by first | rfl | (simp; done) | (simp [*]; done)), H', ⟨by have := HJ2.out; have := HJ12.out; have := HK3.out; first | omega | exact Nat.le_refl _⟩, ⟨by (with_reducible repeat (first | apply Kd.R_alloc | apply Kd.R_drewN | apply Kd.R_drew)); exact HO_6.out⟩, ⟨by (with_reducible repeat (first | apply Kd.S_alloc | apply Kd.S_drewN | apply Kd.S_drew)); exact HO_9.out⟩, ⟨by repeat (first | (with_reducible first | exact HB.out | apply below_alloc | apply pw_below_drewN | apply below_drew1) | exact HB.out)⟩⟩
                      · rw [if_neg c30] at H
                        exact absurd H (by simp)
                    case rest =>
                      clear HC27
                      try clear c1
                      try clear c2
                      try clear p2
                      try clear c3
                      try clear c5
                      try clear p5
                      try clear q5
                      try clear hx5
                      try clear p6
                      try clear c7
                      try clear c15
                      try clear c16
                      try clear c16b0
                      try clear c16b1
                      try clear c17
                      try clear c17b0
                      try clear c17b1
                      try clear c19
                      try clear c20
                      try clear c20b0
                      try clear c21
                      try clear c21b0
                      try clear c22
                      try clear c22b0
                      try clear c24
                      try clear c25
                      try clear c26
                      try clear c27
                      try clear c28
                      try clear c30
                      try clear c30b0
                      try clear c30b1
                      try clear hx525_0
                      try clear hx527_0
                      try clear p2
                      try clear p525
                      try clear p527
                      try clear q525
                      try clear q527
                      obtain ⟨kq, x81_26, rfl, HA, HJ26, HO_6, HO_9, HB⟩ := hcut
                      cases kq with
                      | zero => exact absurd HA.out (by simp [clochelaw04_BlocksBack.j3])
                      | succ kj26 =>
                        have H := HA.out
                        clear HA
                        simp only [clochelaw04_BlocksBack.j3] at H
                        by_cases c32 : x81_26 = true
                        · subst c32
                          have H1 : (none) = some r := by rw [if_pos rfl] at H; exact H
                          clear H
                          have H := H1
                          clear H1
                          exact absurd H (by simp)
                        · replace c32 := Bool.eq_false_iff.mpr c32
                          subst c32
                          have H1 : ((blocks_Of.f kj26 t516 t521).bind fun bt531 => (if bt531.2 = 0 then ((clochelaw04_same.f kj26 bt531.1 l0).bind fun t535 => (if t535 = true then ((clochelaw04_alive.f kj26).bind fun t536 => (some t536)) else (none))) else (none))) = some r := by rw [if_neg (show ¬ (false = true) by decide)] at H; exact H
                          clear H
                          have H := H1
                          clear H1
                          replace H := Option.bind_eq_some_iff.mp H
                          obtain ⟨⟨t531, t532⟩, A330, H⟩ := H
                          replace H : (if t532 = 0 then ((clochelaw04_same.f kj26 t531 l0).bind fun t535 => (if t535 = true then ((clochelaw04_alive.f kj26).bind fun t536 => (some t536)) else (none))) else (none)) = some r := H
                          have A33 := Aside0.mk A330
                          clear A330
                          by_cases c34 : t532 = 0
                          · rw [if_pos c34] at H
                            have c34b0 : (t532 == 0) = true := beq_iff_eq.mpr c34
                            have c34b1 : (t532 != 0) = false := bne_eq_false_iff_eq.mpr c34
                            clear c34
                            replace H := Option.bind_eq_some_iff.mp H
                            obtain ⟨t535, A350, H⟩ := H
                            replace H : (if t535 = true then ((clochelaw04_alive.f kj26).bind fun t536 => (some t536)) else (none)) = some r := H
                            have A35 := Aside0.mk A350
                            clear A350
                            by_cases c36 : t535 = true
                            · subst c36
                              have H1 : ((clochelaw04_alive.f kj26).bind fun t536 => (some t536)) = some r := by rw [if_pos rfl] at H; exact H
                              clear H
                              have H := H1
                              clear H1
                              replace H := Option.bind_eq_some_iff.mp H
                              obtain ⟨t536, A370, H⟩ := H
                              replace H : (some t536) = some r := H
                              have A37 := Aside0.mk A370
                              clear A370
                              obtain rfl := Option.some.inj H
                              obtain ⟨Ao38, co38, eo38⟩ := Kd.R_slice HO_6.out
                              subst eo38
                              obtain ⟨Ao39, co39, eo39⟩ := Kd.S_slice HO_9.out
                              subst eo39
                              go_wp2_with (first | ((with_reducible refine gate_callee (f := 20) rfl ?_); refine goesL_ (some 85) rfl rfl Try.func20 (by kernel_rfl) rfl #[.slice Ao38 t516.length co38, .slice Ao39 t521.length co39] rfl (by (try simp only [List.map_toArray, List.map_cons, List.map_nil]); first | done | rfl | (simp only [List.length_drop, List.length_take]; rfl)) ?_; (with_reducible refine (blocks_Of.calls kj26 _ _ t516 _ _ t521 t531 t532 _ ?side1 ?side2 ?side3 ?side4 A33.out).mono ?_); (case side1 => repeat (first | exact (Kd.R_reads' HO_6.out).2.2 | (with_reducible refine Kd.C_alloc ?_ _) | (with_reducible refine Kd.C_drewN ?_ _) | (with_reducible refine Kd.C_drew ?_))); (case side2 => exact (Kd.R_reads' HO_6.out).2.1); (case side3 => repeat (first | exact (Kd.S_reads' HO_9.out).2.2 | (with_reducible refine Kd.C_alloc ?_ _) | (with_reducible refine Kd.C_drewN ?_ _) | (with_reducible refine Kd.C_drew ?_))); (case side4 => exact (Kd.S_reads' HO_9.out).2.1); rintro e w40 ⟨v533, rfl, ho0, hb⟩; refine ⟨_, rfl, ?_⟩; have n0_ := Aside0.mk (Kd.R_elder' (by (with_reducible repeat (first | apply Kd.R_alloc | apply Kd.R_drewN | apply Kd.R_drew)); exact HO_6.out) (Kd.R_base ho0) hb); have n1_ := Aside0.mk (Kd.S_elder' (by (with_reducible repeat (first | apply Kd.S_alloc | apply Kd.S_drewN | apply Kd.S_drew)); exact HO_9.out) (Kd.R_base ho0) hb); have n2_ := Aside0.mk (Kd.R_lower (Kd.R_new' ho0 (Kd.R_lt (by (with_reducible repeat (first | apply Kd.R_alloc | apply Kd.R_drewN | apply Kd.R_drew)); exact HO_6.out))) (below_size (by repeat (first | (with_reducible first | exact HB.out | apply below_alloc | apply pw_below_drewN | apply below_drew1) | exact HB.out)))); have n3_ := Aside0.mk (below_step (by repeat (first | (with_reducible first | exact HB.out | apply below_alloc | apply pw_below_drewN | apply below_drew1) | exact HB.out)) hb); clear HO_6; clear HO_9; clear HB; have HO_6 := n0_; have HO_9 := n1_; have HO534 := n2_; have HB := n3_; clear n0_ n1_ n2_ n3_; (try clear hb); (try clear hb2); (try clear hk); (try clear hi); (try clear ho0); obtain ⟨Ao41, co41, eo41⟩ := Kd.R_slice HO534.out; subst eo41) | (go_at_call 22; (with_reducible refine (clochelaw04_same.calls kj26 _ _ t531 _ _ l0 true _ ?side1 ?side2 ?side3 ?side4 A35.out).mono ?_); (case side1 => repeat (first | exact (Kd.R_reads' HO534.out).2.2 | (with_reducible refine Kd.C_alloc ?_ _) | (with_reducible refine Kd.C_drewN ?_ _) | (with_reducible refine Kd.C_drew ?_))); (case side2 => exact (Kd.R_reads' HO534.out).2.1); (case side3 => repeat (first | exact (Kd.C_below HR0.out HB.out) | (with_reducible refine Kd.C_alloc ?_ _) | (with_reducible refine Kd.C_drewN ?_ _) | (with_reducible refine Kd.C_drew ?_))); (case side4 => exact HC0.out); rintro e w' ⟨rfl, ⟨nd, rfl⟩⟩) | (go_at_call 16; (with_reducible refine (clochelaw04_alive.calls kj26  t536 _ A37.out).mono ?_); rintro e w42 ⟨rfl, hb⟩; have n0_ := Aside0.mk (Kd.R_below (by (with_reducible repeat (first | apply Kd.R_alloc | apply Kd.R_drewN | apply Kd.R_drew)); exact HO_6.out) hb); have n1_ := Aside0.mk (Kd.S_below (by (with_reducible repeat (first | apply Kd.S_alloc | apply Kd.S_drewN | apply Kd.S_drew)); exact HO_9.out) hb); have n2_ := Aside0.mk (Kd.R_below (by (with_reducible repeat (first | apply Kd.R_alloc | apply Kd.R_drewN | apply Kd.R_drew)); exact HO534.out) hb); have n3_ := Aside0.mk (below_step (by repeat (first | (with_reducible first | exact HB.out | apply below_alloc | apply pw_below_drewN | apply below_drew1) | exact HB.out)) hb); clear HO_6; clear HO_9; clear HO534; clear HB; have HO_6 := n0_; have HO_9 := n1_; have HO534 := n2_; have HB := n3_; clear n0_ n1_ n2_ n3_; (try clear hb); (try clear hb2); (try clear hk); (try clear hi)))
                              go_ret
                              exact ⟨by first | rfl | (simp [errW_none, errW_some] <;> rfl) | (simp [*, errW_none, errW_some] <;> rfl), by repeat (first | (with_reducible first | exact HB.out | apply below_alloc | apply pw_below_drewN | apply below_drew1) | exact HB.out)⟩
                            · replace c36 := Bool.eq_false_iff.mpr c36
                              subst c36
                              have H1 : (none) = some r := by rw [if_neg (show ¬ (false = true) by decide)] at H; exact H
                              clear H
                              have H := H1
                              clear H1
                              exact absurd H (by simp)
                          · rw [if_neg c34] at H
                            exact absurd H (by simp)

/-- THE ONE PURE STATEMENT of clochelaw04_BlocksBack: yours. -/
def clochelaw04_BlocksBack.Pure : Prop := ∀ (l0 : List Int) (a1 : Int), l0.length ≤ maxLen → l0.length * 8 ≤ 140737488351232 → (∀ x ∈ l0, (Lit.int .i64 x).wf = true) → (Lit.int .u8 a1).wf = true → ∃ k, clochelaw04_BlocksBack.f k l0 a1 = some true
theorem clochelaw04_BlocksBack.walk (P : clochelaw04_BlocksBack.Pure) (a0 : Option Addr) (len0 cap0 : Nat) (z0 : List Int) (a1 : Int) (w : World) (w0 : (a0 = none ∧ len0 = 0 ∧ cap0 = 0 ∧ z0 = []) ∨ ∃ x, a0 = some x ∧ len0 ≤ cap0 ∧ cap0 ≤ maxLen ∧ z0.length = cap0 ∧ (∀ i, i < z0.length → w.cell? (x.add i) = some (.int .i64 (z0.getD i 0))) ∧ ∀ n ∈ z0, (Lit.int .i64 n).wf = true) (y0 : len0 * 8 ≤ 140737488351232) (w1 : (Lit.int .u8 a1).wf = true) :
    Calls Try.prog 5 #[.slice a0 len0 cap0, .int .u8 a1] w fun e w' => e = .returned (.bool true) ∧ Below w.heap.size w w' := by
  obtain ⟨l0, rfl, hr0, hm0, hw0, hc0⟩ := ReadsInt.ofRowC w0
  obtain ⟨k, h⟩ := P l0 a1 hm0 y0 hw0 w1
  refine (clochelaw04_BlocksBack.calls k _ _ l0 a1 true w (Kd.C_of_reads (d := (0 : Int)) (h1 := fun _ => rfl) hr0) hc0 h).mono ?_
  rintro e w' ⟨rfl, hd⟩
  exact ⟨rfl, hd⟩

end Go.Proofs.Ytcmphfcpiciehaa.Print
