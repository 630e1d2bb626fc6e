/- What the functions of the blocks compute, printed by this repo's hand printer. -/
import Derived.Test.YtcmphfcpiciehaaPrintx0
import Derived.Test.YtcmphfcpiciehaaPrintx1
import Derived.Test.YtcmphfcpiciehaaPrintx5
import Derived.Test.YtcmphfcpiciehaaPrintx6
import Derived.Test.YtcmphfcpiciehaaPrintx12
import Derived.Test.YtcmphfcpiciehaaPrintx13
import Derived.Test.YtcmphfcpiciehaaPrintx14
import Derived.Test.YtcmphfcpiciehaaPrintx18
import Derived.Test.YtcmphfcpiciehaaPrintx31
namespace Go.Proofs.Ytcmphfcpiciehaa.Print
open Go.RowKit Go.Proofs.YtcmphfcpiciehaaW.PrintWords Go.Proofs.YtcmphfcpiciehaaW.PrintLast Go.Proofs.YtcmphfcpiciehaaW.PrintMore
attribute [local go_sem] max2_int min2_int max_two min_two max_three min_three max_four min_four   -- for this text's walks alone
set_option linter.unusedVariables false
set_option linter.unusedSimpArgs false

/-! ### clocheref04_IsCore: function 42 -/
def clocheref04_IsCore.f (k : Nat) (l0 : List Int) (a1 : Int) : Option (Bool × Int) := (clocheref04_IsShape.f k l0).bind fun t742 => (if t742 = true then ((clocheref04_Wires.f a1).bind fun t743 => (if t743 = true then ((clocheref04_strips.f k l0 a1).bind fun t744 => (some (((t744.length : Int) == 0), 0))) else (some (false, 2)))) else (some (false, 2)))
theorem clocheref04_IsCore.mono : ∀ a0 a1 k, LeO (clocheref04_IsCore.f k a0 a1) (clocheref04_IsCore.f (k + 1) a0 a1) := by
  intro a0 a1 k
  unfold clocheref04_IsCore.f
  repeat' first
      | (with_reducible exact clocheref04_IsShape.mono _ _)
      | (with_reducible exact clocheref04_strips.mono _ _ _)
      | (with_reducible exact LeO.refl _)
      | (with_reducible exact LeO.none _)
      | (with_reducible refine LeO.ite ?_ ?_)
      | (with_reducible refine LeO.bind ?_ (fun _ => ?_))
      | exact clocheref04_IsShape.mono _ _
      | exact clocheref04_strips.mono _ _ _
      | exact LeO.none _
      | refine LeO.ite ?_ ?_
      | refine LeO.bind ?_ (fun _ => ?_)
set_option maxHeartbeats 8000000 in
set_option maxRecDepth 100000 in
theorem clocheref04_IsCore.calls (k : Nat) (A0 : Option Addr) (c0 : Nat) (l0 : List Int) (a1 : Int) (r1 : Bool) (r2 : Int) (w : World) (hr0 : Kd.C (Kd.int .i64) w A0 l0.length l0) (hc0 : l0.length ≤ c0) (h : clocheref04_IsCore.f k l0 a1 = some (r1, r2)) :
    Calls Try.prog 42 #[.slice A0 l0.length c0, .int .i64 a1] w fun e w' => e = .returned (.tuple #[.bool r1, .int .i64 r2]) ∧ Below w.heap.size w w' := by
  have HR0 := Aside0.mk hr0
  have HC0 := Aside0.mk hc0
  clear hr0 hc0
  have HB := Aside0.mk (Below.refl w.heap.size w)
  have H : ((clocheref04_IsShape.f k l0).bind fun t742 => (if t742 = true then ((clocheref04_Wires.f a1).bind fun t743 => (if t743 = true then ((clocheref04_strips.f k l0 a1).bind fun t744 => (some (((t744.length : Int) == 0), 0))) else (some (false, 2)))) else (some (false, 2)))) = some (r1, r2) := h
  clear h
  replace H := Option.bind_eq_some_iff.mp H
  obtain ⟨t742, A30, H⟩ := H
  replace H : (if t742 = true then ((clocheref04_Wires.f a1).bind fun t743 => (if t743 = true then ((clocheref04_strips.f k l0 a1).bind fun t744 => (some (((t744.length : Int) == 0), 0))) else (some (false, 2)))) else (some (false, 2))) = some (r1, r2) := H
  have A3 := Aside0.mk A30
  clear A30
  by_cases c4 : t742 = true
  · subst c4
    have H1 : ((clocheref04_Wires.f a1).bind fun t743 => (if t743 = true then ((clocheref04_strips.f k l0 a1).bind fun t744 => (some (((t744.length : Int) == 0), 0))) else (some (false, 2)))) = some (r1, r2) := by rw [if_pos rfl] at H; exact H
    clear H
    have H := H1
    clear H1
    replace H := Option.bind_eq_some_iff.mp H
    obtain ⟨t743, A50, H⟩ := H
    replace H : (if t743 = true then ((clocheref04_strips.f k l0 a1).bind fun t744 => (some (((t744.length : Int) == 0), 0))) else (some (false, 2))) = some (r1, r2) := H
    have A5 := Aside0.mk A50
    clear A50
    by_cases c6 : t743 = true
    · subst c6
      have H1 : ((clocheref04_strips.f k l0 a1).bind fun t744 => (some (((t744.length : Int) == 0), 0))) = some (r1, r2) := by rw [if_pos rfl] at H; exact H
      clear H
      have H := H1
      clear H1
      replace H := Option.bind_eq_some_iff.mp H
      obtain ⟨t744, A70, H⟩ := H
      replace H : (some (((t744.length : Int) == 0), 0)) = some (r1, r2) := H
      have A7 := Aside0.mk A70
      clear A70
      simp only [Option.some.injEq, Prod.mk.injEq] at H
      obtain ⟨rfl, rfl⟩ := H
      go_enter Try.func42, Try.ntmps42
      go_wp2_with (first | ((with_reducible refine gate_callee (f := 25) rfl ?_); refine goesL_ (some 7) rfl rfl Try.func25 (by kernel_rfl) rfl #[.slice A0 l0.length c0] rfl (by (try simp only [List.map_toArray, List.map_cons, List.map_nil]); first | done | rfl | (simp only [List.length_drop, List.length_take]; rfl)) ?_; (with_reducible refine (clocheref04_IsShape.calls k _ _ l0 true _ ?side1 ?side2 A3.out).mono ?_); (case side1 => repeat (first | exact HR0.out | (with_reducible refine Kd.C_alloc ?_ _) | (with_reducible refine Kd.C_drewN ?_ _) | (with_reducible refine Kd.C_drew ?_))); (case side2 => exact HC0.out); rintro e w' ⟨rfl, ⟨nd, rfl⟩⟩; refine ⟨_, rfl, ?_⟩) | (go_at_call 29; (with_reducible refine (clocheref04_Wires.calls a1 true _ A5.out).mono ?_); rintro e w' ⟨rfl, ⟨nd, rfl⟩⟩) | ((with_reducible refine gate_callee (f := 55) rfl ?_); refine goesL_ (some 16) rfl rfl Try.func55 (by kernel_rfl) rfl #[.slice A0 l0.length c0, .int .i64 a1] rfl (by (try simp only [List.map_toArray, List.map_cons, List.map_nil]); first | done | rfl | (simp only [List.length_drop, List.length_take]; rfl)) ?_; (with_reducible refine (clocheref04_strips.calls k _ _ l0 a1 t744 _ ?side1 ?side2 A7.out).mono ?_); (case side1 => repeat (first | exact HR0.out | (with_reducible refine Kd.C_alloc ?_ _) | (with_reducible refine Kd.C_drewN ?_ _) | (with_reducible refine Kd.C_drew ?_))); (case side2 => exact HC0.out); rintro e w8 ⟨v745, rfl, ho0, hb⟩; refine ⟨_, rfl, ?_⟩; have n0_ := Aside0.mk (Kd.S_lower ho0 (below_size (by repeat (first | (with_reducible first | exact HB.out | apply below_alloc | apply pw_below_drewN | apply below_drew1) | exact HB.out)))); have n1_ := Aside0.mk (below_step (by repeat (first | (with_reducible first | exact HB.out | apply below_alloc | apply pw_below_drewN | apply below_drew1) | exact HB.out)) hb); clear HB; have HO746 := n0_; have HB := n1_; clear n0_ n1_; (try clear hb); (try clear hb2); (try clear hk); (try clear hi); (try clear ho0); obtain ⟨Ao9, co9, eo9⟩ := Kd.S_slice HO746.out; subst eo9))
      go_ret2
      exact ⟨by first | rfl | (simp [errW_none, errW_some] <;> rfl) | (simp [*, errW_none, errW_some] <;> rfl), by repeat (first | (with_reducible first | exact HB.out | apply below_alloc | apply pw_below_drewN | apply below_drew1) | exact HB.out)⟩
    · replace c6 := Bool.eq_false_iff.mpr c6
      subst c6
      have H1 : (some (false, 2)) = some (r1, r2) := by rw [if_neg (show ¬ (false = true) by decide)] at H; exact H
      clear H
      have H := H1
      clear H1
      simp only [Option.some.injEq, Prod.mk.injEq] at H
      obtain ⟨rfl, rfl⟩ := H
      go_enter Try.func42, Try.ntmps42
      go_wp2_with (first | ((with_reducible refine gate_callee (f := 25) rfl ?_); refine goesL_ (some 7) rfl rfl Try.func25 (by kernel_rfl) rfl #[.slice A0 l0.length c0] rfl (by (try simp only [List.map_toArray, List.map_cons, List.map_nil]); first | done | rfl | (simp only [List.length_drop, List.length_take]; rfl)) ?_; (with_reducible refine (clocheref04_IsShape.calls k _ _ l0 true _ ?side1 ?side2 A3.out).mono ?_); (case side1 => repeat (first | exact HR0.out | (with_reducible refine Kd.C_alloc ?_ _) | (with_reducible refine Kd.C_drewN ?_ _) | (with_reducible refine Kd.C_drew ?_))); (case side2 => exact HC0.out); rintro e w' ⟨rfl, ⟨nd, rfl⟩⟩; refine ⟨_, rfl, ?_⟩) | (go_at_call 29; (with_reducible refine (clocheref04_Wires.calls a1 false _ A5.out).mono ?_); rintro e w' ⟨rfl, ⟨nd, rfl⟩⟩))
      go_ret2
      exact ⟨by first | rfl | (simp [errW_none, errW_some] <;> rfl) | (simp [*, errW_none, errW_some] <;> rfl), by repeat (first | (with_reducible first | exact HB.out | apply below_alloc | apply pw_below_drewN | apply below_drew1) | exact HB.out)⟩
  · replace c4 := Bool.eq_false_iff.mpr c4
    subst c4
    have H1 : (some (false, 2)) = some (r1, r2) := by rw [if_neg (show ¬ (false = true) by decide)] at H; exact H
    clear H
    have H := H1
    clear H1
    simp only [Option.some.injEq, Prod.mk.injEq] at H
    obtain ⟨rfl, rfl⟩ := H
    go_enter Try.func42, Try.ntmps42
    go_wp2_with (first | ((with_reducible refine gate_callee (f := 25) rfl ?_); refine goesL_ (some 7) rfl rfl Try.func25 (by kernel_rfl) rfl #[.slice A0 l0.length c0] rfl (by (try simp only [List.map_toArray, List.map_cons, List.map_nil]); first | done | rfl | (simp only [List.length_drop, List.length_take]; rfl)) ?_; (with_reducible refine (clocheref04_IsShape.calls k _ _ l0 false _ ?side1 ?side2 A3.out).mono ?_); (case side1 => repeat (first | exact HR0.out | (with_reducible refine Kd.C_alloc ?_ _) | (with_reducible refine Kd.C_drewN ?_ _) | (with_reducible refine Kd.C_drew ?_))); (case side2 => exact HC0.out); rintro e w' ⟨rfl, ⟨nd, rfl⟩⟩; refine ⟨_, rfl, ?_⟩))
    go_ret2
    exact ⟨by first | rfl | (simp [errW_none, errW_some] <;> rfl) | (simp [*, errW_none, errW_some] <;> rfl), by repeat (first | (with_reducible first | exact HB.out | apply below_alloc | apply pw_below_drewN | apply below_drew1) | exact HB.out)⟩

/-! ### clochelaw04_BlocksStrips: function 10 -/
mutual
def clochelaw04_BlocksStrips.j0 : Nat → List Int → Int → Bool → Option (Bool)
  | 0, _, _, _ => none
  | k + 1, x0, x1, x39 => if x39 = true then (none) else ((blocks_Core.f k x0 x1).bind fun bt758 => ((clocheref04_Core.f k x0 x1).bind fun bt763 => ((clochelaw04_same.f k bt758.1 bt763.1).bind fun t768 => (if t768 = true then (if bt758.2.1 = bt763.2.1 then (clochelaw04_BlocksStrips.j1 k x0 x1 (bt758.2.2 != bt763.2.2)) else (none)) else (none)))))
def clochelaw04_BlocksStrips.j1 : Nat → List Int → Int → Bool → Option (Bool)
  | 0, _, _, _ => none
  | k + 1, x0, x1, x67 => if x67 = true then (none) else ((blocks_IsCore.f k x0 x1).bind fun bt769 => ((clocheref04_IsCore.f k x0 x1).bind fun bt771 => (if (bt769.1 == bt771.1) = true then (if bt769.2 = bt771.2 then ((clochelaw04_alive.f k).bind fun t773 => (some t773)) else (none)) else (none))))
end
def clochelaw04_BlocksStrips.f (k : Nat) (l0 : List Int) (a1 : Int) : Option (Bool) := (clochelaw04_few.f k l0 ([] : List (List Int))).bind fun t747 => (if t747 = true then ((blocks_Strips.f k l0 a1).bind fun bt749 => ((clocheref04_Strips.f k l0 a1).bind fun bt753 => ((clochelaw04_shapes.f k bt749.1 bt753.1).bind fun t757 => (if t757 = true then (clochelaw04_BlocksStrips.j0 k l0 a1 (bt749.2 != bt753.2)) else (none))))) else ((clochelaw04_alive.f k).bind fun t748 => (some t748)))
theorem clochelaw04_BlocksStrips.mono_l : ∀ k, (∀ y0 y1 y2, LeO (clochelaw04_BlocksStrips.j0 k y0 y1 y2) (clochelaw04_BlocksStrips.j0 (k + 1) y0 y1 y2)) ∧ (∀ y0 y1 y2, LeO (clochelaw04_BlocksStrips.j1 k y0 y1 y2) (clochelaw04_BlocksStrips.j1 (k + 1) y0 y1 y2))
  | 0 => ⟨fun _ _ _ r h => by simp [clochelaw04_BlocksStrips.j0] at h, fun _ _ _ r h => by simp [clochelaw04_BlocksStrips.j1] at h⟩
  | k + 1 => by
    obtain ⟨ih0, ih1⟩ := clochelaw04_BlocksStrips.mono_l k
    refine ⟨?_, ?_⟩
    · intro y0 y1 y2
      unfold clochelaw04_BlocksStrips.j0
      repeat' first
      | (with_reducible exact ih0 _ _ _)
      | (with_reducible exact ih1 _ _ _)
      | (with_reducible exact blocks_Core.mono _ _ _)
      | (with_reducible exact blocks_IsCore.mono _ _ _)
      | (with_reducible exact blocks_Strips.mono _ _ _)
      | (with_reducible exact clochelaw04_alive.mono _)
      | (with_reducible exact clochelaw04_few.mono _ _ _)
      | (with_reducible exact clochelaw04_same.mono _ _ _)
      | (with_reducible exact clochelaw04_shapes.mono _ _ _)
      | (with_reducible exact clocheref04_Core.mono _ _ _)
      | (with_reducible exact clocheref04_IsCore.mono _ _ _)
      | (with_reducible exact clocheref04_Strips.mono _ _ _)
      | (with_reducible exact LeO.refl _)
      | (with_reducible exact LeO.none _)
      | (with_reducible refine LeO.ite ?_ ?_)
      | (with_reducible refine LeO.bind ?_ (fun _ => ?_))
      | exact ih0 _ _ _
      | exact ih1 _ _ _
      | exact blocks_Core.mono _ _ _
      | exact blocks_IsCore.mono _ _ _
      | exact blocks_Strips.mono _ _ _
      | exact clochelaw04_alive.mono _
      | exact clochelaw04_few.mono _ _ _
      | exact clochelaw04_same.mono _ _ _
      | exact clochelaw04_shapes.mono _ _ _
      | exact clocheref04_Core.mono _ _ _
      | exact clocheref04_IsCore.mono _ _ _
      | exact clocheref04_Strips.mono _ _ _
      | exact LeO.none _
      | refine LeO.ite ?_ ?_
      | refine LeO.bind ?_ (fun _ => ?_)
    · intro y0 y1 y2
      unfold clochelaw04_BlocksStrips.j1
      repeat' first
      | (with_reducible exact ih0 _ _ _)
      | (with_reducible exact ih1 _ _ _)
      | (with_reducible exact blocks_Core.mono _ _ _)
      | (with_reducible exact blocks_IsCore.mono _ _ _)
      | (with_reducible exact blocks_Strips.mono _ _ _)
      | (with_reducible exact clochelaw04_alive.mono _)
      | (with_reducible exact clochelaw04_few.mono _ _ _)
      | (with_reducible exact clochelaw04_same.mono _ _ _)
      | (with_reducible exact clochelaw04_shapes.mono _ _ _)
      | (with_reducible exact clocheref04_Core.mono _ _ _)
      | (with_reducible exact clocheref04_IsCore.mono _ _ _)
      | (with_reducible exact clocheref04_Strips.mono _ _ _)
      | (with_reducible exact LeO.refl _)
      | (with_reducible exact LeO.none _)
      | (with_reducible refine LeO.ite ?_ ?_)
      | (with_reducible refine LeO.bind ?_ (fun _ => ?_))
      | exact ih0 _ _ _
      | exact ih1 _ _ _
      | exact blocks_Core.mono _ _ _
      | exact blocks_IsCore.mono _ _ _
      | exact blocks_Strips.mono _ _ _
      | exact clochelaw04_alive.mono _
      | exact clochelaw04_few.mono _ _ _
      | exact clochelaw04_same.mono _ _ _
      | exact clochelaw04_shapes.mono _ _ _
      | exact clocheref04_Core.mono _ _ _
      | exact clocheref04_IsCore.mono _ _ _
      | exact clocheref04_Strips.mono _ _ _
      | exact LeO.none _
      | refine LeO.ite ?_ ?_
      | refine LeO.bind ?_ (fun _ => ?_)
theorem clochelaw04_BlocksStrips.mono : ∀ a0 a1 k, LeO (clochelaw04_BlocksStrips.f k a0 a1) (clochelaw04_BlocksStrips.f (k + 1) a0 a1) := by
  intro a0 a1 k
  obtain ⟨ih0, ih1⟩ := clochelaw04_BlocksStrips.mono_l k
  unfold clochelaw04_BlocksStrips.f
  repeat' first
      | (with_reducible exact ih0 _ _ _)
      | (with_reducible exact ih1 _ _ _)
      | (with_reducible exact blocks_Core.mono _ _ _)
      | (with_reducible exact blocks_IsCore.mono _ _ _)
      | (with_reducible exact blocks_Strips.mono _ _ _)
      | (with_reducible exact clochelaw04_alive.mono _)
      | (with_reducible exact clochelaw04_few.mono _ _ _)
      | (with_reducible exact clochelaw04_same.mono _ _ _)
      | (with_reducible exact clochelaw04_shapes.mono _ _ _)
      | (with_reducible exact clocheref04_Core.mono _ _ _)
      | (with_reducible exact clocheref04_IsCore.mono _ _ _)
      | (with_reducible exact clocheref04_Strips.mono _ _ _)
      | (with_reducible exact LeO.refl _)
      | (with_reducible exact LeO.none _)
      | (with_reducible refine LeO.ite ?_ ?_)
      | (with_reducible refine LeO.bind ?_ (fun _ => ?_))
      | exact ih0 _ _ _
      | exact ih1 _ _ _
      | exact blocks_Core.mono _ _ _
      | exact blocks_IsCore.mono _ _ _
      | exact blocks_Strips.mono _ _ _
      | exact clochelaw04_alive.mono _
      | exact clochelaw04_few.mono _ _ _
      | exact clochelaw04_same.mono _ _ _
      | exact clochelaw04_shapes.mono _ _ _
      | exact clocheref04_Core.mono _ _ _
      | exact clocheref04_IsCore.mono _ _ _
      | exact clocheref04_Strips.mono _ _ _
      | exact LeO.none _
      | refine LeO.ite ?_ ?_
      | refine LeO.bind ?_ (fun _ => ?_)
set_option maxHeartbeats 8000000 in
set_option maxRecDepth 100000 in
theorem clochelaw04_BlocksStrips.calls (k : Nat) (A0 : Option Addr) (c0 : Nat) (l0 : List Int) (a1 : Int) (r : Bool) (w : World) (hr0 : Kd.C (Kd.int .i64) w A0 l0.length l0) (hc0 : l0.length ≤ c0) (h : clochelaw04_BlocksStrips.f k l0 a1 = some r) :
    Calls Try.prog 10 #[.slice A0 l0.length c0, .int .i64 a1] w fun e w' => e = .returned (.bool r) ∧ Below w.heap.size w w' := by
  have HR0 := Aside0.mk hr0
  have HC0 := Aside0.mk hc0
  clear hr0 hc0
  have HB := Aside0.mk (Below.refl w.heap.size w)
  have H : ((clochelaw04_few.f k l0 ([] : List (List Int))).bind fun t747 => (if t747 = true then ((blocks_Strips.f k l0 a1).bind fun bt749 => ((clocheref04_Strips.f k l0 a1).bind fun bt753 => ((clochelaw04_shapes.f k bt749.1 bt753.1).bind fun t757 => (if t757 = true then (clochelaw04_BlocksStrips.j0 k l0 a1 (bt749.2 != bt753.2)) else (none))))) else ((clochelaw04_alive.f k).bind fun t748 => (some t748)))) = some r := h
  clear h
  replace H := Option.bind_eq_some_iff.mp H
  obtain ⟨t747, A30, H⟩ := H
  replace H : (if t747 = true then ((blocks_Strips.f k l0 a1).bind fun bt749 => ((clocheref04_Strips.f k l0 a1).bind fun bt753 => ((clochelaw04_shapes.f k bt749.1 bt753.1).bind fun t757 => (if t757 = true then (clochelaw04_BlocksStrips.j0 k l0 a1 (bt749.2 != bt753.2)) else (none))))) else ((clochelaw04_alive.f k).bind fun t748 => (some t748))) = some r := H
  have A3 := Aside0.mk A30
  clear A30
  by_cases c4 : t747 = true
  · subst c4
    have H1 : ((blocks_Strips.f k l0 a1).bind fun bt749 => ((clocheref04_Strips.f k l0 a1).bind fun bt753 => ((clochelaw04_shapes.f k bt749.1 bt753.1).bind fun t757 => (if t757 = true then (clochelaw04_BlocksStrips.j0 k l0 a1 (bt749.2 != bt753.2)) else (none))))) = some r := by rw [if_pos rfl] at H; exact H
    clear H
    have H := H1
    clear H1
    replace H := Option.bind_eq_some_iff.mp H
    obtain ⟨⟨t749, t750⟩, A50, H⟩ := H
    replace H : ((clocheref04_Strips.f k l0 a1).bind fun bt753 => ((clochelaw04_shapes.f k t749 bt753.1).bind fun t757 => (if t757 = true then (clochelaw04_BlocksStrips.j0 k l0 a1 (t750 != bt753.2)) else (none)))) = some r := H
    have A5 := Aside0.mk A50
    clear A50
    replace H := Option.bind_eq_some_iff.mp H
    obtain ⟨⟨t753, t754⟩, A60, H⟩ := H
    replace H : ((clochelaw04_shapes.f k t749 t753).bind fun t757 => (if t757 = true then (clochelaw04_BlocksStrips.j0 k l0 a1 (t750 != t754)) else (none))) = some r := H
    have A6 := Aside0.mk A60
    clear A60
    have HC7 := Aside0.mk H
    clear H
    go_enter Try.func10, Try.ntmps10
    go_upto_region 5 with (first | ((with_reducible refine gate_callee (f := 15) rfl ?_); refine goesL_ (some 16) rfl rfl Try.func15 (by kernel_rfl) rfl #[.slice A0 l0.length c0, .slice none 0 0] rfl (by (try simp only [List.map_toArray, List.map_cons, List.map_nil]); first | done | rfl | (simp only [List.length_drop, List.length_take]; rfl)) ?_; (refine (clochelaw04_few.calls k _ _ l0 _ _ ([] : List (List Int)) true _ ?side1 ?side2 ?side3 ?side4 A3.out).mono ?_); (case side1 => repeat (first | exact HR0.out | (with_reducible refine Kd.C_alloc ?_ _) | (with_reducible refine Kd.C_drewN ?_ _) | (with_reducible refine Kd.C_drew ?_))); (case side2 => exact HC0.out); (case side3 => exact Kd.C_nil _ _); (case side4 => exact Nat.le_refl _); rintro e w' ⟨rfl, ⟨nd, rfl⟩⟩; refine ⟨_, rfl, ?_⟩) | ((with_reducible refine gate_callee (f := 38) rfl ?_); refine goesL_ (some 22) rfl rfl Try.func38 (by kernel_rfl) rfl #[.slice A0 l0.length c0, .int .i64 a1] rfl (by (try simp only [List.map_toArray, List.map_cons, List.map_nil]); first | done | rfl | (simp only [List.length_drop, List.length_take]; rfl)) ?_; (with_reducible refine (blocks_Strips.calls k _ _ l0 a1 t749 t750 _ ?side1 ?side2 A5.out).mono ?_); (case side1 => repeat (first | exact HR0.out | (with_reducible refine Kd.C_alloc ?_ _) | (with_reducible refine Kd.C_drewN ?_ _) | (with_reducible refine Kd.C_drew ?_))); (case side2 => exact HC0.out); rintro e w8 ⟨v751, rfl, ho0, hb⟩; refine ⟨_, rfl, ?_⟩; have n0_ := Aside0.mk (Kd.S_lower ho0 (below_size (by repeat (first | (with_reducible first | exact HB.out | apply below_alloc | apply pw_below_drewN | apply below_drew1) | exact HB.out)))); have n1_ := Aside0.mk (below_step (by repeat (first | (with_reducible first | exact HB.out | apply below_alloc | apply pw_below_drewN | apply below_drew1) | exact HB.out)) hb); clear HB; have HO752 := n0_; have HB := n1_; clear n0_ n1_; (try clear hb); (try clear hb2); (try clear hk); (try clear hi); (try clear ho0)) | ((with_reducible refine gate_callee (f := 39) rfl ?_); refine goesL_ (some 28) rfl rfl Try.func39 (by kernel_rfl) rfl #[.slice A0 l0.length c0, .int .i64 a1] rfl (by (try simp only [List.map_toArray, List.map_cons, List.map_nil]); first | done | rfl | (simp only [List.length_drop, List.length_take]; rfl)) ?_; (with_reducible refine (clocheref04_Strips.calls k _ _ l0 a1 t753 t754 _ ?side1 ?side2 A6.out).mono ?_); (case side1 => repeat (first | exact (Kd.C_below HR0.out HB.out) | (with_reducible refine Kd.C_alloc ?_ _) | (with_reducible refine Kd.C_drewN ?_ _) | (with_reducible refine Kd.C_drew ?_))); (case side2 => exact HC0.out); rintro e w9 ⟨v755, rfl, ho0, hb⟩; refine ⟨_, rfl, ?_⟩; have n0_ := Aside0.mk (Kd.S_elder' (by (with_reducible repeat (first | apply Kd.S_alloc | apply Kd.S_drewN | apply Kd.S_drew)); exact HO752.out) (Kd.S_base ho0) hb); have n1_ := Aside0.mk (Kd.S_lower (Kd.S_new' ho0 (Kd.S_lt (by (with_reducible repeat (first | apply Kd.S_alloc | apply Kd.S_drewN | apply Kd.S_drew)); exact HO752.out))) (below_size (by repeat (first | (with_reducible first | exact HB.out | apply below_alloc | apply pw_below_drewN | apply below_drew1) | exact HB.out)))); have n2_ := Aside0.mk (below_step (by repeat (first | (with_reducible first | exact HB.out | apply below_alloc | apply pw_below_drewN | apply below_drew1) | exact HB.out)) hb); clear HO752; clear HB; have HO752 := n0_; have HO756 := n1_; have HB := n2_; clear n0_ n1_ n2_; (try clear hb); (try clear hb2); (try clear hk); (try clear hi); (try clear ho0)))
    (try simp only [Act.put, List.setIfInBounds_toArray, List.set_cons_zero, List.set_cons_succ])
    go_cut [39] (fun v39 wc => ∃ (kq : Nat) (x39_6 : Bool), v39 = .bool x39_6 ∧ Aside0 (clochelaw04_BlocksStrips.j0 kq l0 a1 x39_6 = some r) ∧ Aside0 (kq ≤ k) ∧ Aside0 (Below w.heap.size w wc))
    case first =>
      have H := HC7.out
      clear HC7
      replace H := Option.bind_eq_some_iff.mp H
      obtain ⟨t757, A100, H⟩ := H
      replace H : (if t757 = true then (clochelaw04_BlocksStrips.j0 k l0 a1 (t750 != t754)) else (none)) = some r := H
      have A10 := Aside0.mk A100
      clear A100
      by_cases c11 : t757 = true
      · subst c11
        have H1 : (clochelaw04_BlocksStrips.j0 k l0 a1 (t750 != t754)) = some r := by rw [if_pos rfl] at H; exact H
        clear H
        have H := H1
        clear H1
        have H' := Aside0.mk H
        clear H
        obtain ⟨Ao12, co12, eo12⟩ := Kd.S_slice HO752.out
        subst eo12
        obtain ⟨Ao13, co13, eo13⟩ := Kd.S_slice HO756.out
        subst eo13
        go_wp2_with (first | ((with_reducible refine gate_callee (f := 19) rfl ?_); refine goesL_ (some 33) rfl rfl Try.func19 (by kernel_rfl) rfl #[.slice Ao12 t749.length co12, .slice Ao13 t753.length co13] rfl (by (try simp only [List.map_toArray, List.map_cons, List.map_nil]); first | done | rfl | (simp only [List.length_drop, List.length_take]; rfl)) ?_; (with_reducible refine (clochelaw04_shapes.calls k _ _ t749 _ _ t753 true _ ?side1 ?side2 ?side3 ?side4 A10.out).mono ?_); (case side1 => repeat (first | exact (Kd.S_reads' HO752.out).2.2 | (with_reducible refine Kd.C_alloc ?_ _) | (with_reducible refine Kd.C_drewN ?_ _) | (with_reducible refine Kd.C_drew ?_))); (case side2 => exact (Kd.S_reads' HO752.out).2.1); (case side3 => repeat (first | exact (Kd.S_reads' HO756.out).2.2 | (with_reducible refine Kd.C_alloc ?_ _) | (with_reducible refine Kd.C_drewN ?_ _) | (with_reducible refine Kd.C_drew ?_))); (case side4 => exact (Kd.S_reads' HO756.out).2.1); rintro e w' ⟨rfl, ⟨nd, rfl⟩⟩; refine ⟨_, rfl, ?_⟩))
        go_meet
        case rel => exact ⟨_, ((t750 != t754)), (by first | rfl | (simp; done) | (simp [*]; done)), H', ⟨by first | omega | exact Nat.le_refl _⟩, ⟨by repeat (first | (with_reducible first | exact HB.out | apply below_alloc | apply pw_below_drewN | apply below_drew1) | exact HB.out)⟩⟩
      · replace c11 := Bool.eq_false_iff.mpr c11
        subst c11
        have H1 : (none) = some r := by rw [if_neg (show ¬ (false = true) by decide)] at H; exact H
        clear H
        have H := H1
        clear H1
        exact absurd H (by simp)
    case rest =>
      clear HC7
      try clear c1
      try clear p2
      try clear c3
      try clear c4
      try clear c10
      try clear c11
      obtain ⟨kq, x39_6, rfl, HA, HJ6, HB⟩ := hcut
      cases kq with
      | zero => exact absurd HA.out (by simp [clochelaw04_BlocksStrips.j0])
      | succ kj6 =>
        have H := HA.out
        clear HA
        simp only [clochelaw04_BlocksStrips.j0] at H
        by_cases c14 : x39_6 = true
        · subst c14
          have H1 : (none) = some r := by rw [if_pos rfl] at H; exact H
          clear H
          have H := H1
          clear H1
          exact absurd H (by simp)
        · replace c14 := Bool.eq_false_iff.mpr c14
          subst c14
          have H1 : ((blocks_Core.f kj6 l0 a1).bind fun bt758 => ((clocheref04_Core.f kj6 l0 a1).bind fun bt763 => ((clochelaw04_same.f kj6 bt758.1 bt763.1).bind fun t768 => (if t768 = true then (if bt758.2.1 = bt763.2.1 then (clochelaw04_BlocksStrips.j1 kj6 l0 a1 (bt758.2.2 != bt763.2.2)) else (none)) else (none))))) = some r := by rw [if_neg (show ¬ (false = true) by decide)] at H; exact H
          clear H
          have H := H1
          clear H1
          replace H := Option.bind_eq_some_iff.mp H
          obtain ⟨⟨t758, t759, t760⟩, A150, H⟩ := H
          replace H : ((clocheref04_Core.f kj6 l0 a1).bind fun bt763 => ((clochelaw04_same.f kj6 t758 bt763.1).bind fun t768 => (if t768 = true then (if t759 = bt763.2.1 then (clochelaw04_BlocksStrips.j1 kj6 l0 a1 (t760 != bt763.2.2)) else (none)) else (none)))) = some r := H
          have A15 := Aside0.mk A150
          clear A150
          replace H := Option.bind_eq_some_iff.mp H
          obtain ⟨⟨t763, t764, t765⟩, A160, H⟩ := H
          replace H : ((clochelaw04_same.f kj6 t758 t763).bind fun t768 => (if t768 = true then (if t759 = t764 then (clochelaw04_BlocksStrips.j1 kj6 l0 a1 (t760 != t765)) else (none)) else (none))) = some r := H
          have A16 := Aside0.mk A160
          clear A160
          have HC17 := Aside0.mk H
          clear H
          go_upto_region 9 with (first | ((with_reducible refine gate_callee (f := 27) rfl ?_); refine goesL_ (some 43) rfl rfl Try.func27 (by kernel_rfl) rfl #[.slice A0 l0.length c0, .int .i64 a1] rfl (by (try simp only [List.map_toArray, List.map_cons, List.map_nil]); first | done | rfl | (simp only [List.length_drop, List.length_take]; rfl)) ?_; (with_reducible refine (blocks_Core.calls kj6 _ _ l0 a1 t758 t759 t760 _ ?side1 ?side2 A15.out).mono ?_); (case side1 => repeat (first | exact (Kd.C_below HR0.out HB.out) | (with_reducible refine Kd.C_alloc ?_ _) | (with_reducible refine Kd.C_drewN ?_ _) | (with_reducible refine Kd.C_drew ?_))); (case side2 => exact HC0.out); rintro e w18 ⟨v761, rfl, ho0, hb⟩; refine ⟨_, rfl, ?_⟩; have n0_ := Aside0.mk (Kd.R_lower ho0 (below_size (by repeat (first | (with_reducible first | exact HB.out | apply below_alloc | apply pw_below_drewN | apply below_drew1) | exact HB.out)))); have n1_ := Aside0.mk (below_step (by repeat (first | (with_reducible first | exact HB.out | apply below_alloc | apply pw_below_drewN | apply below_drew1) | exact HB.out)) hb); clear HB; have HO762 := n0_; have HB := n1_; clear n0_ n1_; (try clear hb); (try clear hb2); (try clear hk); (try clear hi); (try clear ho0)) | ((with_reducible refine gate_callee (f := 40) rfl ?_); refine goesL_ (some 50) rfl rfl Try.func40 (by kernel_rfl) rfl #[.slice A0 l0.length c0, .int .i64 a1] rfl (by (try simp only [List.map_toArray, List.map_cons, List.map_nil]); first | done | rfl | (simp only [List.length_drop, List.length_take]; rfl)) ?_; (with_reducible refine (clocheref04_Core.calls kj6 _ _ l0 a1 t763 t764 t765 _ ?side1 ?side2 A16.out).mono ?_); (case side1 => repeat (first | exact (Kd.C_below HR0.out HB.out) | (with_reducible refine Kd.C_alloc ?_ _) | (with_reducible refine Kd.C_drewN ?_ _) | (with_reducible refine Kd.C_drew ?_))); (case side2 => exact HC0.out); rintro e w19 ⟨v766, rfl, ho0, hb⟩; refine ⟨_, rfl, ?_⟩; have n0_ := Aside0.mk (Kd.R_elder' (by (with_reducible repeat (first | apply Kd.R_alloc | apply Kd.R_drewN | apply Kd.R_drew)); exact HO762.out) (Kd.R_base ho0) hb); have n1_ := Aside0.mk (Kd.R_lower (Kd.R_new' ho0 (Kd.R_lt (by (with_reducible repeat (first | apply Kd.R_alloc | apply Kd.R_drewN | apply Kd.R_drew)); exact HO762.out))) (below_size (by repeat (first | (with_reducible first | exact HB.out | apply below_alloc | apply pw_below_drewN | apply below_drew1) | exact HB.out)))); have n2_ := Aside0.mk (below_step (by repeat (first | (with_reducible first | exact HB.out | apply below_alloc | apply pw_below_drewN | apply below_drew1) | exact HB.out)) hb); clear HO762; clear HB; have HO762 := n0_; have HO767 := n1_; have HB := n2_; clear n0_ n1_ n2_; (try clear hb); (try clear hb2); (try clear hk); (try clear hi); (try clear ho0)))
          (try simp only [Act.put, List.setIfInBounds_toArray, List.set_cons_zero, List.set_cons_succ])
          go_cut [67] (fun v67 wc => ∃ (kq : Nat) (x67_16 : Bool), v67 = .bool x67_16 ∧ Aside0 (clochelaw04_BlocksStrips.j1 kq l0 a1 x67_16 = some r) ∧ Aside0 (kq ≤ kj6) ∧ Aside0 (Below w.heap.size w wc))
          case first =>
            have H := HC17.out
            clear HC17
            replace H := Option.bind_eq_some_iff.mp H
            obtain ⟨t768, A200, H⟩ := H
            replace H : (if t768 = true then (if t759 = t764 then (clochelaw04_BlocksStrips.j1 kj6 l0 a1 (t760 != t765)) else (none)) else (none)) = some r := H
            have A20 := Aside0.mk A200
            clear A200
            by_cases c21 : t768 = true
            · subst c21
              have H1 : (if t759 = t764 then (clochelaw04_BlocksStrips.j1 kj6 l0 a1 (t760 != t765)) else (none)) = some r := by rw [if_pos rfl] at H; exact H
              clear H
              have H := H1
              clear H1
              by_cases c22 : t759 = t764
              · rw [if_pos c22] at H
                have c22b0 : (t759 == t764) = true := beq_iff_eq.mpr c22
                have c22b1 : (t759 != t764) = false := bne_eq_false_iff_eq.mpr c22
                clear c22
                (first | rw [c22b0] | (simp only [i64_w, i32_w]; rw [c22b0]) | skip)
                have H' := Aside0.mk H
                clear H
                obtain ⟨Ao23, co23, eo23⟩ := Kd.R_slice HO762.out
                subst eo23
                obtain ⟨Ao24, co24, eo24⟩ := Kd.R_slice HO767.out
                subst eo24
                go_wp2_with (first | ((with_reducible refine gate_callee (f := 22) rfl ?_); refine goesL_ (some 56) rfl rfl Try.func22 (by kernel_rfl) rfl #[.slice Ao23 t758.length co23, .slice Ao24 t763.length co24] rfl (by (try simp only [List.map_toArray, List.map_cons, List.map_nil]); first | done | rfl | (simp only [List.length_drop, List.length_take]; rfl)) ?_; (with_reducible refine (clochelaw04_same.calls kj6 _ _ t758 _ _ t763 true _ ?side1 ?side2 ?side3 ?side4 A20.out).mono ?_); (case side1 => repeat (first | exact (Kd.R_reads' HO762.out).2.2 | (with_reducible refine Kd.C_alloc ?_ _) | (with_reducible refine Kd.C_drewN ?_ _) | (with_reducible refine Kd.C_drew ?_))); (case side2 => exact (Kd.R_reads' HO762.out).2.1); (case side3 => repeat (first | exact (Kd.R_reads' HO767.out).2.2 | (with_reducible refine Kd.C_alloc ?_ _) | (with_reducible refine Kd.C_drewN ?_ _) | (with_reducible refine Kd.C_drew ?_))); (case side4 => exact (Kd.R_reads' HO767.out).2.1); rintro e w' ⟨rfl, ⟨nd, rfl⟩⟩; refine ⟨_, rfl, ?_⟩))
                go_meet
                case rel => exact ⟨_, ((t760 != t765)), (by first | rfl | (simp; done) | (simp [*]; done)), H', ⟨by have := HJ6.out; first | omega | exact Nat.le_refl _⟩, ⟨by repeat (first | (with_reducible first | exact HB.out | apply below_alloc | apply pw_below_drewN | apply below_drew1) | exact HB.out)⟩⟩
              · rw [if_neg c22] at H
                exact absurd H (by simp)
            · replace c21 := Bool.eq_false_iff.mpr c21
              subst c21
              have H1 : (none) = some r := by rw [if_neg (show ¬ (false = true) by decide)] at H; exact H
              clear H
              have H := H1
              clear H1
              exact absurd H (by simp)
          case rest =>
            clear HC17
            try clear c1
            try clear c2
            try clear p2
            try clear c3
            try clear c4
            try clear c10
            try clear c11
            try clear c14
            try clear c15
            try clear c19
            try clear c21
            try clear c22
            try clear c22b0
            try clear c22b1
            try clear p2
            obtain ⟨kq, x67_16, rfl, HA, HJ16, HB⟩ := hcut
            cases kq with
            | zero => exact absurd HA.out (by simp [clochelaw04_BlocksStrips.j1])
            | succ kj16 =>
              have H := HA.out
              clear HA
              simp only [clochelaw04_BlocksStrips.j1] at H
              by_cases c25 : x67_16 = true
              · subst c25
                have H1 : (none) = some r := by rw [if_pos rfl] at H; exact H
                clear H
                have H := H1
                clear H1
                exact absurd H (by simp)
              · replace c25 := Bool.eq_false_iff.mpr c25
                subst c25
                have H1 : ((blocks_IsCore.f kj16 l0 a1).bind fun bt769 => ((clocheref04_IsCore.f kj16 l0 a1).bind fun bt771 => (if (bt769.1 == bt771.1) = true then (if bt769.2 = bt771.2 then ((clochelaw04_alive.f kj16).bind fun t773 => (some t773)) else (none)) else (none)))) = some r := by rw [if_neg (show ¬ (false = true) by decide)] at H; exact H
                clear H
                have H := H1
                clear H1
                replace H := Option.bind_eq_some_iff.mp H
                obtain ⟨⟨t769, t770⟩, A260, H⟩ := H
                replace H : ((clocheref04_IsCore.f kj16 l0 a1).bind fun bt771 => (if (t769 == bt771.1) = true then (if t770 = bt771.2 then ((clochelaw04_alive.f kj16).bind fun t773 => (some t773)) else (none)) else (none))) = some r := H
                have A26 := Aside0.mk A260
                clear A260
                replace H := Option.bind_eq_some_iff.mp H
                obtain ⟨⟨t771, t772⟩, A270, H⟩ := H
                replace H : (if (t769 == t771) = true then (if t770 = t772 then ((clochelaw04_alive.f kj16).bind fun t773 => (some t773)) else (none)) else (none)) = some r := H
                have A27 := Aside0.mk A270
                clear A270
                by_cases c28 : (t769 == t771) = true
                · rw [if_pos c28] at H
                  have c28b0 : (t769 == t771) = true := c28
                  (try (have c28b1 : decide (t769 = t771) = true := by simpa using c28))
                  (try (have c28b2 : (t769 == t771) = true := by simpa using c28))
                  clear c28
                  by_cases c29 : t770 = t772
                  · rw [if_pos c29] at H
                    have c29b0 : (t770 == t772) = true := beq_iff_eq.mpr c29
                    have c29b1 : (t770 != t772) = false := bne_eq_false_iff_eq.mpr c29
                    clear c29
                    replace H := Option.bind_eq_some_iff.mp H
                    obtain ⟨t773, A300, H⟩ := H
                    replace H : (some t773) = some r := H
                    have A30 := Aside0.mk A300
                    clear A300
                    obtain rfl := Option.some.inj H
                    go_wp2_with (first | ((with_reducible refine gate_callee (f := 41) rfl ?_); refine goesL_ (some 71) rfl rfl Try.func41 (by kernel_rfl) rfl #[.slice A0 l0.length c0, .int .i64 a1] rfl (by (try simp only [List.map_toArray, List.map_cons, List.map_nil]); first | done | rfl | (simp only [List.length_drop, List.length_take]; rfl)) ?_; (with_reducible refine (blocks_IsCore.calls kj16 _ _ l0 a1 t769 t770 _ ?side1 ?side2 A26.out).mono ?_); (case side1 => repeat (first | exact (Kd.C_below HR0.out HB.out) | (with_reducible refine Kd.C_alloc ?_ _) | (with_reducible refine Kd.C_drewN ?_ _) | (with_reducible refine Kd.C_drew ?_))); (case side2 => exact HC0.out); rintro e w31 ⟨rfl, hb⟩; refine ⟨_, rfl, ?_⟩; have n0_ := Aside0.mk (below_step (by repeat (first | (with_reducible first | exact HB.out | apply below_alloc | apply pw_below_drewN | apply below_drew1) | exact HB.out)) hb); clear HB; have HB := n0_; clear n0_; (try clear hb); (try clear hb2); (try clear hk); (try clear hi)) | ((with_reducible refine gate_callee (f := 42) rfl ?_); refine goesL_ (some 77) rfl rfl Try.func42 (by kernel_rfl) rfl #[.slice A0 l0.length c0, .int .i64 a1] rfl (by (try simp only [List.map_toArray, List.map_cons, List.map_nil]); first | done | rfl | (simp only [List.length_drop, List.length_take]; rfl)) ?_; (with_reducible refine (clocheref04_IsCore.calls kj16 _ _ l0 a1 t771 t772 _ ?side1 ?side2 A27.out).mono ?_); (case side1 => repeat (first | exact (Kd.C_below HR0.out HB.out) | (with_reducible refine Kd.C_alloc ?_ _) | (with_reducible refine Kd.C_drewN ?_ _) | (with_reducible refine Kd.C_drew ?_))); (case side2 => exact HC0.out); rintro e w32 ⟨rfl, hb⟩; refine ⟨_, rfl, ?_⟩; have n0_ := Aside0.mk (below_step (by repeat (first | (with_reducible first | exact HB.out | apply below_alloc | apply pw_below_drewN | apply below_drew1) | exact HB.out)) hb); clear HB; have HB := n0_; clear n0_; (try clear hb); (try clear hb2); (try clear hk); (try clear hi)) | (go_at_call 16; (with_reducible refine (clochelaw04_alive.calls kj16  t773 _ A30.out).mono ?_); rintro e w33 ⟨rfl, hb⟩; have n0_ := Aside0.mk (below_step (by repeat (first | (with_reducible first | exact HB.out | apply below_alloc | apply pw_below_drewN | apply below_drew1) | exact HB.out)) hb); clear HB; have HB := n0_; clear n0_; (try clear hb); (try clear hb2); (try clear hk); (try clear hi)))
                    go_ret
                    exact ⟨by first | rfl | (simp [errW_none, errW_some] <;> rfl) | (simp [*, errW_none, errW_some] <;> rfl), by repeat (first | (with_reducible first | exact HB.out | apply below_alloc | apply pw_below_drewN | apply below_drew1) | exact HB.out)⟩
                  · rw [if_neg c29] at H
                    exact absurd H (by simp)
                · rw [if_neg c28] at H
                  exact absurd H (by simp)
  · replace c4 := Bool.eq_false_iff.mpr c4
    subst c4
    have H1 : ((clochelaw04_alive.f k).bind fun t748 => (some t748)) = some r := by rw [if_neg (show ¬ (false = true) by decide)] at H; exact H
    clear H
    have H := H1
    clear H1
    replace H := Option.bind_eq_some_iff.mp H
    obtain ⟨t748, A340, H⟩ := H
    replace H : (some t748) = some r := H
    have A34 := Aside0.mk A340
    clear A340
    obtain rfl := Option.some.inj H
    go_enter Try.func10, Try.ntmps10
    go_wp2_with (first | ((with_reducible refine gate_callee (f := 15) rfl ?_); refine goesL_ (some 16) rfl rfl Try.func15 (by kernel_rfl) rfl #[.slice A0 l0.length c0, .slice none 0 0] rfl (by (try simp only [List.map_toArray, List.map_cons, List.map_nil]); first | done | rfl | (simp only [List.length_drop, List.length_take]; rfl)) ?_; (refine (clochelaw04_few.calls k _ _ l0 _ _ ([] : List (List Int)) false _ ?side1 ?side2 ?side3 ?side4 A3.out).mono ?_); (case side1 => repeat (first | exact HR0.out | (with_reducible refine Kd.C_alloc ?_ _) | (with_reducible refine Kd.C_drewN ?_ _) | (with_reducible refine Kd.C_drew ?_))); (case side2 => exact HC0.out); (case side3 => exact Kd.C_nil _ _); (case side4 => exact Nat.le_refl _); rintro e w' ⟨rfl, ⟨nd, rfl⟩⟩; refine ⟨_, rfl, ?_⟩) | ((with_reducible refine gate_callee (f := 16) rfl ?_); refine goesL_ (some 18) rfl rfl Try.func16 (by kernel_rfl) rfl #[] rfl (by (try simp only [List.map_toArray, List.map_cons, List.map_nil]); first | done | rfl | (simp only [List.length_drop, List.length_take]; rfl)) ?_; (with_reducible refine (clochelaw04_alive.calls k  t748 _ A34.out).mono ?_); rintro e w35 ⟨rfl, hb⟩; refine ⟨_, rfl, ?_⟩; have n0_ := Aside0.mk (below_step (by repeat (first | (with_reducible first | exact HB.out | apply below_alloc | apply pw_below_drewN | apply below_drew1) | exact HB.out)) hb); clear HB; have HB := n0_; clear n0_; (try clear hb); (try clear hb2); (try clear hk); (try clear hi)))
    go_ret
    exact ⟨by first | rfl | (simp [errW_none, errW_some] <;> rfl) | (simp [*, errW_none, errW_some] <;> rfl), by repeat (first | (with_reducible first | exact HB.out | apply below_alloc | apply pw_below_drewN | apply below_drew1) | exact HB.out)⟩

/-- THE ONE PURE STATEMENT of clochelaw04_BlocksStrips: yours. -/
def clochelaw04_BlocksStrips.Pure : Prop := ∀ (l0 : List Int) (a1 : Int), l0.length ≤ maxLen → l0.length * 8 ≤ 140737488351232 → (∀ x ∈ l0, (Lit.int .i64 x).wf = true) → (Lit.int .i64 a1).wf = true → ∃ k, clochelaw04_BlocksStrips.f k l0 a1 = some true
theorem clochelaw04_BlocksStrips.walk (P : clochelaw04_BlocksStrips.Pure) (a0 : Option Addr) (len0 cap0 : Nat) (z0 : List Int) (a1 : Int) (w : World) (w0 : (a0 = none ∧ len0 = 0 ∧ cap0 = 0 ∧ z0 = []) ∨ ∃ x, a0 = some x ∧ len0 ≤ cap0 ∧ cap0 ≤ maxLen ∧ z0.length = cap0 ∧ (∀ i, i < z0.length → w.cell? (x.add i) = some (.int .i64 (z0.getD i 0))) ∧ ∀ n ∈ z0, (Lit.int .i64 n).wf = true) (y0 : len0 * 8 ≤ 140737488351232) (w1 : (Lit.int .i64 a1).wf = true) :
    Calls Try.prog 10 #[.slice a0 len0 cap0, .int .i64 a1] w fun e w' => e = .returned (.bool true) ∧ Below w.heap.size w w' := by
  obtain ⟨l0, rfl, hr0, hm0, hw0, hc0⟩ := ReadsInt.ofRowC w0
  obtain ⟨k, h⟩ := P l0 a1 hm0 y0 hw0 w1
  refine (clochelaw04_BlocksStrips.calls k _ _ l0 a1 true w (Kd.C_of_reads (d := (0 : Int)) (h1 := fun _ => rfl) hr0) hc0 h).mono ?_
  rintro e w' ⟨rfl, hd⟩
  exact ⟨rfl, hd⟩

end Go.Proofs.Ytcmphfcpiciehaa.Print
