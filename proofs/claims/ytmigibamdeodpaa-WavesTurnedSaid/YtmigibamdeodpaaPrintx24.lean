/- What the functions of the waves compute, printed by this repo's hand printer. -/
import Derived.Test.YtmigibamdeodpaaPrintx0
import Derived.Test.YtmigibamdeodpaaPrintx2
import Derived.Test.YtmigibamdeodpaaPrintx9
import Derived.Test.YtmigibamdeodpaaPrintx10
import Derived.Test.YtmigibamdeodpaaPrintx22
import Derived.Test.YtmigibamdeodpaaPrintx23
namespace Go.Proofs.Ytmigibamdeodpaa.Print
open Go.RowKit Go.Proofs.YtmigibamdeodpaaW.PrintWords Go.Proofs.YtmigibamdeodpaaW.PrintLast Go.Proofs.YtmigibamdeodpaaW.PrintMore
attribute [local go_sem] max2_int min2_int max_two min_two max_three min_three max_four min_four   -- for this text's walks alone
set_option linter.unusedVariables false
set_option linter.unusedSimpArgs false

/-! ### clochelaw05_WavesTurned: function 10 -/
mutual
def clochelaw05_WavesTurned.j0 : Nat → List Int → Bool → Option (Bool)
  | 0, _, _ => none
  | k + 1, x0, x24 => if x24 = true then ((clochelaw05_alive.f k).bind fun t417 => (some t417)) else ((waves_IsWave.f k x0).bind fun bt418 => ((waves_Turned.f k x0).bind fun bt420 => ((waves_IsWave.f k bt420.1).bind fun bt424 => ((waves_Turned.f k bt420.1).bind fun bt426 => ((waves_Turns.f k x0).bind fun bt430 => (if bt418.2 = 0 then (if bt420.2 = 0 then (if bt424.2 = 0 then (if bt426.2 = 0 then (if bt430.2 = 0 then ((clochelaw05_same.f k bt426.1 x0).bind fun t432 => (if t432 = true then (if (x0.length : Int) ≥ 2 then (if bt418.1 = true then (clochelaw05_WavesTurned.j1 k (x0.length : Int) bt418.1 bt420.1 (true != (bt430.1 == (wrap64 ((x0.length : Int) - 2))))) else (clochelaw05_WavesTurned.j1 k (x0.length : Int) bt418.1 bt420.1 (bt424.1 != (bt430.1 == (wrap64 ((x0.length : Int) - 2)))))) else (clochelaw05_WavesTurned.j1 k (x0.length : Int) bt418.1 bt420.1 false)) else (clochelaw05_WavesTurned.j1 k (x0.length : Int) bt418.1 bt420.1 true))) else (clochelaw05_WavesTurned.j1 k (x0.length : Int) bt418.1 bt420.1 true)) else (clochelaw05_WavesTurned.j1 k (x0.length : Int) bt418.1 bt420.1 true)) else (clochelaw05_WavesTurned.j1 k (x0.length : Int) bt418.1 bt420.1 true)) else (clochelaw05_WavesTurned.j1 k (x0.length : Int) bt418.1 bt420.1 true)) else (clochelaw05_WavesTurned.j1 k (x0.length : Int) bt418.1 bt420.1 true)))))))
def clochelaw05_WavesTurned.j1 : Nat → Int → Bool → List Int → Bool → Option (Bool)
  | 0, _, _, _, _ => none
  | k + 1, x3, x4, x6, x91 => if x91 = true then (some false) else (if x4 = true then (clochelaw05_WavesTurned.j2 k x6 ((Int.tmod x3 2) == 1)) else (clochelaw05_WavesTurned.j2 k x6 true))
def clochelaw05_WavesTurned.j2 : Nat → List Int → Bool → Option (Bool)
  | 0, _, _ => none
  | k + 1, x6, x98 => if x98 = true then ((clochelaw05_alive.f k).bind fun t433 => (some t433)) else (clochelaw05_WavesTurned.l0 k x6 ([] : List Int) (wrap64 ((x6.length : Int) - 1)))
def clochelaw05_WavesTurned.l0 : Nat → List Int → List Int → Int → Option (Bool)
  | 0, _, _, _ => none
  | k + 1, x6, x14, x15 => if x15 ≥ 0 then (if 0 ≤ x15 then (if x15 < (x6.length : Int) then (if x14.length < 17592186044416 then (clochelaw05_WavesTurned.l0 k x6 (x14 ++ [rd x6 x15]) (wrap64 (x15 - 1))) else (none)) else (none)) else (none)) else ((waves_IsWave.f k x14).bind fun bt438 => (if bt438.2 = 0 then (if bt438.1 = true then ((clochelaw05_alive.f k).bind fun t440 => (some t440)) else (some false)) else (some false)))
end
def clochelaw05_WavesTurned.f (k : Nat) (l0 : List Int) : Option (Bool) := if (l0.length : Int) > 60 then (clochelaw05_WavesTurned.j0 k l0 true) else ((clocheref05_Row.f k l0).bind fun t416 => (clochelaw05_WavesTurned.j0 k l0 (t416 != 0)))
theorem clochelaw05_WavesTurned.mono_l : ∀ k, (∀ y0 y1, LeO (clochelaw05_WavesTurned.j0 k y0 y1) (clochelaw05_WavesTurned.j0 (k + 1) y0 y1)) ∧ (∀ y0 y1 y2 y3, LeO (clochelaw05_WavesTurned.j1 k y0 y1 y2 y3) (clochelaw05_WavesTurned.j1 (k + 1) y0 y1 y2 y3)) ∧ (∀ y0 y1, LeO (clochelaw05_WavesTurned.j2 k y0 y1) (clochelaw05_WavesTurned.j2 (k + 1) y0 y1)) ∧ (∀ y0 y1 y2, LeO (clochelaw05_WavesTurned.l0 k y0 y1 y2) (clochelaw05_WavesTurned.l0 (k + 1) y0 y1 y2))
  | 0 => ⟨fun _ _ r h => by simp [clochelaw05_WavesTurned.j0] at h, fun _ _ _ _ r h => by simp [clochelaw05_WavesTurned.j1] at h, fun _ _ r h => by simp [clochelaw05_WavesTurned.j2] at h, fun _ _ _ r h => by simp [clochelaw05_WavesTurned.l0] at h⟩
  | k + 1 => by
    obtain ⟨ih0, ih1, ih2, ih3⟩ := clochelaw05_WavesTurned.mono_l k
    refine ⟨?_, ?_, ?_, ?_⟩
    · intro y0 y1
      unfold clochelaw05_WavesTurned.j0
      repeat' first
      | (with_reducible exact ih0 _ _)
      | (with_reducible exact ih1 _ _ _ _)
      | (with_reducible exact ih2 _ _)
      | (with_reducible exact ih3 _ _ _)
      | (with_reducible exact clochelaw05_alive.mono _)
      | (with_reducible exact clochelaw05_same.mono _ _ _)
      | (with_reducible exact clocheref05_Row.mono _ _)
      | (with_reducible exact waves_IsWave.mono _ _)
      | (with_reducible exact waves_Turned.mono _ _)
      | (with_reducible exact waves_Turns.mono _ _)
      | (with_reducible exact LeO.refl _)
      | (with_reducible exact LeO.none _)
      | (with_reducible refine LeO.ite ?_ ?_)
      | (with_reducible refine LeO.bind ?_ (fun _ => ?_))
      | exact ih0 _ _
      | exact ih1 _ _ _ _
      | exact ih2 _ _
      | exact ih3 _ _ _
      | exact clochelaw05_alive.mono _
      | exact clochelaw05_same.mono _ _ _
      | exact clocheref05_Row.mono _ _
      | exact waves_IsWave.mono _ _
      | exact waves_Turned.mono _ _
      | exact waves_Turns.mono _ _
      | exact LeO.none _
      | refine LeO.ite ?_ ?_
      | refine LeO.bind ?_ (fun _ => ?_)
    · intro y0 y1 y2 y3
      unfold clochelaw05_WavesTurned.j1
      repeat' first
      | (with_reducible exact ih0 _ _)
      | (with_reducible exact ih1 _ _ _ _)
      | (with_reducible exact ih2 _ _)
      | (with_reducible exact ih3 _ _ _)
      | (with_reducible exact clochelaw05_alive.mono _)
      | (with_reducible exact clochelaw05_same.mono _ _ _)
      | (with_reducible exact clocheref05_Row.mono _ _)
      | (with_reducible exact waves_IsWave.mono _ _)
      | (with_reducible exact waves_Turned.mono _ _)
      | (with_reducible exact waves_Turns.mono _ _)
      | (with_reducible exact LeO.refl _)
      | (with_reducible exact LeO.none _)
      | (with_reducible refine LeO.ite ?_ ?_)
      | (with_reducible refine LeO.bind ?_ (fun _ => ?_))
      | exact ih0 _ _
      | exact ih1 _ _ _ _
      | exact ih2 _ _
      | exact ih3 _ _ _
      | exact clochelaw05_alive.mono _
      | exact clochelaw05_same.mono _ _ _
      | exact clocheref05_Row.mono _ _
      | exact waves_IsWave.mono _ _
      | exact waves_Turned.mono _ _
      | exact waves_Turns.mono _ _
      | exact LeO.none _
      | refine LeO.ite ?_ ?_
      | refine LeO.bind ?_ (fun _ => ?_)
    · intro y0 y1
      unfold clochelaw05_WavesTurned.j2
      repeat' first
      | (with_reducible exact ih0 _ _)
      | (with_reducible exact ih1 _ _ _ _)
      | (with_reducible exact ih2 _ _)
      | (with_reducible exact ih3 _ _ _)
      | (with_reducible exact clochelaw05_alive.mono _)
      | (with_reducible exact clochelaw05_same.mono _ _ _)
      | (with_reducible exact clocheref05_Row.mono _ _)
      | (with_reducible exact waves_IsWave.mono _ _)
      | (with_reducible exact waves_Turned.mono _ _)
      | (with_reducible exact waves_Turns.mono _ _)
      | (with_reducible exact LeO.refl _)
      | (with_reducible exact LeO.none _)
      | (with_reducible refine LeO.ite ?_ ?_)
      | (with_reducible refine LeO.bind ?_ (fun _ => ?_))
      | exact ih0 _ _
      | exact ih1 _ _ _ _
      | exact ih2 _ _
      | exact ih3 _ _ _
      | exact clochelaw05_alive.mono _
      | exact clochelaw05_same.mono _ _ _
      | exact clocheref05_Row.mono _ _
      | exact waves_IsWave.mono _ _
      | exact waves_Turned.mono _ _
      | exact waves_Turns.mono _ _
      | exact LeO.none _
      | refine LeO.ite ?_ ?_
      | refine LeO.bind ?_ (fun _ => ?_)
    · intro y0 y1 y2
      unfold clochelaw05_WavesTurned.l0
      repeat' first
      | (with_reducible exact ih0 _ _)
      | (with_reducible exact ih1 _ _ _ _)
      | (with_reducible exact ih2 _ _)
      | (with_reducible exact ih3 _ _ _)
      | (with_reducible exact clochelaw05_alive.mono _)
      | (with_reducible exact clochelaw05_same.mono _ _ _)
      | (with_reducible exact clocheref05_Row.mono _ _)
      | (with_reducible exact waves_IsWave.mono _ _)
      | (with_reducible exact waves_Turned.mono _ _)
      | (with_reducible exact waves_Turns.mono _ _)
      | (with_reducible exact LeO.refl _)
      | (with_reducible exact LeO.none _)
      | (with_reducible refine LeO.ite ?_ ?_)
      | (with_reducible refine LeO.bind ?_ (fun _ => ?_))
      | exact ih0 _ _
      | exact ih1 _ _ _ _
      | exact ih2 _ _
      | exact ih3 _ _ _
      | exact clochelaw05_alive.mono _
      | exact clochelaw05_same.mono _ _ _
      | exact clocheref05_Row.mono _ _
      | exact waves_IsWave.mono _ _
      | exact waves_Turned.mono _ _
      | exact waves_Turns.mono _ _
      | exact LeO.none _
      | refine LeO.ite ?_ ?_
      | refine LeO.bind ?_ (fun _ => ?_)
theorem clochelaw05_WavesTurned.mono : ∀ a0 k, LeO (clochelaw05_WavesTurned.f k a0) (clochelaw05_WavesTurned.f (k + 1) a0) := by
  intro a0 k
  obtain ⟨ih0, ih1, ih2, ih3⟩ := clochelaw05_WavesTurned.mono_l k
  unfold clochelaw05_WavesTurned.f
  repeat' first
      | (with_reducible exact ih0 _ _)
      | (with_reducible exact ih1 _ _ _ _)
      | (with_reducible exact ih2 _ _)
      | (with_reducible exact ih3 _ _ _)
      | (with_reducible exact clochelaw05_alive.mono _)
      | (with_reducible exact clochelaw05_same.mono _ _ _)
      | (with_reducible exact clocheref05_Row.mono _ _)
      | (with_reducible exact waves_IsWave.mono _ _)
      | (with_reducible exact waves_Turned.mono _ _)
      | (with_reducible exact waves_Turns.mono _ _)
      | (with_reducible exact LeO.refl _)
      | (with_reducible exact LeO.none _)
      | (with_reducible refine LeO.ite ?_ ?_)
      | (with_reducible refine LeO.bind ?_ (fun _ => ?_))
      | exact ih0 _ _
      | exact ih1 _ _ _ _
      | exact ih2 _ _
      | exact ih3 _ _ _
      | exact clochelaw05_alive.mono _
      | exact clochelaw05_same.mono _ _ _
      | exact clocheref05_Row.mono _ _
      | exact waves_IsWave.mono _ _
      | exact waves_Turned.mono _ _
      | exact waves_Turns.mono _ _
      | exact LeO.none _
      | refine LeO.ite ?_ ?_
      | refine LeO.bind ?_ (fun _ => ?_)
set_option maxHeartbeats 8000000 in
set_option maxRecDepth 100000 in
theorem clochelaw05_WavesTurned.calls (k : Nat) (A0 : Option Addr) (c0 : Nat) (l0 : List Int) (r : Bool) (w : World) (hr0 : Kd.C (Kd.int .i64) w A0 l0.length l0) (hc0 : l0.length ≤ c0) (h : clochelaw05_WavesTurned.f k l0 = some r) :
    Calls Try.prog 10 #[.slice A0 l0.length c0] w fun e w' => e = .returned (.bool r) ∧ Below w.heap.size w w' := by
  have HR0 := Aside0.mk hr0
  have HC0 := Aside0.mk hc0
  clear hr0 hc0
  have HB := Aside0.mk (Below.refl w.heap.size w)
  have H : (if (l0.length : Int) > 60 then (clochelaw05_WavesTurned.j0 k l0 true) else ((clocheref05_Row.f k l0).bind fun t416 => (clochelaw05_WavesTurned.j0 k l0 (t416 != 0)))) = some r := h
  clear h
  have HC2 := Aside0.mk H
  clear H
  go_enter Try.func10, Try.ntmps10
  go_upto_region 1 with (fail)
  go_cut [24] (fun v24 wc => ∃ (kq : Nat) (x24_1 : Bool), v24 = .bool x24_1 ∧ Aside0 (clochelaw05_WavesTurned.j0 kq l0 x24_1 = some r) ∧ Aside0 (kq ≤ k) ∧ Aside0 (Below w.heap.size w wc))
  case first =>
    have H := HC2.out
    clear HC2
    by_cases c3 : (l0.length : Int) > 60
    · rw [if_pos c3] at H
      have c3b0 : decide (60 < (l0.length : Int)) = true := decide_eq_true c3
      have c3b1 : decide (60 < l0.length) = true := decide_eq_true (by omega)
      clear c3
      (first | rw [c3b0] | (simp only [i64_w, i32_w]; rw [c3b0]) | skip)
      have H' := Aside0.mk H
      clear H
      go_wp2
      go_meet
      case rel => exact ⟨_, (true), (by first | rfl | (simp; done) | (simp [*]; done)), H', ⟨by first | omega | exact Nat.le_refl _⟩, ⟨by repeat (first | (with_reducible first | exact HB.out | apply below_alloc | apply pw_below_drewN | apply below_drew1) | exact HB.out)⟩⟩
    · rw [if_neg c3] at H
      have c3b0 : decide (60 < (l0.length : Int)) = false := decide_eq_false c3
      have c3b1 : decide (60 < l0.length) = false := decide_eq_false (by omega)
      clear c3
      (first | rw [c3b0] | (simp only [i64_w, i32_w]; rw [c3b0]) | skip)
      replace H := Option.bind_eq_some_iff.mp H
      obtain ⟨t416, A40, H⟩ := H
      replace H : (clochelaw05_WavesTurned.j0 k l0 (t416 != 0)) = some r := H
      have A4 := Aside0.mk A40
      clear A40
      have H' := Aside0.mk H
      clear H
      go_wp2_with (first | (go_at_call 24; (with_reducible refine (clocheref05_Row.calls k _ _ l0 t416 _ ?side1 ?side2 A4.out).mono ?_); (case side1 => repeat (first | exact (Kd.C_below HR0.out HB.out) | (with_reducible refine Kd.C_alloc ?_ _) | (with_reducible refine Kd.C_drewN ?_ _) | (with_reducible refine Kd.C_drew ?_))); (case side2 => exact HC0.out); rintro e w' ⟨rfl, ⟨nd, rfl⟩⟩))
      go_meet
      case rel => exact ⟨_, ((t416 != 0)), (by first | rfl | (simp; done) | (simp [*]; done)), H', ⟨by first | omega | exact Nat.le_refl _⟩, ⟨by repeat (first | (with_reducible first | exact HB.out | apply below_alloc | apply pw_below_drewN | apply below_drew1) | exact HB.out)⟩⟩
  case rest =>
    clear HC2
    try clear c1
    try clear p2
    try clear c3
    try clear c3b0
    try clear c3b1
    obtain ⟨kq, x24_1, rfl, HA, HJ1, HB⟩ := hcut
    cases kq with
    | zero => exact absurd HA.out (by simp [clochelaw05_WavesTurned.j0])
    | succ kj1 =>
      have H := HA.out
      clear HA
      simp only [clochelaw05_WavesTurned.j0] at H
      by_cases c5 : x24_1 = true
      · subst c5
        have H1 : ((clochelaw05_alive.f kj1).bind fun t417 => (some t417)) = some r := by rw [if_pos rfl] at H; exact H
        clear H
        have H := H1
        clear H1
        replace H := Option.bind_eq_some_iff.mp H
        obtain ⟨t417, A60, H⟩ := H
        replace H : (some t417) = some r := H
        have A6 := Aside0.mk A60
        clear A60
        obtain rfl := Option.some.inj H
        go_wp2_with (first | ((with_reducible refine gate_callee (f := 17) rfl ?_); refine goesL_ (some 25) rfl rfl Try.func17 (by kernel_rfl) rfl #[] rfl (by (try simp only [List.map_toArray, List.map_cons, List.map_nil]); first | done | rfl | (simp only [List.length_drop, List.length_take]; rfl)) ?_; (with_reducible refine (clochelaw05_alive.calls kj1  t417 _ A6.out).mono ?_); rintro e w7 ⟨rfl, hb⟩; refine ⟨_, rfl, ?_⟩; have n0_ := Aside0.mk (below_step (by repeat (first | (with_reducible first | exact HB.out | apply below_alloc | apply pw_below_drewN | apply below_drew1) | exact HB.out)) hb); clear HB; have HB := n0_; clear n0_; (try clear hb); (try clear hb2); (try clear hk); (try clear hi)))
        go_ret
        exact ⟨by first | rfl | (simp [errW_none, errW_some] <;> rfl) | (simp [*, errW_none, errW_some] <;> rfl), by repeat (first | (with_reducible first | exact HB.out | apply below_alloc | apply pw_below_drewN | apply below_drew1) | exact HB.out)⟩
      · replace c5 := Bool.eq_false_iff.mpr c5
        subst c5
        have H1 : ((waves_IsWave.f kj1 l0).bind fun bt418 => ((waves_Turned.f kj1 l0).bind fun bt420 => ((waves_IsWave.f kj1 bt420.1).bind fun bt424 => ((waves_Turned.f kj1 bt420.1).bind fun bt426 => ((waves_Turns.f kj1 l0).bind fun bt430 => (if bt418.2 = 0 then (if bt420.2 = 0 then (if bt424.2 = 0 then (if bt426.2 = 0 then (if bt430.2 = 0 then ((clochelaw05_same.f kj1 bt426.1 l0).bind fun t432 => (if t432 = true then (if (l0.length : Int) ≥ 2 then (if bt418.1 = true then (clochelaw05_WavesTurned.j1 kj1 (l0.length : Int) bt418.1 bt420.1 (true != (bt430.1 == (wrap64 ((l0.length : Int) - 2))))) else (clochelaw05_WavesTurned.j1 kj1 (l0.length : Int) bt418.1 bt420.1 (bt424.1 != (bt430.1 == (wrap64 ((l0.length : Int) - 2)))))) else (clochelaw05_WavesTurned.j1 kj1 (l0.length : Int) bt418.1 bt420.1 false)) else (clochelaw05_WavesTurned.j1 kj1 (l0.length : Int) bt418.1 bt420.1 true))) else (clochelaw05_WavesTurned.j1 kj1 (l0.length : Int) bt418.1 bt420.1 true)) else (clochelaw05_WavesTurned.j1 kj1 (l0.length : Int) bt418.1 bt420.1 true)) else (clochelaw05_WavesTurned.j1 kj1 (l0.length : Int) bt418.1 bt420.1 true)) else (clochelaw05_WavesTurned.j1 kj1 (l0.length : Int) bt418.1 bt420.1 true)) else (clochelaw05_WavesTurned.j1 kj1 (l0.length : Int) bt418.1 bt420.1 true))))))) = some r := by rw [if_neg (show ¬ (false = true) by decide)] at H; exact H
        clear H
        have H := H1
        clear H1
        replace H := Option.bind_eq_some_iff.mp H
        obtain ⟨⟨t418, t419⟩, A80, H⟩ := H
        replace H : ((waves_Turned.f kj1 l0).bind fun bt420 => ((waves_IsWave.f kj1 bt420.1).bind fun bt424 => ((waves_Turned.f kj1 bt420.1).bind fun bt426 => ((waves_Turns.f kj1 l0).bind fun bt430 => (if t419 = 0 then (if bt420.2 = 0 then (if bt424.2 = 0 then (if bt426.2 = 0 then (if bt430.2 = 0 then ((clochelaw05_same.f kj1 bt426.1 l0).bind fun t432 => (if t432 = true then (if (l0.length : Int) ≥ 2 then (if t418 = true then (clochelaw05_WavesTurned.j1 kj1 (l0.length : Int) t418 bt420.1 (true != (bt430.1 == (wrap64 ((l0.length : Int) - 2))))) else (clochelaw05_WavesTurned.j1 kj1 (l0.length : Int) t418 bt420.1 (bt424.1 != (bt430.1 == (wrap64 ((l0.length : Int) - 2)))))) else (clochelaw05_WavesTurned.j1 kj1 (l0.length : Int) t418 bt420.1 false)) else (clochelaw05_WavesTurned.j1 kj1 (l0.length : Int) t418 bt420.1 true))) else (clochelaw05_WavesTurned.j1 kj1 (l0.length : Int) t418 bt420.1 true)) else (clochelaw05_WavesTurned.j1 kj1 (l0.length : Int) t418 bt420.1 true)) else (clochelaw05_WavesTurned.j1 kj1 (l0.length : Int) t418 bt420.1 true)) else (clochelaw05_WavesTurned.j1 kj1 (l0.length : Int) t418 bt420.1 true)) else (clochelaw05_WavesTurned.j1 kj1 (l0.length : Int) t418 bt420.1 true)))))) = some r := H
        have A8 := Aside0.mk A80
        clear A80
        replace H := Option.bind_eq_some_iff.mp H
        obtain ⟨⟨t420, t421⟩, A90, H⟩ := H
        replace H : ((waves_IsWave.f kj1 t420).bind fun bt424 => ((waves_Turned.f kj1 t420).bind fun bt426 => ((waves_Turns.f kj1 l0).bind fun bt430 => (if t419 = 0 then (if t421 = 0 then (if bt424.2 = 0 then (if bt426.2 = 0 then (if bt430.2 = 0 then ((clochelaw05_same.f kj1 bt426.1 l0).bind fun t432 => (if t432 = true then (if (l0.length : Int) ≥ 2 then (if t418 = true then (clochelaw05_WavesTurned.j1 kj1 (l0.length : Int) t418 t420 (true != (bt430.1 == (wrap64 ((l0.length : Int) - 2))))) else (clochelaw05_WavesTurned.j1 kj1 (l0.length : Int) t418 t420 (bt424.1 != (bt430.1 == (wrap64 ((l0.length : Int) - 2)))))) else (clochelaw05_WavesTurned.j1 kj1 (l0.length : Int) t418 t420 false)) else (clochelaw05_WavesTurned.j1 kj1 (l0.length : Int) t418 t420 true))) else (clochelaw05_WavesTurned.j1 kj1 (l0.length : Int) t418 t420 true)) else (clochelaw05_WavesTurned.j1 kj1 (l0.length : Int) t418 t420 true)) else (clochelaw05_WavesTurned.j1 kj1 (l0.length : Int) t418 t420 true)) else (clochelaw05_WavesTurned.j1 kj1 (l0.length : Int) t418 t420 true)) else (clochelaw05_WavesTurned.j1 kj1 (l0.length : Int) t418 t420 true))))) = some r := H
        have A9 := Aside0.mk A90
        clear A90
        replace H := Option.bind_eq_some_iff.mp H
        obtain ⟨⟨t424, t425⟩, A100, H⟩ := H
        replace H : ((waves_Turned.f kj1 t420).bind fun bt426 => ((waves_Turns.f kj1 l0).bind fun bt430 => (if t419 = 0 then (if t421 = 0 then (if t425 = 0 then (if bt426.2 = 0 then (if bt430.2 = 0 then ((clochelaw05_same.f kj1 bt426.1 l0).bind fun t432 => (if t432 = true then (if (l0.length : Int) ≥ 2 then (if t418 = true then (clochelaw05_WavesTurned.j1 kj1 (l0.length : Int) t418 t420 (true != (bt430.1 == (wrap64 ((l0.length : Int) - 2))))) else (clochelaw05_WavesTurned.j1 kj1 (l0.length : Int) t418 t420 (t424 != (bt430.1 == (wrap64 ((l0.length : Int) - 2)))))) else (clochelaw05_WavesTurned.j1 kj1 (l0.length : Int) t418 t420 false)) else (clochelaw05_WavesTurned.j1 kj1 (l0.length : Int) t418 t420 true))) else (clochelaw05_WavesTurned.j1 kj1 (l0.length : Int) t418 t420 true)) else (clochelaw05_WavesTurned.j1 kj1 (l0.length : Int) t418 t420 true)) else (clochelaw05_WavesTurned.j1 kj1 (l0.length : Int) t418 t420 true)) else (clochelaw05_WavesTurned.j1 kj1 (l0.length : Int) t418 t420 true)) else (clochelaw05_WavesTurned.j1 kj1 (l0.length : Int) t418 t420 true)))) = some r := H
        have A10 := Aside0.mk A100
        clear A100
        replace H := Option.bind_eq_some_iff.mp H
        obtain ⟨⟨t426, t427⟩, A110, H⟩ := H
        replace H : ((waves_Turns.f kj1 l0).bind fun bt430 => (if t419 = 0 then (if t421 = 0 then (if t425 = 0 then (if t427 = 0 then (if bt430.2 = 0 then ((clochelaw05_same.f kj1 t426 l0).bind fun t432 => (if t432 = true then (if (l0.length : Int) ≥ 2 then (if t418 = true then (clochelaw05_WavesTurned.j1 kj1 (l0.length : Int) t418 t420 (true != (bt430.1 == (wrap64 ((l0.length : Int) - 2))))) else (clochelaw05_WavesTurned.j1 kj1 (l0.length : Int) t418 t420 (t424 != (bt430.1 == (wrap64 ((l0.length : Int) - 2)))))) else (clochelaw05_WavesTurned.j1 kj1 (l0.length : Int) t418 t420 false)) else (clochelaw05_WavesTurned.j1 kj1 (l0.length : Int) t418 t420 true))) else (clochelaw05_WavesTurned.j1 kj1 (l0.length : Int) t418 t420 true)) else (clochelaw05_WavesTurned.j1 kj1 (l0.length : Int) t418 t420 true)) else (clochelaw05_WavesTurned.j1 kj1 (l0.length : Int) t418 t420 true)) else (clochelaw05_WavesTurned.j1 kj1 (l0.length : Int) t418 t420 true)) else (clochelaw05_WavesTurned.j1 kj1 (l0.length : Int) t418 t420 true))) = some r := H
        have A11 := Aside0.mk A110
        clear A110
        replace H := Option.bind_eq_some_iff.mp H
        obtain ⟨⟨t430, t431⟩, A120, H⟩ := H
        replace H : (if t419 = 0 then (if t421 = 0 then (if t425 = 0 then (if t427 = 0 then (if t431 = 0 then ((clochelaw05_same.f kj1 t426 l0).bind fun t432 => (if t432 = true then (if (l0.length : Int) ≥ 2 then (if t418 = true then (clochelaw05_WavesTurned.j1 kj1 (l0.length : Int) t418 t420 (true != (t430 == (wrap64 ((l0.length : Int) - 2))))) else (clochelaw05_WavesTurned.j1 kj1 (l0.length : Int) t418 t420 (t424 != (t430 == (wrap64 ((l0.length : Int) - 2)))))) else (clochelaw05_WavesTurned.j1 kj1 (l0.length : Int) t418 t420 false)) else (clochelaw05_WavesTurned.j1 kj1 (l0.length : Int) t418 t420 true))) else (clochelaw05_WavesTurned.j1 kj1 (l0.length : Int) t418 t420 true)) else (clochelaw05_WavesTurned.j1 kj1 (l0.length : Int) t418 t420 true)) else (clochelaw05_WavesTurned.j1 kj1 (l0.length : Int) t418 t420 true)) else (clochelaw05_WavesTurned.j1 kj1 (l0.length : Int) t418 t420 true)) else (clochelaw05_WavesTurned.j1 kj1 (l0.length : Int) t418 t420 true)) = some r := H
        have A12 := Aside0.mk A120
        clear A120
        have HC13 := Aside0.mk H
        clear H
        go_upto_region 9 with (first | ((with_reducible refine gate_callee (f := 34) rfl ?_); refine goesL_ (some 30) rfl rfl Try.func34 (by kernel_rfl) rfl #[.slice A0 l0.length c0] rfl (by (try simp only [List.map_toArray, List.map_cons, List.map_nil]); first | done | rfl | (simp only [List.length_drop, List.length_take]; rfl)) ?_; (with_reducible refine (waves_IsWave.calls kj1 _ _ l0 t418 t419 _ ?side1 ?side2 A8.out).mono ?_); (case side1 => repeat (first | exact (Kd.C_below HR0.out HB.out) | (with_reducible refine Kd.C_alloc ?_ _) | (with_reducible refine Kd.C_drewN ?_ _) | (with_reducible refine Kd.C_drew ?_))); (case side2 => exact HC0.out); rintro e w' ⟨rfl, ⟨nd, rfl⟩⟩; refine ⟨_, rfl, ?_⟩) | ((with_reducible refine gate_callee (f := 35) rfl ?_); refine goesL_ (some 35) rfl rfl Try.func35 (by kernel_rfl) rfl #[.slice A0 l0.length c0] rfl (by (try simp only [List.map_toArray, List.map_cons, List.map_nil]); first | done | rfl | (simp only [List.length_drop, List.length_take]; rfl)) ?_; (with_reducible refine (waves_Turned.calls kj1 _ _ l0 t420 t421 _ ?side1 ?side2 A9.out).mono ?_); (case side1 => repeat (first | exact (Kd.C_below HR0.out (by repeat (first | (with_reducible first | exact HB.out | apply below_alloc | apply pw_below_drewN | apply below_drew1) | exact HB.out))) | (with_reducible refine Kd.C_alloc ?_ _) | (with_reducible refine Kd.C_drewN ?_ _) | (with_reducible refine Kd.C_drew ?_))); (case side2 => exact HC0.out); rintro e w14 ⟨v422, rfl, ho0, hb⟩; refine ⟨_, rfl, ?_⟩; have n0_ := Aside0.mk (Kd.R_lower ho0 (below_size (by repeat (first | (with_reducible first | exact HB.out | apply below_alloc | apply pw_below_drewN | apply below_drew1) | exact HB.out)))); have n1_ := Aside0.mk (below_step (by repeat (first | (with_reducible first | exact HB.out | apply below_alloc | apply pw_below_drewN | apply below_drew1) | exact HB.out)) hb); clear HB; have HO423 := n0_; have HB := n1_; clear n0_ n1_; (try clear hb); (try clear hb2); (try clear hk); (try clear hi); (try clear ho0); obtain ⟨Ao15, co15, eo15⟩ := Kd.R_slice HO423.out; subst eo15) | ((with_reducible refine gate_callee (f := 34) rfl ?_); refine goesL_ (some 40) rfl rfl Try.func34 (by kernel_rfl) rfl #[.slice Ao15 t420.length co15] rfl (by (try simp only [List.map_toArray, List.map_cons, List.map_nil]); first | done | rfl | (simp only [List.length_drop, List.length_take]; rfl)) ?_; (with_reducible refine (waves_IsWave.calls kj1 _ _ t420 t424 t425 _ ?side1 ?side2 A10.out).mono ?_); (case side1 => repeat (first | exact (Kd.R_reads' HO423.out).2.2 | (with_reducible refine Kd.C_alloc ?_ _) | (with_reducible refine Kd.C_drewN ?_ _) | (with_reducible refine Kd.C_drew ?_))); (case side2 => exact (Kd.R_reads' HO423.out).2.1); rintro e w' ⟨rfl, ⟨nd, rfl⟩⟩; refine ⟨_, rfl, ?_⟩) | ((with_reducible refine gate_callee (f := 35) rfl ?_); refine goesL_ (some 45) rfl rfl Try.func35 (by kernel_rfl) rfl #[.slice Ao15 t420.length co15] rfl (by (try simp only [List.map_toArray, List.map_cons, List.map_nil]); first | done | rfl | (simp only [List.length_drop, List.length_take]; rfl)) ?_; (with_reducible refine (waves_Turned.calls kj1 _ _ t420 t426 t427 _ ?side1 ?side2 A11.out).mono ?_); (case side1 => repeat (first | exact (Kd.R_reads' HO423.out).2.2 | (with_reducible refine Kd.C_alloc ?_ _) | (with_reducible refine Kd.C_drewN ?_ _) | (with_reducible refine Kd.C_drew ?_))); (case side2 => exact (Kd.R_reads' HO423.out).2.1); rintro e w16 ⟨v428, rfl, ho0, hb⟩; refine ⟨_, rfl, ?_⟩; have n0_ := Aside0.mk (Kd.R_elder' (by (with_reducible repeat (first | apply Kd.R_alloc | apply Kd.R_drewN | apply Kd.R_drew)); exact HO423.out) (Kd.R_base ho0) hb); have n1_ := Aside0.mk (Kd.R_lower (Kd.R_new' ho0 (Kd.R_lt (by (with_reducible repeat (first | apply Kd.R_alloc | apply Kd.R_drewN | apply Kd.R_drew)); exact HO423.out))) (below_size (by repeat (first | (with_reducible first | exact HB.out | apply below_alloc | apply pw_below_drewN | apply below_drew1) | exact HB.out)))); have n2_ := Aside0.mk (below_step (by repeat (first | (with_reducible first | exact HB.out | apply below_alloc | apply pw_below_drewN | apply below_drew1) | exact HB.out)) hb); clear HO423; clear HB; have HO423 := n0_; have HO429 := n1_; have HB := n2_; clear n0_ n1_ n2_; (try clear hb); (try clear hb2); (try clear hk); (try clear hi); (try clear ho0)) | ((with_reducible refine gate_callee (f := 36) rfl ?_); refine goesL_ (some 50) rfl rfl Try.func36 (by kernel_rfl) rfl #[.slice A0 l0.length c0] rfl (by (try simp only [List.map_toArray, List.map_cons, List.map_nil]); first | done | rfl | (simp only [List.length_drop, List.length_take]; rfl)) ?_; (with_reducible refine (waves_Turns.calls kj1 _ _ l0 t430 t431 _ ?side1 ?side2 A12.out).mono ?_); (case side1 => repeat (first | exact (Kd.C_below HR0.out HB.out) | (with_reducible refine Kd.C_alloc ?_ _) | (with_reducible refine Kd.C_drewN ?_ _) | (with_reducible refine Kd.C_drew ?_))); (case side2 => exact HC0.out); rintro e w' ⟨rfl, ⟨nd, rfl⟩⟩; refine ⟨_, rfl, ?_⟩))
        (try simp only [Act.put, List.setIfInBounds_toArray, List.set_cons_zero, List.set_cons_succ])
        go_cut [91] (fun v91 wc => ∃ (kq : Nat) (x91_12 : Bool), v91 = .bool x91_12 ∧ Aside0 (clochelaw05_WavesTurned.j1 kq (l0.length : Int) t418 t420 x91_12 = some r) ∧ Aside0 (kq ≤ kj1) ∧ Aside0 (Kd.R (Kd.int .i64) 3 wc w.heap.size (fun _ => True) (.slice Ao15 t420.length co15) t420) ∧ Aside0 (Below w.heap.size w wc))
        case first =>
          have H := HC13.out
          clear HC13
          by_cases c17 : t419 = 0
          · rw [if_pos c17] at H
            have c17b0 : (t419 == 0) = true := beq_iff_eq.mpr c17
            have c17b1 : (t419 != 0) = false := bne_eq_false_iff_eq.mpr c17
            clear c17
            (first | rw [c17b0] | (simp only [i64_w, i32_w]; rw [c17b0]) | skip)
            by_cases c18 : t421 = 0
            · rw [if_pos c18] at H
              have c18b0 : (t421 == 0) = true := beq_iff_eq.mpr c18
              have c18b1 : (t421 != 0) = false := bne_eq_false_iff_eq.mpr c18
              clear c18
              by_cases c19 : t425 = 0
              · rw [if_pos c19] at H
                have c19b0 : (t425 == 0) = true := beq_iff_eq.mpr c19
                have c19b1 : (t425 != 0) = false := bne_eq_false_iff_eq.mpr c19
                clear c19
                by_cases c20 : t427 = 0
                · rw [if_pos c20] at H
                  have c20b0 : (t427 == 0) = true := beq_iff_eq.mpr c20
                  have c20b1 : (t427 != 0) = false := bne_eq_false_iff_eq.mpr c20
                  clear c20
                  by_cases c21 : t431 = 0
                  · rw [if_pos c21] at H
                    have c21b0 : (t431 == 0) = true := beq_iff_eq.mpr c21
                    have c21b1 : (t431 != 0) = false := bne_eq_false_iff_eq.mpr c21
                    clear c21
                    replace H := Option.bind_eq_some_iff.mp H
                    obtain ⟨t432, A220, H⟩ := H
                    replace H : (if t432 = true then (if (l0.length : Int) ≥ 2 then (if t418 = true then (clochelaw05_WavesTurned.j1 kj1 (l0.length : Int) t418 t420 (true != (t430 == (wrap64 ((l0.length : Int) - 2))))) else (clochelaw05_WavesTurned.j1 kj1 (l0.length : Int) t418 t420 (t424 != (t430 == (wrap64 ((l0.length : Int) - 2)))))) else (clochelaw05_WavesTurned.j1 kj1 (l0.length : Int) t418 t420 false)) else (clochelaw05_WavesTurned.j1 kj1 (l0.length : Int) t418 t420 true)) = some r := H
                    have A22 := Aside0.mk A220
                    clear A220
                    by_cases c23 : t432 = true
                    · subst c23
                      have H1 : (if (l0.length : Int) ≥ 2 then (if t418 = true then (clochelaw05_WavesTurned.j1 kj1 (l0.length : Int) t418 t420 (true != (t430 == (wrap64 ((l0.length : Int) - 2))))) else (clochelaw05_WavesTurned.j1 kj1 (l0.length : Int) t418 t420 (t424 != (t430 == (wrap64 ((l0.length : Int) - 2)))))) else (clochelaw05_WavesTurned.j1 kj1 (l0.length : Int) t418 t420 false)) = some r := by rw [if_pos rfl] at H; exact H
                      clear H
                      have H := H1
                      clear H1
                      by_cases c24 : (l0.length : Int) ≥ 2
                      · rw [if_pos c24] at H
                        have c24b0 : decide (2 ≤ (l0.length : Int)) = true := decide_eq_true c24
                        have c24b1 : decide (2 ≤ l0.length) = true := decide_eq_true (by omega)
                        clear c24
                        by_cases c25 : t418 = true
                        · subst c25
                          have H1 : (clochelaw05_WavesTurned.j1 kj1 (l0.length : Int) true t420 (true != (t430 == (wrap64 ((l0.length : Int) - 2))))) = some r := by rw [if_pos rfl] at H; exact H
                          clear H
                          have H := H1
                          clear H1
                          have H' := Aside0.mk H
                          clear H
                          obtain ⟨Ao26, co26, eo26⟩ := Kd.R_slice HO429.out
                          subst eo26
                          go_wp2_with (first | (go_at_call 16; (with_reducible refine (clochelaw05_same.calls kj1 _ _ t426 _ _ l0 true _ ?side1 ?side2 ?side3 ?side4 A22.out).mono ?_); (case side1 => repeat (first | exact (Kd.R_reads' HO429.out).2.2 | (with_reducible refine Kd.C_alloc ?_ _) | (with_reducible refine Kd.C_drewN ?_ _) | (with_reducible refine Kd.C_drew ?_))); (case side2 => exact (Kd.R_reads' HO429.out).2.1); (case side3 => repeat (first | exact (Kd.C_below HR0.out HB.out) | (with_reducible refine Kd.C_alloc ?_ _) | (with_reducible refine Kd.C_drewN ?_ _) | (with_reducible refine Kd.C_drew ?_))); (case side4 => exact HC0.out); rintro e w' ⟨rfl, ⟨nd, rfl⟩⟩))
                          go_meet
                          case rel => exact ⟨_, ((true != (t430 == (wrap64 ((l0.length : Int) - 2))))), (by first | rfl | (simp; done) | (simp [*]; done)), H', ⟨by have := HJ1.out; first | omega | exact Nat.le_refl _⟩, ⟨by (with_reducible repeat (first | apply Kd.R_alloc | apply Kd.R_drewN | apply Kd.R_drew)); exact Kd.R_mono HO423.out (fun _ hk => trivial)⟩, ⟨by repeat (first | (with_reducible first | exact HB.out | apply below_alloc | apply pw_below_drewN | apply below_drew1) | exact HB.out)⟩⟩
                        · replace c25 := Bool.eq_false_iff.mpr c25
                          subst c25
                          have H1 : (clochelaw05_WavesTurned.j1 kj1 (l0.length : Int) false t420 (t424 != (t430 == (wrap64 ((l0.length : Int) - 2))))) = some r := by rw [if_neg (show ¬ (false = true) by decide)] at H; exact H
                          clear H
                          have H := H1
                          clear H1
                          have H' := Aside0.mk H
                          clear H
                          obtain ⟨Ao27, co27, eo27⟩ := Kd.R_slice HO429.out
                          subst eo27
                          go_wp2_with (first | (go_at_call 16; (with_reducible refine (clochelaw05_same.calls kj1 _ _ t426 _ _ l0 true _ ?side1 ?side2 ?side3 ?side4 A22.out).mono ?_); (case side1 => repeat (first | exact (Kd.R_reads' HO429.out).2.2 | (with_reducible refine Kd.C_alloc ?_ _) | (with_reducible refine Kd.C_drewN ?_ _) | (with_reducible refine Kd.C_drew ?_))); (case side2 => exact (Kd.R_reads' HO429.out).2.1); (case side3 => repeat (first | exact (Kd.C_below HR0.out HB.out) | (with_reducible refine Kd.C_alloc ?_ _) | (with_reducible refine Kd.C_drewN ?_ _) | (with_reducible refine Kd.C_drew ?_))); (case side4 => exact HC0.out); rintro e w' ⟨rfl, ⟨nd, rfl⟩⟩))
                          go_meet
                          case rel => exact ⟨_, ((t424 != (t430 == (wrap64 ((l0.length : Int) - 2))))), (by first | rfl | (simp; done) | (simp [*]; done)), H', ⟨by have := HJ1.out; first | omega | exact Nat.le_refl _⟩, ⟨by (with_reducible repeat (first | apply Kd.R_alloc | apply Kd.R_drewN | apply Kd.R_drew)); exact Kd.R_mono HO423.out (fun _ hk => trivial)⟩, ⟨by repeat (first | (with_reducible first | exact HB.out | apply below_alloc | apply pw_below_drewN | apply below_drew1) | exact HB.out)⟩⟩
                      · rw [if_neg c24] at H
                        have c24b0 : decide (2 ≤ (l0.length : Int)) = false := decide_eq_false c24
                        have c24b1 : decide (2 ≤ l0.length) = false := decide_eq_false (by omega)
                        clear c24
                        have H' := Aside0.mk H
                        clear H
                        obtain ⟨Ao28, co28, eo28⟩ := Kd.R_slice HO429.out
                        subst eo28
                        go_wp2_with (first | (go_at_call 16; (with_reducible refine (clochelaw05_same.calls kj1 _ _ t426 _ _ l0 true _ ?side1 ?side2 ?side3 ?side4 A22.out).mono ?_); (case side1 => repeat (first | exact (Kd.R_reads' HO429.out).2.2 | (with_reducible refine Kd.C_alloc ?_ _) | (with_reducible refine Kd.C_drewN ?_ _) | (with_reducible refine Kd.C_drew ?_))); (case side2 => exact (Kd.R_reads' HO429.out).2.1); (case side3 => repeat (first | exact (Kd.C_below HR0.out HB.out) | (with_reducible refine Kd.C_alloc ?_ _) | (with_reducible refine Kd.C_drewN ?_ _) | (with_reducible refine Kd.C_drew ?_))); (case side4 => exact HC0.out); rintro e w' ⟨rfl, ⟨nd, rfl⟩⟩))
                        go_meet
                        case rel => exact ⟨_, (false), (by first | rfl | (simp; done) | (simp [*]; done)), H', ⟨by have := HJ1.out; first | omega | exact Nat.le_refl _⟩, ⟨by (with_reducible repeat (first | apply Kd.R_alloc | apply Kd.R_drewN | apply Kd.R_drew)); exact Kd.R_mono HO423.out (fun _ hk => trivial)⟩, ⟨by repeat (first | (with_reducible first | exact HB.out | apply below_alloc | apply pw_below_drewN | apply below_drew1) | exact HB.out)⟩⟩
                    · replace c23 := Bool.eq_false_iff.mpr c23
                      subst c23
                      have H1 : (clochelaw05_WavesTurned.j1 kj1 (l0.length : Int) t418 t420 true) = some r := by rw [if_neg (show ¬ (false = true) by decide)] at H; exact H
                      clear H
                      have H := H1
                      clear H1
                      have H' := Aside0.mk H
                      clear H
                      obtain ⟨Ao29, co29, eo29⟩ := Kd.R_slice HO429.out
                      subst eo29
                      go_wp2_with (first | (go_at_call 16; (with_reducible refine (clochelaw05_same.calls kj1 _ _ t426 _ _ l0 false _ ?side1 ?side2 ?side3 ?side4 A22.out).mono ?_); (case side1 => repeat (first | exact (Kd.R_reads' HO429.out).2.2 | (with_reducible refine Kd.C_alloc ?_ _) | (with_reducible refine Kd.C_drewN ?_ _) | (with_reducible refine Kd.C_drew ?_))); (case side2 => exact (Kd.R_reads' HO429.out).2.1); (case side3 => repeat (first | exact (Kd.C_below HR0.out HB.out) | (with_reducible refine Kd.C_alloc ?_ _) | (with_reducible refine Kd.C_drewN ?_ _) | (with_reducible refine Kd.C_drew ?_))); (case side4 => exact HC0.out); rintro e w' ⟨rfl, ⟨nd, rfl⟩⟩))
                      go_meet
                      case rel => exact ⟨_, (true), (by first | rfl | (simp; done) | (simp [*]; done)), H', ⟨by have := HJ1.out; first | omega | exact Nat.le_refl _⟩, ⟨by (with_reducible repeat (first | apply Kd.R_alloc | apply Kd.R_drewN | apply Kd.R_drew)); exact Kd.R_mono HO423.out (fun _ hk => trivial)⟩, ⟨by repeat (first | (with_reducible first | exact HB.out | apply below_alloc | apply pw_below_drewN | apply below_drew1) | exact HB.out)⟩⟩
                  · rw [if_neg c21] at H
                    have c21b0 : (t431 == 0) = false := beq_eq_false_iff_ne.mpr c21
                    have c21b1 : (t431 != 0) = true := bne_iff_ne.mpr c21
                    have H' := Aside0.mk H
                    clear H
                    go_wp2
                    go_meet
                    case rel => exact ⟨_, (true), (by first | rfl | (simp; done) | (simp [*]; done)), H', ⟨by have := HJ1.out; first | omega | exact Nat.le_refl _⟩, ⟨by (with_reducible repeat (first | apply Kd.R_alloc | apply Kd.R_drewN | apply Kd.R_drew)); exact Kd.R_mono HO423.out (fun _ hk => trivial)⟩, ⟨by repeat (first | (with_reducible first | exact HB.out | apply below_alloc | apply pw_below_drewN | apply below_drew1) | exact HB.out)⟩⟩
                · rw [if_neg c20] at H
                  have c20b0 : (t427 == 0) = false := beq_eq_false_iff_ne.mpr c20
                  have c20b1 : (t427 != 0) = true := bne_iff_ne.mpr c20
                  have H' := Aside0.mk H
                  clear H
                  go_wp2
                  go_meet
                  case rel => exact ⟨_, (true), (by first | rfl | (simp; done) | (simp [*]; done)), H', ⟨by have := HJ1.out; first | omega | exact Nat.le_refl _⟩, ⟨by (with_reducible repeat (first | apply Kd.R_alloc | apply Kd.R_drewN | apply Kd.R_drew)); exact Kd.R_mono HO423.out (fun _ hk => trivial)⟩, ⟨by repeat (first | (with_reducible first | exact HB.out | apply below_alloc | apply pw_below_drewN | apply below_drew1) | exact HB.out)⟩⟩
              · rw [if_neg c19] at H
                have c19b0 : (t425 == 0) = false := beq_eq_false_iff_ne.mpr c19
                have c19b1 : (t425 != 0) = true := bne_iff_ne.mpr c19
                have H' := Aside0.mk H
                clear H
                go_wp2
                go_meet
                case rel => exact ⟨_, (true), (by first | rfl | (simp; done) | (simp [*]; done)), H', ⟨by have := HJ1.out; first | omega | exact Nat.le_refl _⟩, ⟨by (with_reducible repeat (first | apply Kd.R_alloc | apply Kd.R_drewN | apply Kd.R_drew)); exact Kd.R_mono HO423.out (fun _ hk => trivial)⟩, ⟨by repeat (first | (with_reducible first | exact HB.out | apply below_alloc | apply pw_below_drewN | apply below_drew1) | exact HB.out)⟩⟩
            · rw [if_neg c18] at H
              have c18b0 : (t421 == 0) = false := beq_eq_false_iff_ne.mpr c18
              have c18b1 : (t421 != 0) = true := bne_iff_ne.mpr c18
              have H' := Aside0.mk H
              clear H
              go_wp2
              go_meet
              case rel => exact ⟨_, (true), (by first | rfl | (simp; done) | (simp [*]; done)), H', ⟨by have := HJ1.out; first | omega | exact Nat.le_refl _⟩, ⟨by (with_reducible repeat (first | apply Kd.R_alloc | apply Kd.R_drewN | apply Kd.R_drew)); exact Kd.R_mono HO423.out (fun _ hk => trivial)⟩, ⟨by repeat (first | (with_reducible first | exact HB.out | apply below_alloc | apply pw_below_drewN | apply below_drew1) | exact HB.out)⟩⟩
          · rw [if_neg c17] at H
            have c17b0 : (t419 == 0) = false := beq_eq_false_iff_ne.mpr c17
            have c17b1 : (t419 != 0) = true := bne_iff_ne.mpr c17
            (first | rw [c17b0] | (simp only [i64_w, i32_w]; rw [c17b0]) | skip)
            have H' := Aside0.mk H
            clear H
            go_wp2
            go_meet
            case rel => exact ⟨_, (true), (by first | rfl | (simp; done) | (simp [*]; done)), H', ⟨by have := HJ1.out; first | omega | exact Nat.le_refl _⟩, ⟨by (with_reducible repeat (first | apply Kd.R_alloc | apply Kd.R_drewN | apply Kd.R_drew)); exact Kd.R_mono HO423.out (fun _ hk => trivial)⟩, ⟨by repeat (first | (with_reducible first | exact HB.out | apply below_alloc | apply pw_below_drewN | apply below_drew1) | exact HB.out)⟩⟩
        case rest =>
          clear HC13
          try clear c1
          try clear c2
          try clear p2
          try clear c3
          try clear c3b0
          try clear c3b1
          try clear c5
          try clear p6
          try clear c10
          try clear c17
          try clear c17b0
          try clear c17b1
          try clear c18
          try clear c18b0
          try clear c18b1
          try clear c19
          try clear c19b0
          try clear c19b1
          try clear c20
          try clear c20b0
          try clear c20b1
          try clear c21
          try clear c21b0
          try clear c21b1
          try clear c23
          try clear c24
          try clear c24b0
          try clear c24b1
          try clear c25
          try clear p2
          obtain ⟨kq, x91_12, rfl, HA, HJ12, HO_6, HB⟩ := hcut
          cases kq with
          | zero => exact absurd HA.out (by simp [clochelaw05_WavesTurned.j1])
          | succ kj12 =>
            have H := HA.out
            clear HA
            simp only [clochelaw05_WavesTurned.j1] at H
            by_cases c30 : x91_12 = true
            · subst c30
              have H1 : (some false) = some r := by rw [if_pos rfl] at H; exact H
              clear H
              have H := H1
              clear H1
              obtain rfl := Option.some.inj H
              go_wp2
              go_ret
              exact ⟨by first | rfl | (simp [errW_none, errW_some] <;> rfl) | (simp [*, errW_none, errW_some] <;> rfl), by repeat (first | (with_reducible first | exact HB.out | apply below_alloc | apply pw_below_drewN | apply below_drew1) | exact HB.out)⟩
            · replace c30 := Bool.eq_false_iff.mpr c30
              subst c30
              have H1 : (if t418 = true then (clochelaw05_WavesTurned.j2 kj12 t420 ((Int.tmod (l0.length : Int) 2) == 1)) else (clochelaw05_WavesTurned.j2 kj12 t420 true)) = some r := by rw [if_neg (show ¬ (false = true) by decide)] at H; exact H
              clear H
              have H := H1
              clear H1
              have HC31 := Aside0.mk H
              clear H
              go_upto_region 11 with (fail)
              go_cut [98] (fun v98 wc => ∃ (kq : Nat) (x98_30 : Bool), v98 = .bool x98_30 ∧ Aside0 (clochelaw05_WavesTurned.j2 kq t420 x98_30 = some r) ∧ Aside0 (kq ≤ kj12) ∧ Aside0 (Kd.R (Kd.int .i64) 3 wc w.heap.size (fun _ => True) (.slice Ao15 t420.length co15) t420) ∧ Aside0 (Below w.heap.size w wc))
              case first =>
                have H := HC31.out
                clear HC31
                by_cases c32 : t418 = true
                · subst c32
                  have H1 : (clochelaw05_WavesTurned.j2 kj12 t420 ((Int.tmod (l0.length : Int) 2) == 1)) = some r := by rw [if_pos rfl] at H; exact H
                  clear H
                  have H := H1
                  clear H1
                  have H' := Aside0.mk H
                  clear H
                  go_wp2
                  go_meet
                  case rel => exact ⟨_, (((Int.tmod (l0.length : Int) 2) == 1)), (by first | rfl | (simp; done) | (simp [*]; done)), H', ⟨by have := HJ1.out; have := HJ12.out; first | omega | exact Nat.le_refl _⟩, ⟨by (with_reducible repeat (first | apply Kd.R_alloc | apply Kd.R_drewN | apply Kd.R_drew)); exact HO_6.out⟩, ⟨by repeat (first | (with_reducible first | exact HB.out | apply below_alloc | apply pw_below_drewN | apply below_drew1) | exact HB.out)⟩⟩
                · replace c32 := Bool.eq_false_iff.mpr c32
                  subst c32
                  have H1 : (clochelaw05_WavesTurned.j2 kj12 t420 true) = some r := by rw [if_neg (show ¬ (false = true) by decide)] at H; exact H
                  clear H
                  have H := H1
                  clear H1
                  have H' := Aside0.mk H
                  clear H
                  go_wp2
                  go_meet
                  case rel => exact ⟨_, (true), (by first | rfl | (simp; done) | (simp [*]; done)), H', ⟨by have := HJ1.out; have := HJ12.out; first | omega | exact Nat.le_refl _⟩, ⟨by (with_reducible repeat (first | apply Kd.R_alloc | apply Kd.R_drewN | apply Kd.R_drew)); exact HO_6.out⟩, ⟨by repeat (first | (with_reducible first | exact HB.out | apply below_alloc | apply pw_below_drewN | apply below_drew1) | exact HB.out)⟩⟩
              case rest =>
                clear HC31
                try clear c1
                try clear c2
                try clear p2
                try clear c3
                try clear c3b0
                try clear c3b1
                try clear c5
                try clear p6
                try clear c10
                try clear c17
                try clear c17b0
                try clear c17b1
                try clear c18
                try clear c18b0
                try clear c18b1
                try clear c19
                try clear c19b0
                try clear c19b1
                try clear c20
                try clear c20b0
                try clear c20b1
                try clear c21
                try clear c21b0
                try clear c21b1
                try clear c23
                try clear c24
                try clear c24b0
                try clear c24b1
                try clear c25
                try clear c30
                try clear c32
                try clear p2
                try clear p6
                obtain ⟨kq, x98_30, rfl, HA, HJ30, HO_6, HB⟩ := hcut
                cases kq with
                | zero => exact absurd HA.out (by simp [clochelaw05_WavesTurned.j2])
                | succ kj30 =>
                  have H := HA.out
                  clear HA
                  simp only [clochelaw05_WavesTurned.j2] at H
                  by_cases c33 : x98_30 = true
                  · subst c33
                    have H1 : ((clochelaw05_alive.f kj30).bind fun t433 => (some t433)) = some r := by rw [if_pos rfl] at H; exact H
                    clear H
                    have H := H1
                    clear H1
                    replace H := Option.bind_eq_some_iff.mp H
                    obtain ⟨t433, A340, H⟩ := H
                    replace H : (some t433) = some r := H
                    have A34 := Aside0.mk A340
                    clear A340
                    obtain rfl := Option.some.inj H
                    go_wp2_with (first | ((with_reducible refine gate_callee (f := 17) rfl ?_); refine goesL_ (some 99) rfl rfl Try.func17 (by kernel_rfl) rfl #[] rfl (by (try simp only [List.map_toArray, List.map_cons, List.map_nil]); first | done | rfl | (simp only [List.length_drop, List.length_take]; rfl)) ?_; (with_reducible refine (clochelaw05_alive.calls kj30  t433 _ A34.out).mono ?_); rintro e w35 ⟨rfl, hb⟩; refine ⟨_, rfl, ?_⟩; have n0_ := Aside0.mk (Kd.R_below (by (with_reducible repeat (first | apply Kd.R_alloc | apply Kd.R_drewN | apply Kd.R_drew)); exact HO_6.out) hb); have n1_ := Aside0.mk (below_step (by repeat (first | (with_reducible first | exact HB.out | apply below_alloc | apply pw_below_drewN | apply below_drew1) | exact HB.out)) hb); clear HO_6; clear HB; have HO_6 := n0_; have HB := n1_; clear n0_ n1_; (try clear hb); (try clear hb2); (try clear hk); (try clear hi)))
                    go_ret
                    exact ⟨by first | rfl | (simp [errW_none, errW_some] <;> rfl) | (simp [*, errW_none, errW_some] <;> rfl), by repeat (first | (with_reducible first | exact HB.out | apply below_alloc | apply pw_below_drewN | apply below_drew1) | exact HB.out)⟩
                  · replace c33 := Bool.eq_false_iff.mpr c33
                    subst c33
                    have H1 : (clochelaw05_WavesTurned.l0 kj30 t420 ([] : List Int) (wrap64 ((t420.length : Int) - 1))) = some r := by rw [if_neg (show ¬ (false = true) by decide)] at H; exact H
                    clear H
                    have H := H1
                    clear H1
                    have H' := Aside0.mk H
                    clear H
                    go_wp2
                    go_loopg [14, 15] kj30 (fun kq v14 v15 w' => ∃ (x14_4 : List Int) (x15_4 : Int), v15 = .int .i64 x15_4 ∧ Aside0 (clochelaw05_WavesTurned.l0 kq t420 x14_4 x15_4 = some r) ∧ Aside0 (kq ≤ kj30) ∧ Aside0 (Kd.R (Kd.int .i64) 3 w' w.heap.size (fun k_ => some k_ ≠ (v14 : Value).ownBlock) (.slice Ao15 t420.length co15) t420) ∧ Aside0 (Kd.R (Kd.int .i64) 3 w' w.heap.size (fun k_ => some k_ ≠ ((.slice Ao15 t420.length co15) : Value).ownBlock) v14 x14_4) ∧ Aside0 (Below w.heap.size w w'))
                    case atStart => exact ⟨(([] : List Int)), (wrap64 ((t420.length : Int) - 1)), (by first | rfl | (simp; done) | (simp [*]; done)), H', ⟨Nat.le_refl _⟩, ⟨by (with_reducible repeat (first | apply Kd.R_alloc | apply Kd.R_drewN | apply Kd.R_drew)); exact Kd.R_mono HO_6.out (fun _ hk => (by simp [Value.ownBlock]))⟩, ⟨by first | exact Kd.R_nil _ _ _ _ _ | exact Kd.N_nil _ _ _ _ _ | exact Kd.V_nil _ _ _ _ _ | exact Kd.Q_nil _ _ _ _ _ | exact Kd.S_nil _ _ _ _ _⟩, ⟨by repeat (first | (with_reducible first | exact HB.out | apply below_alloc | apply pw_below_drewN | apply below_drew1) | exact HB.out)⟩⟩
                    case round =>
                      clear H'
                      try clear c1
                      try clear c2
                      try clear p2
                      try clear c3
                      try clear c3b0
                      try clear c3b1
                      try clear c5
                      try clear p6
                      try clear c10
                      try clear c17
                      try clear c17b0
                      try clear c17b1
                      try clear c18
                      try clear c18b0
                      try clear c18b1
                      try clear c19
                      try clear c19b0
                      try clear c19b1
                      try clear c20
                      try clear c20b0
                      try clear c20b1
                      try clear c21
                      try clear c21b0
                      try clear c21b1
                      try clear c23
                      try clear c24
                      try clear c24b0
                      try clear c24b1
                      try clear c25
                      try clear c30
                      try clear c32
                      try clear c33
                      try clear c34
                      try clear c35
                      try clear p2
                      try clear p6
                      obtain ⟨x14_4, x15_4, rfl, HA, HK4, HO_6, HO_14, HB⟩ := hrel
                      cases gk with
                      | zero => exact absurd HA.out (by simp [clochelaw05_WavesTurned.l0])
                      | succ k4 =>
                        have H := HA.out
                        clear HA
                        simp only [clochelaw05_WavesTurned.l0] at H
                        by_cases c36 : x15_4 ≥ 0
                        · rw [if_pos c36] at H
                          have c36b0 : decide (0 ≤ x15_4) = true := decide_eq_true c36
                          clear c36
                          by_cases c37 : 0 ≤ x15_4
                          · rw [if_pos c37] at H
                            have c37b0 : decide (0 ≤ x15_4) = true := decide_eq_true c37
                            clear c37
                            by_cases c38 : x15_4 < (t420.length : Int)
                            · rw [if_pos c38] at H
                              have c38b0 : decide (x15_4 < (t420.length : Int)) = true := decide_eq_true c38
                              clear c38
                              by_cases c39 : x14_4.length < 17592186044416
                              · rw [if_pos c39] at H
                                have LMc39 := Aside0.mk c39
                                clear c39
                                obtain ⟨y435, hy435⟩ : ∃ y_ : List Int, y_ = (x14_4 ++ [rd t420 x15_4]) := ⟨_, rfl⟩
                                replace H : (clochelaw05_WavesTurned.l0 k4 t420 y435 (wrap64 (x15_4 - 1))) = some r := by first | (rw [hy435]; with_reducible exact H) | (have H2_ := (Option.bind_some _ _).symm.trans H; rw [hy435]; with_reducible exact H2_) | (have H2_ := (Option.bind_some _ _).symm.trans H; with_reducible exact H2_) | with_reducible exact H | (rw [hy435]; exact H) | exact H
                                have Ny435 := Aside0.mk hy435
                                clear hy435
                                have H' := Aside0.mk H
                                clear H
                                have p434 : 0 ≤ (x15_4 : Int) := of_decide_eq_true (by first | (with_reducible assumption) | assumption)
                                have q434 : x15_4 < (t420.length : Int) := of_decide_eq_true (by first | (with_reducible assumption) | assumption)
                                obtain ⟨ad434, e434, hx434_0⟩ := Kd.at_int (Kd.R_reads' HO_6.out).2.2 x15_4 p434 q434
                                cases e434
                                replace p434 := eq_true p434
                                replace q434 := eq_true q434
                                go_wp2_with (first | ((with_reducible refine gate_builtin (b := .append) (xs := #[.tmp 107, .tmp 112]) rfl ?_); at_builtin; refine Kd.R_append (Kd.int .i64) (w0 := w) w.heap.size rfl (.tmp 107) (.tmp 112) 27 3 (.int .i64 0) 8 rfl Try.underlying27 info3 rfl (by decide) (by omega) u14 x14_4 (rd t420 x15_4) [.int .i64 (rd t420 x15_4)] (fun k_ => some k_ ≠ (.slice (some ad434) t420.length co15 : Value).ownBlock) (fun _ => False) rfl rfl ?aP (fun _ hk => hk.elim) ?aF ?aO ?aB ?aS ?aL ?_; (case aP => exact rfl); (case aB => exact (by repeat (first | (with_reducible first | exact HB.out | apply below_alloc | apply pw_below_drewN | apply below_drew1) | exact HB.out))); (case aF => exact (fun k_ hk => Kd.fresh' (Kd.R_lt (by (with_reducible repeat (first | apply Kd.R_alloc | apply Kd.R_drewN | apply Kd.R_drew)); exact HO_6.out)) k_ hk)); (case aO => exact (by (with_reducible repeat (first | apply Kd.R_alloc | apply Kd.R_drewN | apply Kd.R_drew)); exact HO_14.out)); (case aS => exact (below_size (by repeat (first | (with_reducible first | exact HB.out | apply below_alloc | apply pw_below_drewN | apply below_drew1) | exact HB.out)))); (case aL => have := LMc39.out; omega); intro v436 w40 ho hb hg hat; rw [← Ny435.out] at ho; have n0_ := Aside0.mk (Kd.R_after (ok := (fun _ => True)) (by (with_reducible repeat (first | apply Kd.R_alloc | apply Kd.R_drewN | apply Kd.R_drew)); exact Kd.R_mono HO_6.out (fun _ hk => ⟨trivial, hk⟩)) hg hat); have n1_ := Aside0.mk (hb); have n2_ := Aside0.mk (ho); clear HO_6; clear HB; clear HO_14; have HO_6 := n0_; have HB := n1_; have HO437 := n2_; clear n0_ n1_ n2_; clear ho hb hg hat))
                                go_roundg k4
                                case measure => have := HJ1.out; have := HJ12.out; have := HJ30.out; have := HK4.out; omega
                                case rel => exact ⟨(y435), (wrap64 (x15_4 - 1)), (by first | rfl | (simp; done) | (simp [*]; done)), H', ⟨by have := HJ1.out; have := HJ12.out; have := HJ30.out; have := HK4.out; omega⟩, ⟨by (with_reducible repeat (first | apply Kd.R_alloc | apply Kd.R_drewN | apply Kd.R_drew)); exact Kd.R_mono HO_6.out (fun _ hk => hk.2)⟩, ⟨by (with_reducible repeat (first | apply Kd.R_alloc | apply Kd.R_drewN | apply Kd.R_drew)); exact HO437.out⟩, ⟨by repeat (first | (with_reducible first | exact HB.out | apply below_alloc | apply pw_below_drewN | apply below_drew1) | exact HB.out)⟩⟩
                              · rw [if_neg c39] at H
                                exact absurd H (by simp)
                            · rw [if_neg c38] at H
                              exact absurd H (by simp)
                          · rw [if_neg c37] at H
                            exact absurd H (by simp)
                        · rw [if_neg c36] at H
                          have c36b0 : decide (0 ≤ x15_4) = false := decide_eq_false c36
                          clear c36
                          replace H := Option.bind_eq_some_iff.mp H
                          obtain ⟨⟨t438, t439⟩, A410, H⟩ := H
                          replace H : (if t439 = 0 then (if t438 = true then ((clochelaw05_alive.f k4).bind fun t440 => (some t440)) else (some false)) else (some false)) = some r := H
                          have A41 := Aside0.mk A410
                          clear A410
                          by_cases c42 : t439 = 0
                          · rw [if_pos c42] at H
                            have c42b0 : (t439 == 0) = true := beq_iff_eq.mpr c42
                            have c42b1 : (t439 != 0) = false := bne_eq_false_iff_eq.mpr c42
                            clear c42
                            by_cases c43 : t438 = true
                            · subst c43
                              have H1 : ((clochelaw05_alive.f k4).bind fun t440 => (some t440)) = some r := by rw [if_pos rfl] at H; exact H
                              clear H
                              have H := H1
                              clear H1
                              replace H := Option.bind_eq_some_iff.mp H
                              obtain ⟨t440, A440, H⟩ := H
                              replace H : (some t440) = some r := H
                              have A44 := Aside0.mk A440
                              clear A440
                              obtain rfl := Option.some.inj H
                              obtain ⟨Ao45, co45, eo45⟩ := Kd.R_slice HO_14.out
                              subst eo45
                              go_wp2_with (first | ((with_reducible refine gate_callee (f := 34) rfl ?_); refine goesL_ (some 116) rfl rfl Try.func34 (by kernel_rfl) rfl #[.slice Ao45 x14_4.length co45] rfl (by (try simp only [List.map_toArray, List.map_cons, List.map_nil]); first | done | rfl | (simp only [List.length_drop, List.length_take]; rfl)) ?_; (with_reducible refine (waves_IsWave.calls k4 _ _ x14_4 true t439 _ ?side1 ?side2 A41.out).mono ?_); (case side1 => repeat (first | exact (Kd.R_reads' HO_14.out).2.2 | (with_reducible refine Kd.C_alloc ?_ _) | (with_reducible refine Kd.C_drewN ?_ _) | (with_reducible refine Kd.C_drew ?_))); (case side2 => exact (Kd.R_reads' HO_14.out).2.1); rintro e w' ⟨rfl, ⟨nd, rfl⟩⟩; refine ⟨_, rfl, ?_⟩) | (go_at_call 17; (with_reducible refine (clochelaw05_alive.calls k4  t440 _ A44.out).mono ?_); rintro e w46 ⟨rfl, hb⟩; have n0_ := Aside0.mk (Kd.R_below (by (with_reducible repeat (first | apply Kd.R_alloc | apply Kd.R_drewN | apply Kd.R_drew)); exact HO_6.out) hb); have n1_ := Aside0.mk (Kd.R_below (by (with_reducible repeat (first | apply Kd.R_alloc | apply Kd.R_drewN | apply Kd.R_drew)); exact HO_14.out) hb); have n2_ := Aside0.mk (below_step (by repeat (first | (with_reducible first | exact HB.out | apply below_alloc | apply pw_below_drewN | apply below_drew1) | exact HB.out)) hb); clear HO_6; clear HO_14; clear HB; have HO_6 := n0_; have HO_14 := n1_; have HB := n2_; clear n0_ n1_ n2_; (try clear hb); (try clear hb2); (try clear hk); (try clear hi)))
                              go_ret
                              exact ⟨by first | rfl | (simp [errW_none, errW_some] <;> rfl) | (simp [*, errW_none, errW_some] <;> rfl), by repeat (first | (with_reducible first | exact HB.out | apply below_alloc | apply pw_below_drewN | apply below_drew1) | exact HB.out)⟩
                            · replace c43 := Bool.eq_false_iff.mpr c43
                              subst c43
                              have H1 : (some false) = some r := by rw [if_neg (show ¬ (false = true) by decide)] at H; exact H
                              clear H
                              have H := H1
                              clear H1
                              obtain rfl := Option.some.inj H
                              obtain ⟨Ao47, co47, eo47⟩ := Kd.R_slice HO_14.out
                              subst eo47
                              go_wp2_with (first | ((with_reducible refine gate_callee (f := 34) rfl ?_); refine goesL_ (some 116) rfl rfl Try.func34 (by kernel_rfl) rfl #[.slice Ao47 x14_4.length co47] rfl (by (try simp only [List.map_toArray, List.map_cons, List.map_nil]); first | done | rfl | (simp only [List.length_drop, List.length_take]; rfl)) ?_; (with_reducible refine (waves_IsWave.calls k4 _ _ x14_4 false t439 _ ?side1 ?side2 A41.out).mono ?_); (case side1 => repeat (first | exact (Kd.R_reads' HO_14.out).2.2 | (with_reducible refine Kd.C_alloc ?_ _) | (with_reducible refine Kd.C_drewN ?_ _) | (with_reducible refine Kd.C_drew ?_))); (case side2 => exact (Kd.R_reads' HO_14.out).2.1); rintro e w' ⟨rfl, ⟨nd, rfl⟩⟩; refine ⟨_, rfl, ?_⟩))
                              go_ret
                              exact ⟨by first | rfl | (simp [errW_none, errW_some] <;> rfl) | (simp [*, errW_none, errW_some] <;> rfl), by repeat (first | (with_reducible first | exact HB.out | apply below_alloc | apply pw_below_drewN | apply below_drew1) | exact HB.out)⟩
                          · rw [if_neg c42] at H
                            have c42b0 : (t439 == 0) = false := beq_eq_false_iff_ne.mpr c42
                            have c42b1 : (t439 != 0) = true := bne_iff_ne.mpr c42
                            obtain rfl := Option.some.inj H
                            obtain ⟨Ao48, co48, eo48⟩ := Kd.R_slice HO_14.out
                            subst eo48
                            go_wp2_with (first | ((with_reducible refine gate_callee (f := 34) rfl ?_); refine goesL_ (some 116) rfl rfl Try.func34 (by kernel_rfl) rfl #[.slice Ao48 x14_4.length co48] rfl (by (try simp only [List.map_toArray, List.map_cons, List.map_nil]); first | done | rfl | (simp only [List.length_drop, List.length_take]; rfl)) ?_; (with_reducible refine (waves_IsWave.calls k4 _ _ x14_4 t438 t439 _ ?side1 ?side2 A41.out).mono ?_); (case side1 => repeat (first | exact (Kd.R_reads' HO_14.out).2.2 | (with_reducible refine Kd.C_alloc ?_ _) | (with_reducible refine Kd.C_drewN ?_ _) | (with_reducible refine Kd.C_drew ?_))); (case side2 => exact (Kd.R_reads' HO_14.out).2.1); rintro e w' ⟨rfl, ⟨nd, rfl⟩⟩; refine ⟨_, rfl, ?_⟩))
                            go_ret
                            exact ⟨by first | rfl | (simp [errW_none, errW_some] <;> rfl) | (simp [*, errW_none, errW_some] <;> rfl), by repeat (first | (with_reducible first | exact HB.out | apply below_alloc | apply pw_below_drewN | apply below_drew1) | exact HB.out)⟩

/-- THE ONE PURE STATEMENT of clochelaw05_WavesTurned: yours. -/
def clochelaw05_WavesTurned.Pure : Prop := ∀ (l0 : List Int), l0.length ≤ maxLen → l0.length * 8 ≤ 140737488351232 → (∀ x ∈ l0, (Lit.int .i64 x).wf = true) → ∃ k, clochelaw05_WavesTurned.f k l0 = some true
theorem clochelaw05_WavesTurned.walk (P : clochelaw05_WavesTurned.Pure) (a0 : Option Addr) (len0 cap0 : Nat) (z0 : List Int) (w : World) (w0 : (a0 = none ∧ len0 = 0 ∧ cap0 = 0 ∧ z0 = []) ∨ ∃ x, a0 = some x ∧ len0 ≤ cap0 ∧ cap0 ≤ maxLen ∧ z0.length = cap0 ∧ (∀ i, i < z0.length → w.cell? (x.add i) = some (.int .i64 (z0.getD i 0))) ∧ ∀ n ∈ z0, (Lit.int .i64 n).wf = true) (y0 : len0 * 8 ≤ 140737488351232) :
    Calls Try.prog 10 #[.slice a0 len0 cap0] w fun e w' => e = .returned (.bool true) ∧ Below w.heap.size w w' := by
  obtain ⟨l0, rfl, hr0, hm0, hw0, hc0⟩ := ReadsInt.ofRowC w0
  obtain ⟨k, h⟩ := P l0 hm0 y0 hw0
  refine (clochelaw05_WavesTurned.calls k _ _ l0 true w (Kd.C_of_reads (d := (0 : Int)) (h1 := fun _ => rfl) hr0) hc0 h).mono ?_
  rintro e w' ⟨rfl, hd⟩
  exact ⟨rfl, hd⟩

end Go.Proofs.Ytmigibamdeodpaa.Print
