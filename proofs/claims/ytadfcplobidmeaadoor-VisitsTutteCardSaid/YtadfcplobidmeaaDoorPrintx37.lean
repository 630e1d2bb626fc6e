/- What the functions of the visits compute, printed by this repo's hand printer. -/
import Derived.Test.YtadfcplobidmeaaDoorPrintx0
import Derived.Test.YtadfcplobidmeaaDoorPrintx2
import Derived.Test.YtadfcplobidmeaaDoorPrintx6
import Derived.Test.YtadfcplobidmeaaDoorPrintx9
import Derived.Test.YtadfcplobidmeaaDoorPrintx10
import Derived.Test.YtadfcplobidmeaaDoorPrintx11
import Derived.Test.YtadfcplobidmeaaDoorPrintx21
import Derived.Test.YtadfcplobidmeaaDoorPrintx22
import Derived.Test.YtadfcplobidmeaaDoorPrintx27b
namespace Go.Proofs.YtadfcplobidmeaaDoor.Print
open Go.RowKit Go.Proofs.YtadfcplobidmeaaDoorW.PrintWords Go.Proofs.YtadfcplobidmeaaDoorW.PrintLast Go.Proofs.YtadfcplobidmeaaDoorW.PrintMore
attribute [local go_sem] max2_int min2_int max_two min_two max_three min_three max_four min_four   -- for this text's walks alone
set_option linter.unusedVariables false
set_option linter.unusedSimpArgs false

/-! ### clochelaw03_VisitsTutte: function 14 -/
mutual
def clochelaw03_VisitsTutte.j0 : Nat → List Int → Int → List (S43) → Bool → Option (Bool)
  | 0, _, _, _, _ => none
  | k + 1, x0, x1, x2, x27 => if x27 = true then ((clochelaw03_alive.f k).bind fun t511 => (some t511)) else ((visits_Largest.f k x0).bind fun bt512 => ((visits_Barrier.f k x0).bind fun bt516 => ((visits_Odd.f k x0 bt516.1).bind fun bt519 => (if (shl .i64 1 (x0.length : Int)) = 0 then (none) else ((visits_Odd.f k x0 (Int.tmod (wrap64 (x1)) (shl .i64 1 (x0.length : Int)))).bind fun bt521 => ((visits_IsMatching.f k x0 bt512.1).bind fun bt523 => (if bt512.2 = 0 then (if bt516.2.2 = 0 then (if bt519.2 = 0 then (if bt521.2 = 0 then (if bt523.2 = 0 then (if bt523.1 = true then (if (wrap64 ((x0.length : Int) - (wrap64 (2 * (bt512.1.length : Int))))) = bt516.2.1 then ((clocheref03_Size.f k bt516.1).bind fun t525 => (if (wrap64 (bt519.1 - t525)) = bt516.2.1 then ((clocheref03_Size.f k (Int.tmod (wrap64 (x1)) (shl .i64 1 (x0.length : Int)))).bind fun t526 => (clochelaw03_VisitsTutte.j1 k x0 x2 bt512.1 (decide ((wrap64 (bt521.1 - t526)) > bt516.2.1)))) else (none))) else (none)) else (none)) else (none)) else (none)) else (none)) else (none)) else (none))))))))
def clochelaw03_VisitsTutte.j1 : Nat → List Int → List (S43) → List (S43) → Bool → Option (Bool)
  | 0, _, _, _, _ => none
  | k + 1, x0, x2, x8, x114 => if x114 = true then (none) else ((visits_IsMatching.f k x0 x2).bind fun bt527 => (if bt527.2 = 0 then (if bt527.1 = true then (if (x2.length : Int) ≤ (x8.length : Int) then ((clochelaw03_alive.f k).bind fun t529 => (some t529)) else (none)) else ((clochelaw03_alive.f k).bind fun t530 => (some t530))) else (none)))
end
def clochelaw03_VisitsTutte.f (k : Nat) (l0 : List Int) (a1 : Int) (l2 : List (S43)) : Option (Bool) := (clochelaw03_few.f l0 l2).bind fun t509 => (if t509 = true then ((clocheref03_IsShop.f k l0).bind fun t510 => (clochelaw03_VisitsTutte.j0 k l0 a1 l2 (!t510))) else (clochelaw03_VisitsTutte.j0 k l0 a1 l2 true))
theorem clochelaw03_VisitsTutte.mono_l : ∀ k, (∀ y0 y1 y2 y3, LeO (clochelaw03_VisitsTutte.j0 k y0 y1 y2 y3) (clochelaw03_VisitsTutte.j0 (k + 1) y0 y1 y2 y3)) ∧ (∀ y0 y1 y2 y3, LeO (clochelaw03_VisitsTutte.j1 k y0 y1 y2 y3) (clochelaw03_VisitsTutte.j1 (k + 1) y0 y1 y2 y3))
  | 0 => ⟨fun _ _ _ _ r h => by simp [clochelaw03_VisitsTutte.j0] at h, fun _ _ _ _ r h => by simp [clochelaw03_VisitsTutte.j1] at h⟩
  | k + 1 => by
    obtain ⟨ih0, ih1⟩ := clochelaw03_VisitsTutte.mono_l k
    refine ⟨?_, ?_⟩
    · intro y0 y1 y2 y3
      unfold clochelaw03_VisitsTutte.j0
      repeat' first
      | (with_reducible exact ih0 _ _ _ _)
      | (with_reducible exact ih1 _ _ _ _)
      | (with_reducible exact clochelaw03_alive.mono _)
      | (with_reducible exact clocheref03_IsShop.mono _ _)
      | (with_reducible exact clocheref03_Size.mono _ _)
      | (with_reducible exact visits_Barrier.mono _ _)
      | (with_reducible exact visits_IsMatching.mono _ _ _)
      | (with_reducible exact visits_Largest.mono _ _)
      | (with_reducible exact visits_Odd.mono _ _ _)
      | (with_reducible exact LeO.refl _)
      | (with_reducible exact LeO.none _)
      | (with_reducible refine LeO.ite ?_ ?_)
      | (with_reducible refine LeO.bind ?_ (fun _ => ?_))
      | exact ih0 _ _ _ _
      | exact ih1 _ _ _ _
      | exact clochelaw03_alive.mono _
      | exact clocheref03_IsShop.mono _ _
      | exact clocheref03_Size.mono _ _
      | exact visits_Barrier.mono _ _
      | exact visits_IsMatching.mono _ _ _
      | exact visits_Largest.mono _ _
      | exact visits_Odd.mono _ _ _
      | exact LeO.none _
      | refine LeO.ite ?_ ?_
      | refine LeO.bind ?_ (fun _ => ?_)
    · intro y0 y1 y2 y3
      unfold clochelaw03_VisitsTutte.j1
      repeat' first
      | (with_reducible exact ih0 _ _ _ _)
      | (with_reducible exact ih1 _ _ _ _)
      | (with_reducible exact clochelaw03_alive.mono _)
      | (with_reducible exact clocheref03_IsShop.mono _ _)
      | (with_reducible exact clocheref03_Size.mono _ _)
      | (with_reducible exact visits_Barrier.mono _ _)
      | (with_reducible exact visits_IsMatching.mono _ _ _)
      | (with_reducible exact visits_Largest.mono _ _)
      | (with_reducible exact visits_Odd.mono _ _ _)
      | (with_reducible exact LeO.refl _)
      | (with_reducible exact LeO.none _)
      | (with_reducible refine LeO.ite ?_ ?_)
      | (with_reducible refine LeO.bind ?_ (fun _ => ?_))
      | exact ih0 _ _ _ _
      | exact ih1 _ _ _ _
      | exact clochelaw03_alive.mono _
      | exact clocheref03_IsShop.mono _ _
      | exact clocheref03_Size.mono _ _
      | exact visits_Barrier.mono _ _
      | exact visits_IsMatching.mono _ _ _
      | exact visits_Largest.mono _ _
      | exact visits_Odd.mono _ _ _
      | exact LeO.none _
      | refine LeO.ite ?_ ?_
      | refine LeO.bind ?_ (fun _ => ?_)
theorem clochelaw03_VisitsTutte.mono : ∀ a0 a1 a2 k, LeO (clochelaw03_VisitsTutte.f k a0 a1 a2) (clochelaw03_VisitsTutte.f (k + 1) a0 a1 a2) := by
  intro a0 a1 a2 k
  obtain ⟨ih0, ih1⟩ := clochelaw03_VisitsTutte.mono_l k
  unfold clochelaw03_VisitsTutte.f
  repeat' first
      | (with_reducible exact ih0 _ _ _ _)
      | (with_reducible exact ih1 _ _ _ _)
      | (with_reducible exact clochelaw03_alive.mono _)
      | (with_reducible exact clocheref03_IsShop.mono _ _)
      | (with_reducible exact clocheref03_Size.mono _ _)
      | (with_reducible exact visits_Barrier.mono _ _)
      | (with_reducible exact visits_IsMatching.mono _ _ _)
      | (with_reducible exact visits_Largest.mono _ _)
      | (with_reducible exact visits_Odd.mono _ _ _)
      | (with_reducible exact LeO.refl _)
      | (with_reducible exact LeO.none _)
      | (with_reducible refine LeO.ite ?_ ?_)
      | (with_reducible refine LeO.bind ?_ (fun _ => ?_))
      | exact ih0 _ _ _ _
      | exact ih1 _ _ _ _
      | exact clochelaw03_alive.mono _
      | exact clocheref03_IsShop.mono _ _
      | exact clocheref03_Size.mono _ _
      | exact visits_Barrier.mono _ _
      | exact visits_IsMatching.mono _ _ _
      | exact visits_Largest.mono _ _
      | exact visits_Odd.mono _ _ _
      | exact LeO.none _
      | refine LeO.ite ?_ ?_
      | refine LeO.bind ?_ (fun _ => ?_)
set_option maxHeartbeats 8000000 in
set_option maxRecDepth 100000 in
theorem clochelaw03_VisitsTutte.calls (k : Nat) (A0 : Option Addr) (c0 : Nat) (l0 : List Int) (a1 : Int) (A2 : Option Addr) (c2 : Nat) (l2 : List (S43)) (r : Bool) (w : World) (hr0 : Kd.C (Kd.int .i64) w A0 l0.length l0) (hc0 : l0.length ≤ c0) (hr2 : Kd.C k43 w A2 l2.length l2) (hc2 : l2.length ≤ c2) (h : clochelaw03_VisitsTutte.f k l0 a1 l2 = some r) (hT : Tab w) :
    Calls Tryd.prog 14 #[.slice A0 l0.length c0, .int .u16 a1, .slice A2 l2.length c2] w fun e w' => e = .returned (.bool r) ∧ Below w.heap.size w w' := by
  have HR0 := Aside0.mk hr0
  have HC0 := Aside0.mk hc0
  clear hr0 hc0
  have HR2 := Aside0.mk hr2
  have HC2 := Aside0.mk hc2
  clear hr2 hc2
  have HT0 := Aside0.mk hT
  clear hT
  have HB := Aside0.mk (Below.refl w.heap.size w)
  have H : ((clochelaw03_few.f l0 l2).bind fun t509 => (if t509 = true then ((clocheref03_IsShop.f k l0).bind fun t510 => (clochelaw03_VisitsTutte.j0 k l0 a1 l2 (!t510))) else (clochelaw03_VisitsTutte.j0 k l0 a1 l2 true))) = some r := h
  clear h
  have HC4 := Aside0.mk H
  clear H
  go_enter Tryd.func14, Tryd.ntmps14
  go_upto_region 1 with (fail)
  go_cut [27] (fun v27 wc => ∃ (kq : Nat) (x27_3 : Bool), v27 = .bool x27_3 ∧ Aside0 (clochelaw03_VisitsTutte.j0 kq l0 a1 l2 x27_3 = some r) ∧ Aside0 (kq ≤ k) ∧ Aside0 (Below w.heap.size w wc))
  case first =>
    have H := HC4.out
    clear HC4
    replace H := Option.bind_eq_some_iff.mp H
    obtain ⟨t509, A50, H⟩ := H
    replace H : (if t509 = true then ((clocheref03_IsShop.f k l0).bind fun t510 => (clochelaw03_VisitsTutte.j0 k l0 a1 l2 (!t510))) else (clochelaw03_VisitsTutte.j0 k l0 a1 l2 true)) = some r := H
    have A5 := Aside0.mk A50
    clear A50
    by_cases c6 : t509 = true
    · subst c6
      have H1 : ((clocheref03_IsShop.f k l0).bind fun t510 => (clochelaw03_VisitsTutte.j0 k l0 a1 l2 (!t510))) = some r := by rw [if_pos rfl] at H; exact H
      clear H
      have H := H1
      clear H1
      replace H := Option.bind_eq_some_iff.mp H
      obtain ⟨t510, A70, H⟩ := H
      replace H : (clochelaw03_VisitsTutte.j0 k l0 a1 l2 (!t510)) = some r := H
      have A7 := Aside0.mk A70
      clear A70
      have H' := Aside0.mk H
      clear H
      go_wp2_with (first | ((with_reducible refine gate_callee (f := 15) rfl ?_); refine goesL_ (some 21) rfl rfl Tryd.func15 (by kernel_rfl) rfl #[.slice A0 l0.length c0, .slice A2 l2.length c2] rfl (by (try simp only [List.map_toArray, List.map_cons, List.map_nil]); first | done | rfl | (simp only [List.length_drop, List.length_take]; rfl)) ?_; (with_reducible refine (clochelaw03_few.calls _ _ l0 _ _ l2 true _ ?side1 ?side2 ?side3 ?side4 A5.out).mono ?_); (case side1 => repeat (first | exact (Kd.C_below HR0.out HB.out) | (with_reducible refine Kd.C_alloc ?_ _) | (with_reducible refine Kd.C_drewN ?_ _) | (with_reducible refine Kd.C_drew ?_))); (case side2 => exact HC0.out); (case side3 => repeat (first | exact (Kd.C_below HR2.out HB.out) | (with_reducible refine Kd.C_alloc ?_ _) | (with_reducible refine Kd.C_drewN ?_ _) | (with_reducible refine Kd.C_drew ?_))); (case side4 => exact HC2.out); rintro e w' ⟨rfl, ⟨nd, rfl⟩⟩; refine ⟨_, rfl, ?_⟩) | (go_at_call 21; (with_reducible refine (clocheref03_IsShop.calls k _ _ l0 t510 _ ?side1 ?side2 A7.out).mono ?_); (case side1 => repeat (first | exact (Kd.C_below HR0.out (by repeat (first | (with_reducible first | exact HB.out | apply below_alloc | apply pw_below_drewN | apply below_drew1) | exact HB.out))) | (with_reducible refine Kd.C_alloc ?_ _) | (with_reducible refine Kd.C_drewN ?_ _) | (with_reducible refine Kd.C_drew ?_))); (case side2 => exact HC0.out); rintro e w' ⟨rfl, ⟨nd, rfl⟩⟩))
      go_meet
      case rel => exact ⟨_, (!t510), (by first | rfl | (simp; done) | (simp [*]; done)), H', ⟨by first | omega | exact Nat.le_refl _⟩, ⟨by repeat (first | (with_reducible first | exact HB.out | apply below_alloc | apply pw_below_drewN | apply below_drew1) | exact HB.out)⟩⟩
    · replace c6 := Bool.eq_false_iff.mpr c6
      subst c6
      have H1 : (clochelaw03_VisitsTutte.j0 k l0 a1 l2 true) = some r := by rw [if_neg (show ¬ (false = true) by decide)] at H; exact H
      clear H
      have H := H1
      clear H1
      have H' := Aside0.mk H
      clear H
      go_wp2_with (first | ((with_reducible refine gate_callee (f := 15) rfl ?_); refine goesL_ (some 21) rfl rfl Tryd.func15 (by kernel_rfl) rfl #[.slice A0 l0.length c0, .slice A2 l2.length c2] rfl (by (try simp only [List.map_toArray, List.map_cons, List.map_nil]); first | done | rfl | (simp only [List.length_drop, List.length_take]; rfl)) ?_; (with_reducible refine (clochelaw03_few.calls _ _ l0 _ _ l2 false _ ?side1 ?side2 ?side3 ?side4 A5.out).mono ?_); (case side1 => repeat (first | exact (Kd.C_below HR0.out HB.out) | (with_reducible refine Kd.C_alloc ?_ _) | (with_reducible refine Kd.C_drewN ?_ _) | (with_reducible refine Kd.C_drew ?_))); (case side2 => exact HC0.out); (case side3 => repeat (first | exact (Kd.C_below HR2.out HB.out) | (with_reducible refine Kd.C_alloc ?_ _) | (with_reducible refine Kd.C_drewN ?_ _) | (with_reducible refine Kd.C_drew ?_))); (case side4 => exact HC2.out); rintro e w' ⟨rfl, ⟨nd, rfl⟩⟩; refine ⟨_, rfl, ?_⟩))
      go_meet
      case rel => exact ⟨_, (true), (by first | rfl | (simp; done) | (simp [*]; done)), H', ⟨by first | omega | exact Nat.le_refl _⟩, ⟨by repeat (first | (with_reducible first | exact HB.out | apply below_alloc | apply pw_below_drewN | apply below_drew1) | exact HB.out)⟩⟩
  case rest =>
    clear HC4
    try clear c1
    try clear c2
    try clear p2
    try clear c6
    obtain ⟨kq, x27_3, rfl, HA, HJ3, HB⟩ := hcut
    cases kq with
    | zero => exact absurd HA.out (by simp [clochelaw03_VisitsTutte.j0])
    | succ kj3 =>
      have H := HA.out
      clear HA
      simp only [clochelaw03_VisitsTutte.j0] at H
      by_cases c8 : x27_3 = true
      · subst c8
        have H1 : ((clochelaw03_alive.f kj3).bind fun t511 => (some t511)) = some r := by rw [if_pos rfl] at H; exact H
        clear H
        have H := H1
        clear H1
        replace H := Option.bind_eq_some_iff.mp H
        obtain ⟨t511, A90, H⟩ := H
        replace H : (some t511) = some r := H
        have A9 := Aside0.mk A90
        clear A90
        obtain rfl := Option.some.inj H
        go_wp2_with (first | ((with_reducible refine gate_callee (f := 16) rfl ?_); refine goesL_ (some 28) rfl rfl Tryd.func16 (by kernel_rfl) rfl #[] rfl (by (try simp only [List.map_toArray, List.map_cons, List.map_nil]); first | done | rfl | (simp only [List.length_drop, List.length_take]; rfl)) ?_; (with_reducible refine (clochelaw03_alive.calls kj3  t511 _ A9.out (by repeat (first | exact HT0.out | exact tabB HT0.out HB.out | (refine tab_alloc ?_ _) | (refine tab_drewN ?_ _) | (refine tab_drew ?_)))).mono ?_); rintro e w10 ⟨rfl, hb⟩; refine ⟨_, rfl, ?_⟩; have n0_ := Aside0.mk (below_step (by repeat (first | (with_reducible first | exact HB.out | apply below_alloc | apply pw_below_drewN | apply below_drew1) | exact HB.out)) hb); clear HB; have HB := n0_; clear n0_; (try clear hb); (try clear hb2); (try clear hk); (try clear hi)))
        go_ret
        exact ⟨by first | rfl | (simp [errW_none, errW_some] <;> rfl) | (simp [*, errW_none, errW_some] <;> rfl), by repeat (first | (with_reducible first | exact HB.out | apply below_alloc | apply pw_below_drewN | apply below_drew1) | exact HB.out)⟩
      · replace c8 := Bool.eq_false_iff.mpr c8
        subst c8
        have H1 : ((visits_Largest.f kj3 l0).bind fun bt512 => ((visits_Barrier.f kj3 l0).bind fun bt516 => ((visits_Odd.f kj3 l0 bt516.1).bind fun bt519 => (if (shl .i64 1 (l0.length : Int)) = 0 then (none) else ((visits_Odd.f kj3 l0 (Int.tmod (wrap64 (a1)) (shl .i64 1 (l0.length : Int)))).bind fun bt521 => ((visits_IsMatching.f kj3 l0 bt512.1).bind fun bt523 => (if bt512.2 = 0 then (if bt516.2.2 = 0 then (if bt519.2 = 0 then (if bt521.2 = 0 then (if bt523.2 = 0 then (if bt523.1 = true then (if (wrap64 ((l0.length : Int) - (wrap64 (2 * (bt512.1.length : Int))))) = bt516.2.1 then ((clocheref03_Size.f kj3 bt516.1).bind fun t525 => (if (wrap64 (bt519.1 - t525)) = bt516.2.1 then ((clocheref03_Size.f kj3 (Int.tmod (wrap64 (a1)) (shl .i64 1 (l0.length : Int)))).bind fun t526 => (clochelaw03_VisitsTutte.j1 kj3 l0 l2 bt512.1 (decide ((wrap64 (bt521.1 - t526)) > bt516.2.1)))) else (none))) else (none)) else (none)) else (none)) else (none)) else (none)) else (none)) else (none)))))))) = some r := by rw [if_neg (show ¬ (false = true) by decide)] at H; exact H
        clear H
        have H := H1
        clear H1
        replace H := Option.bind_eq_some_iff.mp H
        obtain ⟨⟨t512, t513⟩, A110, H⟩ := H
        replace H : ((visits_Barrier.f kj3 l0).bind fun bt516 => ((visits_Odd.f kj3 l0 bt516.1).bind fun bt519 => (if (shl .i64 1 (l0.length : Int)) = 0 then (none) else ((visits_Odd.f kj3 l0 (Int.tmod (wrap64 (a1)) (shl .i64 1 (l0.length : Int)))).bind fun bt521 => ((visits_IsMatching.f kj3 l0 t512).bind fun bt523 => (if t513 = 0 then (if bt516.2.2 = 0 then (if bt519.2 = 0 then (if bt521.2 = 0 then (if bt523.2 = 0 then (if bt523.1 = true then (if (wrap64 ((l0.length : Int) - (wrap64 (2 * (t512.length : Int))))) = bt516.2.1 then ((clocheref03_Size.f kj3 bt516.1).bind fun t525 => (if (wrap64 (bt519.1 - t525)) = bt516.2.1 then ((clocheref03_Size.f kj3 (Int.tmod (wrap64 (a1)) (shl .i64 1 (l0.length : Int)))).bind fun t526 => (clochelaw03_VisitsTutte.j1 kj3 l0 l2 t512 (decide ((wrap64 (bt521.1 - t526)) > bt516.2.1)))) else (none))) else (none)) else (none)) else (none)) else (none)) else (none)) else (none)) else (none))))))) = some r := H
        have A11 := Aside0.mk A110
        clear A110
        replace H := Option.bind_eq_some_iff.mp H
        obtain ⟨⟨t516, t517, t518⟩, A120, H⟩ := H
        replace H : ((visits_Odd.f kj3 l0 t516).bind fun bt519 => (if (shl .i64 1 (l0.length : Int)) = 0 then (none) else ((visits_Odd.f kj3 l0 (Int.tmod (wrap64 (a1)) (shl .i64 1 (l0.length : Int)))).bind fun bt521 => ((visits_IsMatching.f kj3 l0 t512).bind fun bt523 => (if t513 = 0 then (if t518 = 0 then (if bt519.2 = 0 then (if bt521.2 = 0 then (if bt523.2 = 0 then (if bt523.1 = true then (if (wrap64 ((l0.length : Int) - (wrap64 (2 * (t512.length : Int))))) = t517 then ((clocheref03_Size.f kj3 t516).bind fun t525 => (if (wrap64 (bt519.1 - t525)) = t517 then ((clocheref03_Size.f kj3 (Int.tmod (wrap64 (a1)) (shl .i64 1 (l0.length : Int)))).bind fun t526 => (clochelaw03_VisitsTutte.j1 kj3 l0 l2 t512 (decide ((wrap64 (bt521.1 - t526)) > t517)))) else (none))) else (none)) else (none)) else (none)) else (none)) else (none)) else (none)) else (none)))))) = some r := H
        have A12 := Aside0.mk A120
        clear A120
        replace H := Option.bind_eq_some_iff.mp H
        obtain ⟨⟨t519, t520⟩, A130, H⟩ := H
        replace H : (if (shl .i64 1 (l0.length : Int)) = 0 then (none) else ((visits_Odd.f kj3 l0 (Int.tmod (wrap64 (a1)) (shl .i64 1 (l0.length : Int)))).bind fun bt521 => ((visits_IsMatching.f kj3 l0 t512).bind fun bt523 => (if t513 = 0 then (if t518 = 0 then (if t520 = 0 then (if bt521.2 = 0 then (if bt523.2 = 0 then (if bt523.1 = true then (if (wrap64 ((l0.length : Int) - (wrap64 (2 * (t512.length : Int))))) = t517 then ((clocheref03_Size.f kj3 t516).bind fun t525 => (if (wrap64 (t519 - t525)) = t517 then ((clocheref03_Size.f kj3 (Int.tmod (wrap64 (a1)) (shl .i64 1 (l0.length : Int)))).bind fun t526 => (clochelaw03_VisitsTutte.j1 kj3 l0 l2 t512 (decide ((wrap64 (bt521.1 - t526)) > t517)))) else (none))) else (none)) else (none)) else (none)) else (none)) else (none)) else (none)) else (none))))) = some r := H
        have A13 := Aside0.mk A130
        clear A130
        obtain ⟨ji14, hji14⟩ : ∃ j_ : Int, (shl .i64 1 (l0.length : Int)) = j_ := ⟨_, rfl⟩
        replace H : (if (ji14) = 0 then (none) else ((visits_Odd.f kj3 l0 (Int.tmod (wrap64 (a1)) (ji14))).bind fun bt521 => ((visits_IsMatching.f kj3 l0 t512).bind fun bt523 => (if t513 = 0 then (if t518 = 0 then (if t520 = 0 then (if bt521.2 = 0 then (if bt523.2 = 0 then (if bt523.1 = true then (if (wrap64 ((l0.length : Int) - (wrap64 (2 * (t512.length : Int))))) = t517 then ((clocheref03_Size.f kj3 t516).bind fun t525 => (if (wrap64 (t519 - t525)) = t517 then ((clocheref03_Size.f kj3 (Int.tmod (wrap64 (a1)) (ji14))).bind fun t526 => (clochelaw03_VisitsTutte.j1 kj3 l0 l2 t512 (decide ((wrap64 (bt521.1 - t526)) > t517)))) else (none))) else (none)) else (none)) else (none)) else (none)) else (none)) else (none)) else (none))))) = some r := by first | (rw [hji14] at H; exact H) | (simp only [hji14] at H ⊢; exact H)
        (try rw [hji14] at A11)
        (try rw [hji14] at A12)
        (try rw [hji14] at A13)
        have hji14_ : (IntKind.i64.wrap (1 * 2 ^ min (l0.length : Int).toNat 64)) = ji14 := hji14
        have hji14z : (l0.length : Int) ≤ 64 → (IntKind.i64.wrap (1 * 2 ^ (l0.length : Int).toNat)) = ji14 := shl_small hji14
        have hji14p : (IntKind.i64.wrap (1 * 2 ^ min l0.length 64)) = ji14 := hji14_
        have hji14q : (l0.length : Int) ≤ 64 → (IntKind.i64.wrap (1 * 2 ^ l0.length)) = ji14 := hji14z
        have hji14r : (IntKind.i64.wrap (2 ^ min l0.length 64)) = ji14 := by have h_ := hji14p; rw [Int.one_mul] at h_; exact h_
        have hji14s : (l0.length : Int) ≤ 64 → (IntKind.i64.wrap (2 ^ l0.length)) = ji14 := fun hle_ => by have h_ := hji14q hle_; rw [Int.one_mul] at h_; exact h_
        have hji14u : (IntKind.i64.wrap (2 ^ min (l0.length : Int).toNat 64)) = ji14 := by have h_ := hji14_; rw [Int.one_mul] at h_; exact h_
        have hji14v : (l0.length : Int) ≤ 64 → (IntKind.i64.wrap (2 ^ (l0.length : Int).toNat)) = ji14 := fun hle_ => by have h_ := hji14z hle_; rw [Int.one_mul] at h_; exact h_
        have hji14y : (wrap64 (1 * 2 ^ min (l0.length : Int).toNat 64)) = ji14 := (i64_w _).symm.trans hji14_
        have hji14x : (l0.length : Int) ≤ 64 → (wrap64 (1 * 2 ^ (l0.length : Int).toNat)) = ji14 := fun h_ => (i64_w _).symm.trans (hji14z h_)
        by_cases c15 : (ji14) = 0
        · rw [if_pos c15] at H
          exact absurd H (by simp)
        · rw [if_neg c15] at H
          have c15b0 : ((ji14) == 0) = false := beq_eq_false_iff_ne.mpr c15
          have c15b1 : ((ji14) != 0) = true := bne_iff_ne.mpr c15
          replace H := Option.bind_eq_some_iff.mp H
          obtain ⟨⟨t521, t522⟩, A160, H⟩ := H
          replace H : ((visits_IsMatching.f kj3 l0 t512).bind fun bt523 => (if t513 = 0 then (if t518 = 0 then (if t520 = 0 then (if t522 = 0 then (if bt523.2 = 0 then (if bt523.1 = true then (if (wrap64 ((l0.length : Int) - (wrap64 (2 * (t512.length : Int))))) = t517 then ((clocheref03_Size.f kj3 t516).bind fun t525 => (if (wrap64 (t519 - t525)) = t517 then ((clocheref03_Size.f kj3 (Int.tmod (wrap64 (a1)) (ji14))).bind fun t526 => (clochelaw03_VisitsTutte.j1 kj3 l0 l2 t512 (decide ((wrap64 (t521 - t526)) > t517)))) else (none))) else (none)) else (none)) else (none)) else (none)) else (none)) else (none)) else (none))) = some r := H
          have A16 := Aside0.mk A160
          clear A160
          replace H := Option.bind_eq_some_iff.mp H
          obtain ⟨⟨t523, t524⟩, A170, H⟩ := H
          replace H : (if t513 = 0 then (if t518 = 0 then (if t520 = 0 then (if t522 = 0 then (if t524 = 0 then (if t523 = true then (if (wrap64 ((l0.length : Int) - (wrap64 (2 * (t512.length : Int))))) = t517 then ((clocheref03_Size.f kj3 t516).bind fun t525 => (if (wrap64 (t519 - t525)) = t517 then ((clocheref03_Size.f kj3 (Int.tmod (wrap64 (a1)) (ji14))).bind fun t526 => (clochelaw03_VisitsTutte.j1 kj3 l0 l2 t512 (decide ((wrap64 (t521 - t526)) > t517)))) else (none))) else (none)) else (none)) else (none)) else (none)) else (none)) else (none)) else (none)) = some r := H
          have A17 := Aside0.mk A170
          clear A170
          have HC18 := Aside0.mk H
          clear H
          go_upto_region 9 with (first | ((with_reducible refine gate_callee (f := 22) rfl ?_); refine goesL_ (some 33) rfl rfl Tryd.func22 (by kernel_rfl) rfl #[.slice A0 l0.length c0] rfl (by (try simp only [List.map_toArray, List.map_cons, List.map_nil]); first | done | rfl | (simp only [List.length_drop, List.length_take]; rfl)) ?_; (with_reducible refine (visits_Largest.calls kj3 _ _ l0 t512 t513 _ ?side1 ?side2 A11.out (by repeat (first | exact HT0.out | exact tabB HT0.out HB.out | (refine tab_alloc ?_ _) | (refine tab_drewN ?_ _) | (refine tab_drew ?_)))).mono ?_); (case side1 => repeat (first | exact (Kd.C_below HR0.out HB.out) | (with_reducible refine Kd.C_alloc ?_ _) | (with_reducible refine Kd.C_drewN ?_ _) | (with_reducible refine Kd.C_drew ?_))); (case side2 => exact HC0.out); rintro e w19 ⟨v514, rfl, ho0, hb⟩; refine ⟨_, rfl, ?_⟩; have n0_ := Aside0.mk (Kd.R_lower ho0 (below_size (by repeat (first | (with_reducible first | exact HB.out | apply below_alloc | apply pw_below_drewN | apply below_drew1) | exact HB.out)))); have n1_ := Aside0.mk (below_step (by repeat (first | (with_reducible first | exact HB.out | apply below_alloc | apply pw_below_drewN | apply below_drew1) | exact HB.out)) hb); clear HB; have HO515 := n0_; have HB := n1_; clear n0_ n1_; (try clear hb); (try clear hb2); (try clear hk); (try clear hi); (try clear ho0)) | ((with_reducible refine gate_callee (f := 35) rfl ?_); refine goesL_ (some 38) rfl rfl Tryd.func35 (by kernel_rfl) rfl #[.slice A0 l0.length c0] rfl (by (try simp only [List.map_toArray, List.map_cons, List.map_nil]); first | done | rfl | (simp only [List.length_drop, List.length_take]; rfl)) ?_; (with_reducible refine (visits_Barrier.calls kj3 _ _ l0 t516 t517 t518 _ ?side1 ?side2 A12.out).mono ?_); (case side1 => repeat (first | exact (Kd.C_below HR0.out HB.out) | (with_reducible refine Kd.C_alloc ?_ _) | (with_reducible refine Kd.C_drewN ?_ _) | (with_reducible refine Kd.C_drew ?_))); (case side2 => exact HC0.out); rintro e w20 ⟨rfl, hb⟩; refine ⟨_, rfl, ?_⟩; have n0_ := Aside0.mk (Kd.R_below (by (with_reducible repeat (first | apply Kd.R_alloc | apply Kd.R_drewN | apply Kd.R_drew)); exact HO515.out) hb); have n1_ := Aside0.mk (below_step (by repeat (first | (with_reducible first | exact HB.out | apply below_alloc | apply pw_below_drewN | apply below_drew1) | exact HB.out)) hb); clear HO515; clear HB; have HO515 := n0_; have HB := n1_; clear n0_ n1_; (try clear hb); (try clear hb2); (try clear hk); (try clear hi)) | ((with_reducible refine gate_callee (f := 33) rfl ?_); refine goesL_ (some 45) rfl rfl Tryd.func33 (by kernel_rfl) rfl #[.slice A0 l0.length c0, .int .i64 t516] rfl (by (try simp only [List.map_toArray, List.map_cons, List.map_nil]); first | done | rfl | (simp only [List.length_drop, List.length_take]; rfl)) ?_; (with_reducible refine (visits_Odd.calls kj3 _ _ l0 t516 t519 t520 _ ?side1 ?side2 A13.out).mono ?_); (case side1 => repeat (first | exact (Kd.C_below HR0.out HB.out) | (with_reducible refine Kd.C_alloc ?_ _) | (with_reducible refine Kd.C_drewN ?_ _) | (with_reducible refine Kd.C_drew ?_))); (case side2 => exact HC0.out); rintro e w21 ⟨rfl, hb⟩; refine ⟨_, rfl, ?_⟩; have n0_ := Aside0.mk (Kd.R_below (by (with_reducible repeat (first | apply Kd.R_alloc | apply Kd.R_drewN | apply Kd.R_drew)); exact HO515.out) hb); have n1_ := Aside0.mk (below_step (by repeat (first | (with_reducible first | exact HB.out | apply below_alloc | apply pw_below_drewN | apply below_drew1) | exact HB.out)) hb); clear HO515; clear HB; have HO515 := n0_; have HB := n1_; clear n0_ n1_; (try clear hb); (try clear hb2); (try clear hk); (try clear hi)) | ((with_reducible refine gate_callee (f := 33) rfl ?_); refine goesL_ (some 55) rfl rfl Tryd.func33 (by kernel_rfl) rfl #[.slice A0 l0.length c0, .int .i64 (Int.tmod (wrap64 (a1)) (ji14))] rfl (by (try simp only [List.map_toArray, List.map_cons, List.map_nil]); first | done | (simp only [hji14]; rfl) | rfl | (simp only [List.length_drop, List.length_take]; rfl)) ?_; (with_reducible refine (visits_Odd.calls kj3 _ _ l0 (Int.tmod (wrap64 (a1)) (ji14)) t521 t522 _ ?side1 ?side2 A16.out).mono ?_); (case side1 => repeat (first | exact (Kd.C_below HR0.out HB.out) | (with_reducible refine Kd.C_alloc ?_ _) | (with_reducible refine Kd.C_drewN ?_ _) | (with_reducible refine Kd.C_drew ?_))); (case side2 => exact HC0.out); rintro e w22 ⟨rfl, hb⟩; refine ⟨_, rfl, ?_⟩; have n0_ := Aside0.mk (Kd.R_below (by (with_reducible repeat (first | apply Kd.R_alloc | apply Kd.R_drewN | apply Kd.R_drew)); exact HO515.out) hb); have n1_ := Aside0.mk (below_step (by repeat (first | (with_reducible first | exact HB.out | apply below_alloc | apply pw_below_drewN | apply below_drew1) | exact HB.out)) hb); clear HO515; clear HB; have HO515 := n0_; have HB := n1_; clear n0_ n1_; (try clear hb); (try clear hb2); (try clear hk); (try clear hi); obtain ⟨Ao23, co23, eo23⟩ := Kd.R_slice HO515.out; subst eo23) | ((with_reducible refine gate_callee (f := 28) rfl ?_); refine goesL_ (some 61) rfl rfl Tryd.func28 (by kernel_rfl) rfl #[.slice A0 l0.length c0, .slice Ao23 t512.length co23] rfl (by (try simp only [List.map_toArray, List.map_cons, List.map_nil]); first | done | rfl | (simp only [List.length_drop, List.length_take]; rfl)) ?_; (with_reducible refine (visits_IsMatching.calls kj3 _ _ l0 _ _ t512 t523 t524 _ ?side1 ?side2 ?side3 ?side4 A17.out).mono ?_); (case side1 => repeat (first | exact (Kd.C_below HR0.out HB.out) | (with_reducible refine Kd.C_alloc ?_ _) | (with_reducible refine Kd.C_drewN ?_ _) | (with_reducible refine Kd.C_drew ?_))); (case side2 => exact HC0.out); (case side3 => repeat (first | exact (Kd.R_reads' HO515.out).2.2 | (with_reducible refine Kd.C_alloc ?_ _) | (with_reducible refine Kd.C_drewN ?_ _) | (with_reducible refine Kd.C_drew ?_))); (case side4 => exact (Kd.R_reads' HO515.out).2.1); rintro e w24 ⟨rfl, hb⟩; refine ⟨_, rfl, ?_⟩; have n0_ := Aside0.mk (Kd.R_below (by (with_reducible repeat (first | apply Kd.R_alloc | apply Kd.R_drewN | apply Kd.R_drew)); exact HO515.out) hb); have n1_ := Aside0.mk (below_step (by repeat (first | (with_reducible first | exact HB.out | apply below_alloc | apply pw_below_drewN | apply below_drew1) | exact HB.out)) hb); clear HO515; clear HB; have HO515 := n0_; have HB := n1_; clear n0_ n1_; (try clear hb); (try clear hb2); (try clear hk); (try clear hi)))
          (try simp only [Act.put, List.setIfInBounds_toArray, List.set_cons_zero, List.set_cons_succ])
          go_cut [114] (fun v114 wc => ∃ (kq : Nat) (x114_17 : Bool), v114 = .bool x114_17 ∧ Aside0 (clochelaw03_VisitsTutte.j1 kq l0 l2 t512 x114_17 = some r) ∧ Aside0 (kq ≤ kj3) ∧ Aside0 (Kd.R k43 43 wc w.heap.size (fun _ => True) (.slice Ao23 t512.length co23) t512) ∧ Aside0 (Below w.heap.size w wc))
          case first =>
            have H := HC18.out
            clear HC18
            by_cases c25 : t513 = 0
            · rw [if_pos c25] at H
              have c25b0 : (t513 == 0) = true := beq_iff_eq.mpr c25
              have c25b1 : (t513 != 0) = false := bne_eq_false_iff_eq.mpr c25
              clear c25
              (first | rw [c25b0] | (simp only [i64_w, i32_w]; rw [c25b0]) | skip)
              by_cases c26 : t518 = 0
              · rw [if_pos c26] at H
                have c26b0 : (t518 == 0) = true := beq_iff_eq.mpr c26
                have c26b1 : (t518 != 0) = false := bne_eq_false_iff_eq.mpr c26
                clear c26
                by_cases c27 : t520 = 0
                · rw [if_pos c27] at H
                  have c27b0 : (t520 == 0) = true := beq_iff_eq.mpr c27
                  have c27b1 : (t520 != 0) = false := bne_eq_false_iff_eq.mpr c27
                  clear c27
                  by_cases c28 : t522 = 0
                  · rw [if_pos c28] at H
                    have c28b0 : (t522 == 0) = true := beq_iff_eq.mpr c28
                    have c28b1 : (t522 != 0) = false := bne_eq_false_iff_eq.mpr c28
                    clear c28
                    by_cases c29 : t524 = 0
                    · rw [if_pos c29] at H
                      have c29b0 : (t524 == 0) = true := beq_iff_eq.mpr c29
                      have c29b1 : (t524 != 0) = false := bne_eq_false_iff_eq.mpr c29
                      clear c29
                      by_cases c30 : t523 = true
                      · subst c30
                        have H1 : (if (wrap64 ((l0.length : Int) - (wrap64 (2 * (t512.length : Int))))) = t517 then ((clocheref03_Size.f kj3 t516).bind fun t525 => (if (wrap64 (t519 - t525)) = t517 then ((clocheref03_Size.f kj3 (Int.tmod (wrap64 (a1)) (ji14))).bind fun t526 => (clochelaw03_VisitsTutte.j1 kj3 l0 l2 t512 (decide ((wrap64 (t521 - t526)) > t517)))) else (none))) else (none)) = some r := by rw [if_pos rfl] at H; exact H
                        clear H
                        have H := H1
                        clear H1
                        by_cases c31 : (wrap64 ((l0.length : Int) - (wrap64 (2 * (t512.length : Int))))) = t517
                        · rw [if_pos c31] at H
                          have c31b0 : ((wrap64 ((l0.length : Int) - (wrap64 (2 * (t512.length : Int))))) == t517) = true := beq_iff_eq.mpr c31
                          have c31b1 : ((wrap64 ((l0.length : Int) - (wrap64 (2 * (t512.length : Int))))) != t517) = false := bne_eq_false_iff_eq.mpr c31
                          clear c31
                          replace H := Option.bind_eq_some_iff.mp H
                          obtain ⟨t525, A320, H⟩ := H
                          replace H : (if (wrap64 (t519 - t525)) = t517 then ((clocheref03_Size.f kj3 (Int.tmod (wrap64 (a1)) (ji14))).bind fun t526 => (clochelaw03_VisitsTutte.j1 kj3 l0 l2 t512 (decide ((wrap64 (t521 - t526)) > t517)))) else (none)) = some r := H
                          have A32 := Aside0.mk A320
                          clear A320
                          by_cases c33 : (wrap64 (t519 - t525)) = t517
                          · rw [if_pos c33] at H
                            have c33b0 : ((wrap64 (t519 - t525)) == t517) = true := beq_iff_eq.mpr c33
                            have c33b1 : ((wrap64 (t519 - t525)) != t517) = false := bne_eq_false_iff_eq.mpr c33
                            clear c33
                            replace H := Option.bind_eq_some_iff.mp H
                            obtain ⟨t526, A350, H⟩ := H
                            replace H : (clochelaw03_VisitsTutte.j1 kj3 l0 l2 t512 (decide ((wrap64 (t521 - t526)) > t517))) = some r := H
                            have A35 := Aside0.mk A350
                            clear A350
                            have H' := Aside0.mk H
                            clear H
                            go_wp2_with (first | (go_at_call 29; (with_reducible refine (clocheref03_Size.calls kj3 t516 t525 _ A32.out).mono ?_); rintro e w' ⟨rfl, ⟨nd, rfl⟩⟩) | (go_at_call 29; (with_reducible refine (clocheref03_Size.calls kj3 (Int.tmod (wrap64 (a1)) (ji14)) t526 _ A35.out).mono ?_); rintro e w' ⟨rfl, ⟨nd, rfl⟩⟩))
                            go_meet
                            case rel => exact ⟨_, (decide ((wrap64 (t521 - t526)) > t517)), (by first | rfl | (simp; done) | (simp [*]; done)), H', ⟨by have := HJ3.out; first | omega | exact Nat.le_refl _⟩, ⟨by (with_reducible repeat (first | apply Kd.R_alloc | apply Kd.R_drewN | apply Kd.R_drew)); exact HO515.out⟩, ⟨by repeat (first | (with_reducible first | exact HB.out | apply below_alloc | apply pw_below_drewN | apply below_drew1) | exact HB.out)⟩⟩
                          · rw [if_neg c33] at H
                            exact absurd H (by simp)
                        · rw [if_neg c31] at H
                          exact absurd H (by simp)
                      · replace c30 := Bool.eq_false_iff.mpr c30
                        subst c30
                        have H1 : (none) = some r := by rw [if_neg (show ¬ (false = true) by decide)] at H; exact H
                        clear H
                        have H := H1
                        clear H1
                        exact absurd H (by simp)
                    · rw [if_neg c29] at H
                      exact absurd H (by simp)
                  · rw [if_neg c28] at H
                    exact absurd H (by simp)
                · rw [if_neg c27] at H
                  exact absurd H (by simp)
              · rw [if_neg c26] at H
                exact absurd H (by simp)
            · rw [if_neg c25] at H
              exact absurd H (by simp)
          case rest =>
            clear HC18
            try clear c1
            try clear c2
            try clear p2
            try clear c3
            try clear c6
            try clear p6
            try clear c8
            try clear c14
            try clear c15
            try clear c15b0
            try clear c15b1
            try clear c16
            try clear c22
            try clear c25
            try clear c25b0
            try clear c25b1
            try clear c26
            try clear c26b0
            try clear c26b1
            try clear c27
            try clear c27b0
            try clear c27b1
            try clear c28
            try clear c28b0
            try clear c28b1
            try clear c29
            try clear c29b0
            try clear c29b1
            try clear c30
            try clear c31
            try clear c31b0
            try clear c31b1
            try clear c33
            try clear c33b0
            try clear c33b1
            try clear c34
            try clear c34b0
            try clear c35
            try clear p2
            obtain ⟨kq, x114_17, rfl, HA, HJ17, HO_8, HB⟩ := hcut
            cases kq with
            | zero => exact absurd HA.out (by simp [clochelaw03_VisitsTutte.j1])
            | succ kj17 =>
              have H := HA.out
              clear HA
              simp only [clochelaw03_VisitsTutte.j1] at H
              by_cases c36 : x114_17 = true
              · subst c36
                have H1 : (none) = some r := by rw [if_pos rfl] at H; exact H
                clear H
                have H := H1
                clear H1
                exact absurd H (by simp)
              · replace c36 := Bool.eq_false_iff.mpr c36
                subst c36
                have H1 : ((visits_IsMatching.f kj17 l0 l2).bind fun bt527 => (if bt527.2 = 0 then (if bt527.1 = true then (if (l2.length : Int) ≤ (t512.length : Int) then ((clochelaw03_alive.f kj17).bind fun t529 => (some t529)) else (none)) else ((clochelaw03_alive.f kj17).bind fun t530 => (some t530))) else (none))) = some r := by rw [if_neg (show ¬ (false = true) by decide)] at H; exact H
                clear H
                have H := H1
                clear H1
                replace H := Option.bind_eq_some_iff.mp H
                obtain ⟨⟨t527, t528⟩, A370, H⟩ := H
                replace H : (if t528 = 0 then (if t527 = true then (if (l2.length : Int) ≤ (t512.length : Int) then ((clochelaw03_alive.f kj17).bind fun t529 => (some t529)) else (none)) else ((clochelaw03_alive.f kj17).bind fun t530 => (some t530))) else (none)) = some r := H
                have A37 := Aside0.mk A370
                clear A370
                by_cases c38 : t528 = 0
                · rw [if_pos c38] at H
                  have c38b0 : (t528 == 0) = true := beq_iff_eq.mpr c38
                  have c38b1 : (t528 != 0) = false := bne_eq_false_iff_eq.mpr c38
                  clear c38
                  by_cases c39 : t527 = true
                  · subst c39
                    have H1 : (if (l2.length : Int) ≤ (t512.length : Int) then ((clochelaw03_alive.f kj17).bind fun t529 => (some t529)) else (none)) = some r := by rw [if_pos rfl] at H; exact H
                    clear H
                    have H := H1
                    clear H1
                    by_cases c40 : (l2.length : Int) ≤ (t512.length : Int)
                    · rw [if_pos c40] at H
                      have c40b0 : decide ((l2.length : Int) ≤ (t512.length : Int)) = true := decide_eq_true c40
                      have c40b1 : decide (l2.length ≤ t512.length) = true := decide_eq_true (Int.ofNat_le.mp c40)
                      clear c40
                      replace H := Option.bind_eq_some_iff.mp H
                      obtain ⟨t529, A410, H⟩ := H
                      replace H : (some t529) = some r := H
                      have A41 := Aside0.mk A410
                      clear A410
                      obtain rfl := Option.some.inj H
                      go_wp2_with (first | ((with_reducible refine gate_callee (f := 28) rfl ?_); refine goesL_ (some 118) rfl rfl Tryd.func28 (by kernel_rfl) rfl #[.slice A0 l0.length c0, .slice A2 l2.length c2] rfl (by (try simp only [List.map_toArray, List.map_cons, List.map_nil]); first | done | rfl | (simp only [List.length_drop, List.length_take]; rfl)) ?_; (with_reducible refine (visits_IsMatching.calls kj17 _ _ l0 _ _ l2 true t528 _ ?side1 ?side2 ?side3 ?side4 A37.out).mono ?_); (case side1 => repeat (first | exact (Kd.C_below HR0.out HB.out) | (with_reducible refine Kd.C_alloc ?_ _) | (with_reducible refine Kd.C_drewN ?_ _) | (with_reducible refine Kd.C_drew ?_))); (case side2 => exact HC0.out); (case side3 => repeat (first | exact (Kd.C_below HR2.out HB.out) | (with_reducible refine Kd.C_alloc ?_ _) | (with_reducible refine Kd.C_drewN ?_ _) | (with_reducible refine Kd.C_drew ?_))); (case side4 => exact HC2.out); rintro e w42 ⟨rfl, hb⟩; refine ⟨_, rfl, ?_⟩; have n0_ := Aside0.mk (Kd.R_below (by (with_reducible repeat (first | apply Kd.R_alloc | apply Kd.R_drewN | apply Kd.R_drew)); exact HO_8.out) hb); have n1_ := Aside0.mk (below_step (by repeat (first | (with_reducible first | exact HB.out | apply below_alloc | apply pw_below_drewN | apply below_drew1) | exact HB.out)) hb); clear HO_8; clear HB; have HO_8 := n0_; have HB := n1_; clear n0_ n1_; (try clear hb); (try clear hb2); (try clear hk); (try clear hi)) | (go_at_call 16; (with_reducible refine (clochelaw03_alive.calls kj17  t529 _ A41.out (by repeat (first | exact HT0.out | exact tabB HT0.out HB.out | (refine tab_alloc ?_ _) | (refine tab_drewN ?_ _) | (refine tab_drew ?_)))).mono ?_); rintro e w43 ⟨rfl, hb⟩; have n0_ := Aside0.mk (Kd.R_below (by (with_reducible repeat (first | apply Kd.R_alloc | apply Kd.R_drewN | apply Kd.R_drew)); exact HO_8.out) hb); have n1_ := Aside0.mk (below_step (by repeat (first | (with_reducible first | exact HB.out | apply below_alloc | apply pw_below_drewN | apply below_drew1) | exact HB.out)) hb); clear HO_8; clear HB; have HO_8 := n0_; have HB := n1_; clear n0_ n1_; (try clear hb); (try clear hb2); (try clear hk); (try clear hi)))
                      go_ret
                      exact ⟨by first | rfl | (simp [errW_none, errW_some] <;> rfl) | (simp only [← hji14]; first | rfl | (simp [errW_none, errW_some] <;> rfl)) | (simp [*, errW_none, errW_some] <;> rfl), by repeat (first | (with_reducible first | exact HB.out | apply below_alloc | apply pw_below_drewN | apply below_drew1) | exact HB.out)⟩
                    · rw [if_neg c40] at H
                      exact absurd H (by simp)
                  · replace c39 := Bool.eq_false_iff.mpr c39
                    subst c39
                    have H1 : ((clochelaw03_alive.f kj17).bind fun t530 => (some t530)) = some r := by rw [if_neg (show ¬ (false = true) by decide)] at H; exact H
                    clear H
                    have H := H1
                    clear H1
                    replace H := Option.bind_eq_some_iff.mp H
                    obtain ⟨t530, A440, H⟩ := H
                    replace H : (some t530) = some r := H
                    have A44 := Aside0.mk A440
                    clear A440
                    obtain rfl := Option.some.inj H
                    go_wp2_with (first | ((with_reducible refine gate_callee (f := 28) rfl ?_); refine goesL_ (some 118) rfl rfl Tryd.func28 (by kernel_rfl) rfl #[.slice A0 l0.length c0, .slice A2 l2.length c2] rfl (by (try simp only [List.map_toArray, List.map_cons, List.map_nil]); first | done | rfl | (simp only [List.length_drop, List.length_take]; rfl)) ?_; (with_reducible refine (visits_IsMatching.calls kj17 _ _ l0 _ _ l2 false t528 _ ?side1 ?side2 ?side3 ?side4 A37.out).mono ?_); (case side1 => repeat (first | exact (Kd.C_below HR0.out HB.out) | (with_reducible refine Kd.C_alloc ?_ _) | (with_reducible refine Kd.C_drewN ?_ _) | (with_reducible refine Kd.C_drew ?_))); (case side2 => exact HC0.out); (case side3 => repeat (first | exact (Kd.C_below HR2.out HB.out) | (with_reducible refine Kd.C_alloc ?_ _) | (with_reducible refine Kd.C_drewN ?_ _) | (with_reducible refine Kd.C_drew ?_))); (case side4 => exact HC2.out); rintro e w45 ⟨rfl, hb⟩; refine ⟨_, rfl, ?_⟩; have n0_ := Aside0.mk (Kd.R_below (by (with_reducible repeat (first | apply Kd.R_alloc | apply Kd.R_drewN | apply Kd.R_drew)); exact HO_8.out) hb); have n1_ := Aside0.mk (below_step (by repeat (first | (with_reducible first | exact HB.out | apply below_alloc | apply pw_below_drewN | apply below_drew1) | exact HB.out)) hb); clear HO_8; clear HB; have HO_8 := n0_; have HB := n1_; clear n0_ n1_; (try clear hb); (try clear hb2); (try clear hk); (try clear hi)) | (go_at_call 16; (with_reducible refine (clochelaw03_alive.calls kj17  t530 _ A44.out (by repeat (first | exact HT0.out | exact tabB HT0.out HB.out | (refine tab_alloc ?_ _) | (refine tab_drewN ?_ _) | (refine tab_drew ?_)))).mono ?_); rintro e w46 ⟨rfl, hb⟩; have n0_ := Aside0.mk (Kd.R_below (by (with_reducible repeat (first | apply Kd.R_alloc | apply Kd.R_drewN | apply Kd.R_drew)); exact HO_8.out) hb); have n1_ := Aside0.mk (below_step (by repeat (first | (with_reducible first | exact HB.out | apply below_alloc | apply pw_below_drewN | apply below_drew1) | exact HB.out)) hb); clear HO_8; clear HB; have HO_8 := n0_; have HB := n1_; clear n0_ n1_; (try clear hb); (try clear hb2); (try clear hk); (try clear hi)))
                    go_ret
                    exact ⟨by first | rfl | (simp [errW_none, errW_some] <;> rfl) | (simp only [← hji14]; first | rfl | (simp [errW_none, errW_some] <;> rfl)) | (simp [*, errW_none, errW_some] <;> rfl), by repeat (first | (with_reducible first | exact HB.out | apply below_alloc | apply pw_below_drewN | apply below_drew1) | exact HB.out)⟩
                · rw [if_neg c38] at H
                  exact absurd H (by simp)

end Go.Proofs.YtadfcplobidmeaaDoor.Print
