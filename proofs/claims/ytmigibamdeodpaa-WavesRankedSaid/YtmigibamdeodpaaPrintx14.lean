/- What the functions of the waves compute, printed by this repo's hand printer. -/
import Derived.Test.YtmigibamdeodpaaPrintx0
import Derived.Test.YtmigibamdeodpaaPrintx2
import Derived.Test.YtmigibamdeodpaaPrintx4
import Derived.Test.YtmigibamdeodpaaPrintx5
import Derived.Test.YtmigibamdeodpaaPrintx6
import Derived.Test.YtmigibamdeodpaaPrintx9
import Derived.Test.YtmigibamdeodpaaPrintx10
namespace Go.Proofs.Ytmigibamdeodpaa.Print
open Go.RowKit Go.Proofs.YtmigibamdeodpaaW.PrintWords Go.Proofs.YtmigibamdeodpaaW.PrintLast Go.Proofs.YtmigibamdeodpaaW.PrintMore
attribute [local go_sem] max2_int min2_int max_two min_two max_three min_three max_four min_four   -- for this text's walks alone
set_option linter.unusedVariables false
set_option linter.unusedSimpArgs false

/-! ### clochelaw05_WavesRanked: function 6 -/
mutual
def clochelaw05_WavesRanked.j0 : Nat → Int → Int → Int → Option (Bool)
  | 0, _, _, _ => none
  | k + 1, x1, x2, x3 => (waves_Count.f (wrap64 (Int.tmod x1 11))).bind fun bt301 => (if bt301.2 = 0 then (if bt301.1 < 1 then (clochelaw05_WavesRanked.j1 k x2 x3 (wrap64 (Int.tmod x1 11)) bt301.1 true) else (clochelaw05_WavesRanked.j1 k x2 x3 (wrap64 (Int.tmod x1 11)) bt301.1 (decide (bt301.1 > 1073741824)))) else (clochelaw05_WavesRanked.j1 k x2 x3 (wrap64 (Int.tmod x1 11)) bt301.1 true))
def clochelaw05_WavesRanked.j1 : Nat → Int → Int → Int → Int → Bool → Option (Bool)
  | 0, _, _, _, _, _ => none
  | k + 1, x2, x3, x13, x14, x68 => if x68 = true then (some false) else (if x14 = 0 then (none) else ((waves_At.f k x13 (Int.tmod (wrap64 (x2)) x14)).bind fun bt303 => ((waves_At.f k x13 (Int.tmod (wrap64 (x3)) x14)).bind fun bt307 => ((waves_Rank.f k bt303.1).bind fun bt311 => ((waves_At.f k x13 x14).bind fun bt313 => (if bt303.2 = 0 then (if bt307.2 = 0 then (if bt311.2 = 0 then (if bt313.2 = 4 then (if bt311.1 = (Int.tmod (wrap64 (x2)) x14) then (if (bt303.1.length : Int) = x13 then (if (bt307.1.length : Int) = x13 then ((clocheref05_Row.f k bt303.1).bind fun t317 => (clochelaw05_WavesRanked.j2 k x13 (Int.tmod (wrap64 (x2)) x14) (Int.tmod (wrap64 (x3)) x14) bt303.1 bt307.1 (t317 != 0))) else (clochelaw05_WavesRanked.j2 k x13 (Int.tmod (wrap64 (x2)) x14) (Int.tmod (wrap64 (x3)) x14) bt303.1 bt307.1 true)) else (clochelaw05_WavesRanked.j2 k x13 (Int.tmod (wrap64 (x2)) x14) (Int.tmod (wrap64 (x3)) x14) bt303.1 bt307.1 true)) else (clochelaw05_WavesRanked.j2 k x13 (Int.tmod (wrap64 (x2)) x14) (Int.tmod (wrap64 (x3)) x14) bt303.1 bt307.1 true)) else (clochelaw05_WavesRanked.j2 k x13 (Int.tmod (wrap64 (x2)) x14) (Int.tmod (wrap64 (x3)) x14) bt303.1 bt307.1 true)) else (clochelaw05_WavesRanked.j2 k x13 (Int.tmod (wrap64 (x2)) x14) (Int.tmod (wrap64 (x3)) x14) bt303.1 bt307.1 true)) else (clochelaw05_WavesRanked.j2 k x13 (Int.tmod (wrap64 (x2)) x14) (Int.tmod (wrap64 (x3)) x14) bt303.1 bt307.1 true)) else (clochelaw05_WavesRanked.j2 k x13 (Int.tmod (wrap64 (x2)) x14) (Int.tmod (wrap64 (x3)) x14) bt303.1 bt307.1 true)))))))
def clochelaw05_WavesRanked.j2 : Nat → Int → Int → Int → List Int → List Int → Bool → Option (Bool)
  | 0, _, _, _, _, _, _ => none
  | k + 1, x13, x16, x17, x18, x19, x135 => if x135 = true then (some false) else (clochelaw05_WavesRanked.l0 k x13 x16 x17 x18 x19 0)
def clochelaw05_WavesRanked.l0 : Nat → Int → Int → Int → List Int → List Int → Int → Option (Bool)
  | 0, _, _, _, _, _, _ => none
  | k + 1, x13, x16, x17, x18, x19, x24 => if x24 < x13 then (if 0 ≤ x24 then (if x24 < (x18.length : Int) then (if x24 < (x19.length : Int) then (if (rd x18 x24) = (rd x19 x24) then (clochelaw05_WavesRanked.l0 k x13 x16 x17 x18 x19 (wrap64 (x24 + 1))) else (if ((decide ((rd x18 x24) < (rd x19 x24))) == (decide (x16 < x17))) = true then ((clochelaw05_alive.f k).bind fun t322 => (some t322)) else (some false))) else (none)) else (none)) else (none)) else (if x16 = x17 then ((clochelaw05_alive.f k).bind fun t323 => (some t323)) else (some false))
end
def clochelaw05_WavesRanked.f (k : Nat) (l0 : List Int) (a1 : Int) (a2 : Int) (a3 : Int) : Option (Bool) := if (l0.length : Int) > 60 then ((clochelaw05_alive.f k).bind fun t293 => (some t293)) else ((waves_Rank.f k l0).bind fun bt294 => (if bt294.2 = 0 then ((waves_At.f k (l0.length : Int) bt294.1).bind fun bt296 => (if bt296.2 = 0 then ((clochelaw05_same.f k bt296.1 l0).bind fun t300 => (if t300 = true then (clochelaw05_WavesRanked.j0 k a1 a2 a3) else (some false))) else (some false))) else (clochelaw05_WavesRanked.j0 k a1 a2 a3)))
theorem clochelaw05_WavesRanked.mono_l : ∀ k, (∀ y0 y1 y2, LeO (clochelaw05_WavesRanked.j0 k y0 y1 y2) (clochelaw05_WavesRanked.j0 (k + 1) y0 y1 y2)) ∧ (∀ y0 y1 y2 y3 y4, LeO (clochelaw05_WavesRanked.j1 k y0 y1 y2 y3 y4) (clochelaw05_WavesRanked.j1 (k + 1) y0 y1 y2 y3 y4)) ∧ (∀ y0 y1 y2 y3 y4 y5, LeO (clochelaw05_WavesRanked.j2 k y0 y1 y2 y3 y4 y5) (clochelaw05_WavesRanked.j2 (k + 1) y0 y1 y2 y3 y4 y5)) ∧ (∀ y0 y1 y2 y3 y4 y5, LeO (clochelaw05_WavesRanked.l0 k y0 y1 y2 y3 y4 y5) (clochelaw05_WavesRanked.l0 (k + 1) y0 y1 y2 y3 y4 y5))
  | 0 => ⟨fun _ _ _ r h => by simp [clochelaw05_WavesRanked.j0] at h, fun _ _ _ _ _ r h => by simp [clochelaw05_WavesRanked.j1] at h, fun _ _ _ _ _ _ r h => by simp [clochelaw05_WavesRanked.j2] at h, fun _ _ _ _ _ _ r h => by simp [clochelaw05_WavesRanked.l0] at h⟩
  | k + 1 => by
    obtain ⟨ih0, ih1, ih2, ih3⟩ := clochelaw05_WavesRanked.mono_l k
    refine ⟨?_, ?_, ?_, ?_⟩
    · intro y0 y1 y2
      unfold clochelaw05_WavesRanked.j0
      repeat' first
      | (with_reducible exact ih0 _ _ _)
      | (with_reducible exact ih1 _ _ _ _ _)
      | (with_reducible exact ih2 _ _ _ _ _ _)
      | (with_reducible exact ih3 _ _ _ _ _ _)
      | (with_reducible exact clochelaw05_alive.mono _)
      | (with_reducible exact clochelaw05_same.mono _ _ _)
      | (with_reducible exact clocheref05_Row.mono _ _)
      | (with_reducible exact waves_At.mono _ _ _)
      | (with_reducible exact waves_Rank.mono _ _)
      | (with_reducible exact LeO.refl _)
      | (with_reducible exact LeO.none _)
      | (with_reducible refine LeO.ite ?_ ?_)
      | (with_reducible refine LeO.bind ?_ (fun _ => ?_))
      | exact ih0 _ _ _
      | exact ih1 _ _ _ _ _
      | exact ih2 _ _ _ _ _ _
      | exact ih3 _ _ _ _ _ _
      | exact clochelaw05_alive.mono _
      | exact clochelaw05_same.mono _ _ _
      | exact clocheref05_Row.mono _ _
      | exact waves_At.mono _ _ _
      | exact waves_Rank.mono _ _
      | exact LeO.none _
      | refine LeO.ite ?_ ?_
      | refine LeO.bind ?_ (fun _ => ?_)
    · intro y0 y1 y2 y3 y4
      unfold clochelaw05_WavesRanked.j1
      repeat' first
      | (with_reducible exact ih0 _ _ _)
      | (with_reducible exact ih1 _ _ _ _ _)
      | (with_reducible exact ih2 _ _ _ _ _ _)
      | (with_reducible exact ih3 _ _ _ _ _ _)
      | (with_reducible exact clochelaw05_alive.mono _)
      | (with_reducible exact clochelaw05_same.mono _ _ _)
      | (with_reducible exact clocheref05_Row.mono _ _)
      | (with_reducible exact waves_At.mono _ _ _)
      | (with_reducible exact waves_Rank.mono _ _)
      | (with_reducible exact LeO.refl _)
      | (with_reducible exact LeO.none _)
      | (with_reducible refine LeO.ite ?_ ?_)
      | (with_reducible refine LeO.bind ?_ (fun _ => ?_))
      | exact ih0 _ _ _
      | exact ih1 _ _ _ _ _
      | exact ih2 _ _ _ _ _ _
      | exact ih3 _ _ _ _ _ _
      | exact clochelaw05_alive.mono _
      | exact clochelaw05_same.mono _ _ _
      | exact clocheref05_Row.mono _ _
      | exact waves_At.mono _ _ _
      | exact waves_Rank.mono _ _
      | exact LeO.none _
      | refine LeO.ite ?_ ?_
      | refine LeO.bind ?_ (fun _ => ?_)
    · intro y0 y1 y2 y3 y4 y5
      unfold clochelaw05_WavesRanked.j2
      repeat' first
      | (with_reducible exact ih0 _ _ _)
      | (with_reducible exact ih1 _ _ _ _ _)
      | (with_reducible exact ih2 _ _ _ _ _ _)
      | (with_reducible exact ih3 _ _ _ _ _ _)
      | (with_reducible exact clochelaw05_alive.mono _)
      | (with_reducible exact clochelaw05_same.mono _ _ _)
      | (with_reducible exact clocheref05_Row.mono _ _)
      | (with_reducible exact waves_At.mono _ _ _)
      | (with_reducible exact waves_Rank.mono _ _)
      | (with_reducible exact LeO.refl _)
      | (with_reducible exact LeO.none _)
      | (with_reducible refine LeO.ite ?_ ?_)
      | (with_reducible refine LeO.bind ?_ (fun _ => ?_))
      | exact ih0 _ _ _
      | exact ih1 _ _ _ _ _
      | exact ih2 _ _ _ _ _ _
      | exact ih3 _ _ _ _ _ _
      | exact clochelaw05_alive.mono _
      | exact clochelaw05_same.mono _ _ _
      | exact clocheref05_Row.mono _ _
      | exact waves_At.mono _ _ _
      | exact waves_Rank.mono _ _
      | exact LeO.none _
      | refine LeO.ite ?_ ?_
      | refine LeO.bind ?_ (fun _ => ?_)
    · intro y0 y1 y2 y3 y4 y5
      unfold clochelaw05_WavesRanked.l0
      repeat' first
      | (with_reducible exact ih0 _ _ _)
      | (with_reducible exact ih1 _ _ _ _ _)
      | (with_reducible exact ih2 _ _ _ _ _ _)
      | (with_reducible exact ih3 _ _ _ _ _ _)
      | (with_reducible exact clochelaw05_alive.mono _)
      | (with_reducible exact clochelaw05_same.mono _ _ _)
      | (with_reducible exact clocheref05_Row.mono _ _)
      | (with_reducible exact waves_At.mono _ _ _)
      | (with_reducible exact waves_Rank.mono _ _)
      | (with_reducible exact LeO.refl _)
      | (with_reducible exact LeO.none _)
      | (with_reducible refine LeO.ite ?_ ?_)
      | (with_reducible refine LeO.bind ?_ (fun _ => ?_))
      | exact ih0 _ _ _
      | exact ih1 _ _ _ _ _
      | exact ih2 _ _ _ _ _ _
      | exact ih3 _ _ _ _ _ _
      | exact clochelaw05_alive.mono _
      | exact clochelaw05_same.mono _ _ _
      | exact clocheref05_Row.mono _ _
      | exact waves_At.mono _ _ _
      | exact waves_Rank.mono _ _
      | exact LeO.none _
      | refine LeO.ite ?_ ?_
      | refine LeO.bind ?_ (fun _ => ?_)
theorem clochelaw05_WavesRanked.mono : ∀ a0 a1 a2 a3 k, LeO (clochelaw05_WavesRanked.f k a0 a1 a2 a3) (clochelaw05_WavesRanked.f (k + 1) a0 a1 a2 a3) := by
  intro a0 a1 a2 a3 k
  obtain ⟨ih0, ih1, ih2, ih3⟩ := clochelaw05_WavesRanked.mono_l k
  unfold clochelaw05_WavesRanked.f
  repeat' first
      | (with_reducible exact ih0 _ _ _)
      | (with_reducible exact ih1 _ _ _ _ _)
      | (with_reducible exact ih2 _ _ _ _ _ _)
      | (with_reducible exact ih3 _ _ _ _ _ _)
      | (with_reducible exact clochelaw05_alive.mono _)
      | (with_reducible exact clochelaw05_same.mono _ _ _)
      | (with_reducible exact clocheref05_Row.mono _ _)
      | (with_reducible exact waves_At.mono _ _ _)
      | (with_reducible exact waves_Rank.mono _ _)
      | (with_reducible exact LeO.refl _)
      | (with_reducible exact LeO.none _)
      | (with_reducible refine LeO.ite ?_ ?_)
      | (with_reducible refine LeO.bind ?_ (fun _ => ?_))
      | exact ih0 _ _ _
      | exact ih1 _ _ _ _ _
      | exact ih2 _ _ _ _ _ _
      | exact ih3 _ _ _ _ _ _
      | exact clochelaw05_alive.mono _
      | exact clochelaw05_same.mono _ _ _
      | exact clocheref05_Row.mono _ _
      | exact waves_At.mono _ _ _
      | exact waves_Rank.mono _ _
      | exact LeO.none _
      | refine LeO.ite ?_ ?_
      | refine LeO.bind ?_ (fun _ => ?_)
def clochelaw05_WavesRanked.T12 : Bool × List (List Nat × List Nat) := (true, [([], []), ([0], [0]), ([], []), ([1, 2], [1, 2]), ([], []), ([4], [4]), ([], []), ([5, 6], [5, 6]), ([3, 0, 1, 2, 3], [3]), ([7, 8, 0, 1, 2, 3, 4, 5, 6, 7, 8], [7])])
def clochelaw05_WavesRanked.B12 : List Nat := [0, 1, 0, 7, 0, 16, 0, 112, 15, 511]
theorem clochelaw05_WavesRanked.tab12 : rtab .any (opsOf Try.f6 12) = clochelaw05_WavesRanked.T12 := by kernel_rfl
theorem clochelaw05_WavesRanked.bits12 : waitsOk clochelaw05_WavesRanked.T12.2 clochelaw05_WavesRanked.B12 = true := by kernel_rfl
def clochelaw05_WavesRanked.T22 : Bool × List (List Nat × List Nat) := (true, [([], []), ([], []), ([0, 1], [0, 1]), ([2], [2]), ([], []), ([], []), ([4, 5], [4, 5]), ([6], [6]), ([3, 7], [3, 7])])
def clochelaw05_WavesRanked.B22 : List Nat := [0, 0, 3, 7, 0, 0, 48, 112, 255]
theorem clochelaw05_WavesRanked.tab22 : rtab .any (opsOf Try.f6 22) = clochelaw05_WavesRanked.T22 := by kernel_rfl
theorem clochelaw05_WavesRanked.bits22 : waitsOk clochelaw05_WavesRanked.T22.2 clochelaw05_WavesRanked.B22 = true := by kernel_rfl
def clochelaw05_WavesRanked.T23 : Bool × List (List Nat × List Nat) := (true, [([], []), ([], []), ([0, 1], [0, 1]), ([2], [2]), ([], []), ([], []), ([4, 5], [4, 5]), ([6], [6]), ([3, 7], [3, 7]), ([], []), ([], []), ([9, 10], [9, 10]), ([8, 11], [8, 11]), ([12], [12]), ([13, 13], [13]), ([13, 14], [13, 14]), ([15, 14, 0, 1, 2, 3, 4, 5, 6, 7, 8, 9, 10, 11, 12, 13, 14, 15], [15])])
def clochelaw05_WavesRanked.B23 : List Nat := [0, 0, 3, 7, 0, 0, 48, 112, 255, 0, 0, 1536, 4095, 8191, 16383, 32767, 65535]
theorem clochelaw05_WavesRanked.tab23 : rtab .any (opsOf Try.f6 23) = clochelaw05_WavesRanked.T23 := by kernel_rfl
theorem clochelaw05_WavesRanked.bits23 : waitsOk clochelaw05_WavesRanked.T23.2 clochelaw05_WavesRanked.B23 = true := by kernel_rfl
set_option maxHeartbeats 8000000 in
set_option maxRecDepth 100000 in
theorem clochelaw05_WavesRanked.calls (k : Nat) (A0 : Option Addr) (c0 : Nat) (l0 : List Int) (a1 : Int) (a2 : Int) (a3 : Int) (r : Bool) (w : World) (hr0 : Kd.C (Kd.int .i64) w A0 l0.length l0) (hc0 : l0.length ≤ c0) (h : clochelaw05_WavesRanked.f k l0 a1 a2 a3 = some r) :
    Calls Try.prog 6 #[.slice A0 l0.length c0, .int .u8 a1, .int .u32 a2, .int .u32 a3] w fun e w' => e = .returned (.bool r) ∧ Below w.heap.size w w' := by
  have HR0 := Aside0.mk hr0
  have HC0 := Aside0.mk hc0
  clear hr0 hc0
  have HB := Aside0.mk (Below.refl w.heap.size w)
  have H : (if (l0.length : Int) > 60 then ((clochelaw05_alive.f k).bind fun t293 => (some t293)) else ((waves_Rank.f k l0).bind fun bt294 => (if bt294.2 = 0 then ((waves_At.f k (l0.length : Int) bt294.1).bind fun bt296 => (if bt296.2 = 0 then ((clochelaw05_same.f k bt296.1 l0).bind fun t300 => (if t300 = true then (clochelaw05_WavesRanked.j0 k a1 a2 a3) else (some false))) else (some false))) else (clochelaw05_WavesRanked.j0 k a1 a2 a3)))) = some r := h
  clear h
  by_cases c5 : (l0.length : Int) > 60
  · rw [if_pos c5] at H
    have c5b0 : decide (60 < (l0.length : Int)) = true := decide_eq_true c5
    have c5b1 : decide (60 < l0.length) = true := decide_eq_true (by omega)
    clear c5
    replace H := Option.bind_eq_some_iff.mp H
    obtain ⟨t293, A60, H⟩ := H
    replace H : (some t293) = some r := H
    have A6 := Aside0.mk A60
    clear A60
    obtain rfl := Option.some.inj H
    go_enter Try.func6, Try.ntmps6
    go_wp2_with (first | ((with_reducible refine gate_callee (f := 17) rfl ?_); refine goesL_ (some 28) rfl rfl Try.func17 (by kernel_rfl) rfl #[] rfl (by (try simp only [List.map_toArray, List.map_cons, List.map_nil]); first | done | rfl | (simp only [List.length_drop, List.length_take]; rfl)) ?_; (with_reducible refine (clochelaw05_alive.calls k  t293 _ A6.out).mono ?_); rintro e w7 ⟨rfl, hb⟩; refine ⟨_, rfl, ?_⟩; have n0_ := Aside0.mk (below_step (by repeat (first | (with_reducible first | exact HB.out | apply below_alloc | apply pw_below_drewN | apply below_drew1) | exact HB.out)) hb); clear HB; have HB := n0_; clear n0_; (try clear hb); (try clear hb2); (try clear hk); (try clear hi)))
    go_ret
    exact ⟨by first | rfl | (simp [errW_none, errW_some] <;> rfl) | (simp [*, errW_none, errW_some] <;> rfl), by repeat (first | (with_reducible first | exact HB.out | apply below_alloc | apply pw_below_drewN | apply below_drew1) | exact HB.out)⟩
  · rw [if_neg c5] at H
    have c5b0 : decide (60 < (l0.length : Int)) = false := decide_eq_false c5
    have c5b1 : decide (60 < l0.length) = false := decide_eq_false (by omega)
    clear c5
    replace H := Option.bind_eq_some_iff.mp H
    obtain ⟨⟨t294, t295⟩, A80, H⟩ := H
    replace H : (if t295 = 0 then ((waves_At.f k (l0.length : Int) t294).bind fun bt296 => (if bt296.2 = 0 then ((clochelaw05_same.f k bt296.1 l0).bind fun t300 => (if t300 = true then (clochelaw05_WavesRanked.j0 k a1 a2 a3) else (some false))) else (some false))) else (clochelaw05_WavesRanked.j0 k a1 a2 a3)) = some r := H
    have A8 := Aside0.mk A80
    clear A80
    have HC9 := Aside0.mk H
    clear H
    go_enter Try.func6, Try.ntmps6
    go_upto_if 35 with (first | ((with_reducible refine gate_callee (f := 18) rfl ?_); refine goesL_ (some 31) rfl rfl Try.func18 (by kernel_rfl) rfl #[.slice A0 l0.length c0] rfl (by (try simp only [List.map_toArray, List.map_cons, List.map_nil]); first | done | rfl | (simp only [List.length_drop, List.length_take]; rfl)) ?_; (with_reducible refine (waves_Rank.calls k _ _ l0 t294 t295 _ ?side1 ?side2 A8.out).mono ?_); (case side1 => repeat (first | exact HR0.out | (with_reducible refine Kd.C_alloc ?_ _) | (with_reducible refine Kd.C_drewN ?_ _) | (with_reducible refine Kd.C_drew ?_))); (case side2 => exact HC0.out); rintro e w10 ⟨rfl, hb⟩; refine ⟨_, rfl, ?_⟩; have n0_ := Aside0.mk (below_step (by repeat (first | (with_reducible first | exact HB.out | apply below_alloc | apply pw_below_drewN | apply below_drew1) | exact HB.out)) hb); clear HB; have HB := n0_; clear n0_; (try clear hb); (try clear hb2); (try clear hk); (try clear hi)))
    (try simp only [Act.put, List.setIfInBounds_toArray, List.set_cons_zero, List.set_cons_succ])
    go_cut [] (fun wc => ∃ (kq : Nat), Aside0 (clochelaw05_WavesRanked.j0 kq a1 a2 a3 = some r) ∧ Aside0 (kq ≤ k) ∧ Aside0 (Below w.heap.size w wc))
    case first =>
      have H := HC9.out
      clear HC9
      by_cases c11 : t295 = 0
      · rw [if_pos c11] at H
        have c11b0 : (t295 == 0) = true := beq_iff_eq.mpr c11
        have c11b1 : (t295 != 0) = false := bne_eq_false_iff_eq.mpr c11
        clear c11
        (first | rw [c11b0] | (simp only [i64_w, i32_w]; rw [c11b0]) | skip)
        replace H := Option.bind_eq_some_iff.mp H
        obtain ⟨⟨t296, t297⟩, A120, H⟩ := H
        replace H : (if t297 = 0 then ((clochelaw05_same.f k t296 l0).bind fun t300 => (if t300 = true then (clochelaw05_WavesRanked.j0 k a1 a2 a3) else (some false))) else (some false)) = some r := H
        have A12 := Aside0.mk A120
        clear A120
        by_cases c13 : t297 = 0
        · rw [if_pos c13] at H
          have c13b0 : (t297 == 0) = true := beq_iff_eq.mpr c13
          have c13b1 : (t297 != 0) = false := bne_eq_false_iff_eq.mpr c13
          clear c13
          replace H := Option.bind_eq_some_iff.mp H
          obtain ⟨t300, A140, H⟩ := H
          replace H : (if t300 = true then (clochelaw05_WavesRanked.j0 k a1 a2 a3) else (some false)) = some r := H
          have A14 := Aside0.mk A140
          clear A140
          by_cases c15 : t300 = true
          · subst c15
            have H1 : (clochelaw05_WavesRanked.j0 k a1 a2 a3) = some r := by rw [if_pos rfl] at H; exact H
            clear H
            have H := H1
            clear H1
            have H' := Aside0.mk H
            clear H
            go_wp2_with (first | ((with_reducible refine gate_callee (f := 20) rfl ?_); refine goesL_ (some 40) rfl rfl Try.func20 (by kernel_rfl) rfl #[.int .i64 (l0.length : Int), .int .i64 t294] rfl (by (try simp only [List.map_toArray, List.map_cons, List.map_nil]); first | done | rfl | (simp only [List.length_drop, List.length_take]; rfl)) ?_; (with_reducible refine (waves_At.calls k (l0.length : Int) t294 t296 t297 _ A12.out).mono ?_); rintro e w16 ⟨v298, rfl, ho0, hb⟩; refine ⟨_, rfl, ?_⟩; have n0_ := Aside0.mk (Kd.R_lower ho0 (below_size (by repeat (first | (with_reducible first | exact HB.out | apply below_alloc | apply pw_below_drewN | apply below_drew1) | exact HB.out)))); have n1_ := Aside0.mk (below_step (by repeat (first | (with_reducible first | exact HB.out | apply below_alloc | apply pw_below_drewN | apply below_drew1) | exact HB.out)) hb); clear HB; have HO299 := n0_; have HB := n1_; clear n0_ n1_; (try clear hb); (try clear hb2); (try clear hk); (try clear hi); (try clear ho0); obtain ⟨Ao17, co17, eo17⟩ := Kd.R_slice HO299.out; subst eo17) | (go_at_call 16; (with_reducible refine (clochelaw05_same.calls k _ _ t296 _ _ l0 true _ ?side1 ?side2 ?side3 ?side4 A14.out).mono ?_); (case side1 => repeat (first | exact (Kd.R_reads' HO299.out).2.2 | (with_reducible refine Kd.C_alloc ?_ _) | (with_reducible refine Kd.C_drewN ?_ _) | (with_reducible refine Kd.C_drew ?_))); (case side2 => exact (Kd.R_reads' HO299.out).2.1); (case side3 => repeat (first | exact (Kd.C_below HR0.out HB.out) | (with_reducible refine Kd.C_alloc ?_ _) | (with_reducible refine Kd.C_drewN ?_ _) | (with_reducible refine Kd.C_drew ?_))); (case side4 => exact HC0.out); rintro e w' ⟨rfl, ⟨nd, rfl⟩⟩))
            go_meet
            case rel => exact ⟨_, H', ⟨by first | omega | exact Nat.le_refl _⟩, ⟨by repeat (first | (with_reducible first | exact HB.out | apply below_alloc | apply pw_below_drewN | apply below_drew1) | exact HB.out)⟩⟩
          · replace c15 := Bool.eq_false_iff.mpr c15
            subst c15
            have H1 : (some false) = some r := by rw [if_neg (show ¬ (false = true) by decide)] at H; exact H
            clear H
            have H := H1
            clear H1
            obtain rfl := Option.some.inj H
            go_wp2_with (first | ((with_reducible refine gate_callee (f := 20) rfl ?_); refine goesL_ (some 40) rfl rfl Try.func20 (by kernel_rfl) rfl #[.int .i64 (l0.length : Int), .int .i64 t294] rfl (by (try simp only [List.map_toArray, List.map_cons, List.map_nil]); first | done | rfl | (simp only [List.length_drop, List.length_take]; rfl)) ?_; (with_reducible refine (waves_At.calls k (l0.length : Int) t294 t296 t297 _ A12.out).mono ?_); rintro e w18 ⟨v298, rfl, ho0, hb⟩; refine ⟨_, rfl, ?_⟩; have n0_ := Aside0.mk (Kd.R_lower ho0 (below_size (by repeat (first | (with_reducible first | exact HB.out | apply below_alloc | apply pw_below_drewN | apply below_drew1) | exact HB.out)))); have n1_ := Aside0.mk (below_step (by repeat (first | (with_reducible first | exact HB.out | apply below_alloc | apply pw_below_drewN | apply below_drew1) | exact HB.out)) hb); clear HB; have HO299 := n0_; have HB := n1_; clear n0_ n1_; (try clear hb); (try clear hb2); (try clear hk); (try clear hi); (try clear ho0); obtain ⟨Ao19, co19, eo19⟩ := Kd.R_slice HO299.out; subst eo19) | (go_at_call 16; (with_reducible refine (clochelaw05_same.calls k _ _ t296 _ _ l0 false _ ?side1 ?side2 ?side3 ?side4 A14.out).mono ?_); (case side1 => repeat (first | exact (Kd.R_reads' HO299.out).2.2 | (with_reducible refine Kd.C_alloc ?_ _) | (with_reducible refine Kd.C_drewN ?_ _) | (with_reducible refine Kd.C_drew ?_))); (case side2 => exact (Kd.R_reads' HO299.out).2.1); (case side3 => repeat (first | exact (Kd.C_below HR0.out HB.out) | (with_reducible refine Kd.C_alloc ?_ _) | (with_reducible refine Kd.C_drewN ?_ _) | (with_reducible refine Kd.C_drew ?_))); (case side4 => exact HC0.out); rintro e w' ⟨rfl, ⟨nd, rfl⟩⟩))
            go_ret
            exact ⟨by first | rfl | (simp [errW_none, errW_some] <;> rfl) | (simp [*, errW_none, errW_some] <;> rfl), by repeat (first | (with_reducible first | exact HB.out | apply below_alloc | apply pw_below_drewN | apply below_drew1) | exact HB.out)⟩
        · rw [if_neg c13] at H
          have c13b0 : (t297 == 0) = false := beq_eq_false_iff_ne.mpr c13
          have c13b1 : (t297 != 0) = true := bne_iff_ne.mpr c13
          obtain rfl := Option.some.inj H
          go_wp2_with (first | ((with_reducible refine gate_callee (f := 20) rfl ?_); refine goesL_ (some 40) rfl rfl Try.func20 (by kernel_rfl) rfl #[.int .i64 (l0.length : Int), .int .i64 t294] rfl (by (try simp only [List.map_toArray, List.map_cons, List.map_nil]); first | done | rfl | (simp only [List.length_drop, List.length_take]; rfl)) ?_; (with_reducible refine (waves_At.calls k (l0.length : Int) t294 t296 t297 _ A12.out).mono ?_); rintro e w20 ⟨v298, rfl, ho0, hb⟩; refine ⟨_, rfl, ?_⟩; have n0_ := Aside0.mk (Kd.R_lower ho0 (below_size (by repeat (first | (with_reducible first | exact HB.out | apply below_alloc | apply pw_below_drewN | apply below_drew1) | exact HB.out)))); have n1_ := Aside0.mk (below_step (by repeat (first | (with_reducible first | exact HB.out | apply below_alloc | apply pw_below_drewN | apply below_drew1) | exact HB.out)) hb); clear HB; have HO299 := n0_; have HB := n1_; clear n0_ n1_; (try clear hb); (try clear hb2); (try clear hk); (try clear hi); (try clear ho0)))
          go_ret
          exact ⟨by first | rfl | (simp [errW_none, errW_some] <;> rfl) | (simp [*, errW_none, errW_some] <;> rfl), by repeat (first | (with_reducible first | exact HB.out | apply below_alloc | apply pw_below_drewN | apply below_drew1) | exact HB.out)⟩
      · rw [if_neg c11] at H
        have c11b0 : (t295 == 0) = false := beq_eq_false_iff_ne.mpr c11
        have c11b1 : (t295 != 0) = true := bne_iff_ne.mpr c11
        (first | rw [c11b0] | (simp only [i64_w, i32_w]; rw [c11b0]) | skip)
        have H' := Aside0.mk H
        clear H
        go_wp2
        go_meet
        case rel => exact ⟨_, H', ⟨by first | omega | exact Nat.le_refl _⟩, ⟨by repeat (first | (with_reducible first | exact HB.out | apply below_alloc | apply pw_below_drewN | apply below_drew1) | exact HB.out)⟩⟩
    case rest =>
      clear HC9
      try clear c1
      try clear c2
      try clear p2
      try clear c5
      try clear c5b0
      try clear c5b1
      try clear c6
      try clear c11
      try clear c11b0
      try clear c11b1
      try clear c13
      try clear c13b0
      try clear c13b1
      try clear c15
      try clear c17
      try clear c18
      try clear c20
      obtain ⟨kq, HA, HJ8, HB⟩ := hcut
      cases kq with
      | zero => exact absurd HA.out (by simp [clochelaw05_WavesRanked.j0])
      | succ kj8 =>
        have H := HA.out
        clear HA
        simp only [clochelaw05_WavesRanked.j0] at H
        replace H := Option.bind_eq_some_iff.mp H
        obtain ⟨⟨t301, t302⟩, A210, H⟩ := H
        replace H : (if t302 = 0 then (if t301 < 1 then (clochelaw05_WavesRanked.j1 kj8 a2 a3 (wrap64 (Int.tmod a1 11)) t301 true) else (clochelaw05_WavesRanked.j1 kj8 a2 a3 (wrap64 (Int.tmod a1 11)) t301 (decide (t301 > 1073741824)))) else (clochelaw05_WavesRanked.j1 kj8 a2 a3 (wrap64 (Int.tmod a1 11)) t301 true)) = some r := H
        have A21 := Aside0.mk A210
        clear A210
        have HC22 := Aside0.mk H
        clear H
        go_upto_region 10 with (first | ((with_reducible refine gate_callee (f := 22) rfl ?_); refine goesL_ (some 56) rfl rfl Try.func22 (by kernel_rfl) rfl #[.int .i64 (wrap64 (Int.tmod a1 11))] rfl (by (try simp only [List.map_toArray, List.map_cons, List.map_nil]); first | done | rfl | (simp only [List.length_drop, List.length_take]; rfl)) ?_; (with_reducible refine (waves_Count.calls (wrap64 (Int.tmod a1 11)) t301 t302 _ A21.out).mono ?_); rintro e w23 ⟨rfl, hb⟩; refine ⟨_, rfl, ?_⟩; have n0_ := Aside0.mk (below_step (by repeat (first | (with_reducible first | exact HB.out | apply below_alloc | apply pw_below_drewN | apply below_drew1) | exact HB.out)) hb); clear HB; have HB := n0_; clear n0_; (try clear hb); (try clear hb2); (try clear hk); (try clear hi)))
        (try simp only [Act.put, List.setIfInBounds_toArray, List.set_cons_zero, List.set_cons_succ])
        go_cut [68] (fun v68 wc => ∃ (kq : Nat) (x68_21 : Bool), v68 = .bool x68_21 ∧ Aside0 (clochelaw05_WavesRanked.j1 kq a2 a3 (wrap64 (Int.tmod a1 11)) t301 x68_21 = some r) ∧ Aside0 (kq ≤ kj8) ∧ Aside0 (Below w.heap.size w wc))
        case first =>
          have H := HC22.out
          clear HC22
          by_cases c24 : t302 = 0
          · rw [if_pos c24] at H
            have c24b0 : (t302 == 0) = true := beq_iff_eq.mpr c24
            have c24b1 : (t302 != 0) = false := bne_eq_false_iff_eq.mpr c24
            clear c24
            (first | rw [c24b0] | (simp only [i64_w, i32_w]; rw [c24b0]) | skip)
            by_cases c25 : t301 < 1
            · rw [if_pos c25] at H
              have c25b0 : decide (t301 < 1) = true := decide_eq_true c25
              clear c25
              have H' := Aside0.mk H
              clear H
              go_wp2
              go_meet
              case rel => exact ⟨_, (true), (by first | rfl | (simp; done) | (simp [*]; done)), H', ⟨by have := HJ8.out; first | omega | exact Nat.le_refl _⟩, ⟨by repeat (first | (with_reducible first | exact HB.out | apply below_alloc | apply pw_below_drewN | apply below_drew1) | exact HB.out)⟩⟩
            · rw [if_neg c25] at H
              have c25b0 : decide (t301 < 1) = false := decide_eq_false c25
              clear c25
              have H' := Aside0.mk H
              clear H
              go_wp2
              go_meet
              case rel => exact ⟨_, (decide (t301 > 1073741824)), (by first | rfl | (simp; done) | (simp [*]; done)), H', ⟨by have := HJ8.out; first | omega | exact Nat.le_refl _⟩, ⟨by repeat (first | (with_reducible first | exact HB.out | apply below_alloc | apply pw_below_drewN | apply below_drew1) | exact HB.out)⟩⟩
          · rw [if_neg c24] at H
            have c24b0 : (t302 == 0) = false := beq_eq_false_iff_ne.mpr c24
            have c24b1 : (t302 != 0) = true := bne_iff_ne.mpr c24
            (first | rw [c24b0] | (simp only [i64_w, i32_w]; rw [c24b0]) | skip)
            have H' := Aside0.mk H
            clear H
            go_wp2
            go_meet
            case rel => exact ⟨_, (true), (by first | rfl | (simp; done) | (simp [*]; done)), H', ⟨by have := HJ8.out; first | omega | exact Nat.le_refl _⟩, ⟨by repeat (first | (with_reducible first | exact HB.out | apply below_alloc | apply pw_below_drewN | apply below_drew1) | exact HB.out)⟩⟩
        case rest =>
          clear HC22
          try clear c1
          try clear c2
          try clear p2
          try clear c5
          try clear c5b0
          try clear c5b1
          try clear c6
          try clear p6
          try clear c11
          try clear c11b0
          try clear c11b1
          try clear c13
          try clear c13b0
          try clear c13b1
          try clear c15
          try clear c17
          try clear c18
          try clear c20
          try clear c22
          try clear c24
          try clear c24b0
          try clear c24b1
          try clear c25
          try clear c25b0
          try clear p2
          obtain ⟨kq, x68_21, rfl, HA, HJ21, HB⟩ := hcut
          cases kq with
          | zero => exact absurd HA.out (by simp [clochelaw05_WavesRanked.j1])
          | succ kj21 =>
            have H := HA.out
            clear HA
            simp only [clochelaw05_WavesRanked.j1] at H
            by_cases c26 : x68_21 = true
            · subst c26
              have H1 : (some false) = some r := by rw [if_pos rfl] at H; exact H
              clear H
              have H := H1
              clear H1
              obtain rfl := Option.some.inj H
              go_wp2
              go_ret
              exact ⟨by first | rfl | (simp [errW_none, errW_some] <;> rfl) | (simp [*, errW_none, errW_some] <;> rfl), by repeat (first | (with_reducible first | exact HB.out | apply below_alloc | apply pw_below_drewN | apply below_drew1) | exact HB.out)⟩
            · replace c26 := Bool.eq_false_iff.mpr c26
              subst c26
              have H1 : (if t301 = 0 then (none) else ((waves_At.f kj21 (wrap64 (Int.tmod a1 11)) (Int.tmod (wrap64 (a2)) t301)).bind fun bt303 => ((waves_At.f kj21 (wrap64 (Int.tmod a1 11)) (Int.tmod (wrap64 (a3)) t301)).bind fun bt307 => ((waves_Rank.f kj21 bt303.1).bind fun bt311 => ((waves_At.f kj21 (wrap64 (Int.tmod a1 11)) t301).bind fun bt313 => (if bt303.2 = 0 then (if bt307.2 = 0 then (if bt311.2 = 0 then (if bt313.2 = 4 then (if bt311.1 = (Int.tmod (wrap64 (a2)) t301) then (if (bt303.1.length : Int) = (wrap64 (Int.tmod a1 11)) then (if (bt307.1.length : Int) = (wrap64 (Int.tmod a1 11)) then ((clocheref05_Row.f kj21 bt303.1).bind fun t317 => (clochelaw05_WavesRanked.j2 kj21 (wrap64 (Int.tmod a1 11)) (Int.tmod (wrap64 (a2)) t301) (Int.tmod (wrap64 (a3)) t301) bt303.1 bt307.1 (t317 != 0))) else (clochelaw05_WavesRanked.j2 kj21 (wrap64 (Int.tmod a1 11)) (Int.tmod (wrap64 (a2)) t301) (Int.tmod (wrap64 (a3)) t301) bt303.1 bt307.1 true)) else (clochelaw05_WavesRanked.j2 kj21 (wrap64 (Int.tmod a1 11)) (Int.tmod (wrap64 (a2)) t301) (Int.tmod (wrap64 (a3)) t301) bt303.1 bt307.1 true)) else (clochelaw05_WavesRanked.j2 kj21 (wrap64 (Int.tmod a1 11)) (Int.tmod (wrap64 (a2)) t301) (Int.tmod (wrap64 (a3)) t301) bt303.1 bt307.1 true)) else (clochelaw05_WavesRanked.j2 kj21 (wrap64 (Int.tmod a1 11)) (Int.tmod (wrap64 (a2)) t301) (Int.tmod (wrap64 (a3)) t301) bt303.1 bt307.1 true)) else (clochelaw05_WavesRanked.j2 kj21 (wrap64 (Int.tmod a1 11)) (Int.tmod (wrap64 (a2)) t301) (Int.tmod (wrap64 (a3)) t301) bt303.1 bt307.1 true)) else (clochelaw05_WavesRanked.j2 kj21 (wrap64 (Int.tmod a1 11)) (Int.tmod (wrap64 (a2)) t301) (Int.tmod (wrap64 (a3)) t301) bt303.1 bt307.1 true)) else (clochelaw05_WavesRanked.j2 kj21 (wrap64 (Int.tmod a1 11)) (Int.tmod (wrap64 (a2)) t301) (Int.tmod (wrap64 (a3)) t301) bt303.1 bt307.1 true))))))) = some r := by rw [if_neg (show ¬ (false = true) by decide)] at H; exact H
              clear H
              have H := H1
              clear H1
              by_cases c27 : t301 = 0
              · rw [if_pos c27] at H
                exact absurd H (by simp)
              · rw [if_neg c27] at H
                have c27b0 : (t301 == 0) = false := beq_eq_false_iff_ne.mpr c27
                have c27b1 : (t301 != 0) = true := bne_iff_ne.mpr c27
                replace H := Option.bind_eq_some_iff.mp H
                obtain ⟨⟨t303, t304⟩, A280, H⟩ := H
                replace H : ((waves_At.f kj21 (wrap64 (Int.tmod a1 11)) (Int.tmod (wrap64 (a3)) t301)).bind fun bt307 => ((waves_Rank.f kj21 t303).bind fun bt311 => ((waves_At.f kj21 (wrap64 (Int.tmod a1 11)) t301).bind fun bt313 => (if t304 = 0 then (if bt307.2 = 0 then (if bt311.2 = 0 then (if bt313.2 = 4 then (if bt311.1 = (Int.tmod (wrap64 (a2)) t301) then (if (t303.length : Int) = (wrap64 (Int.tmod a1 11)) then (if (bt307.1.length : Int) = (wrap64 (Int.tmod a1 11)) then ((clocheref05_Row.f kj21 t303).bind fun t317 => (clochelaw05_WavesRanked.j2 kj21 (wrap64 (Int.tmod a1 11)) (Int.tmod (wrap64 (a2)) t301) (Int.tmod (wrap64 (a3)) t301) t303 bt307.1 (t317 != 0))) else (clochelaw05_WavesRanked.j2 kj21 (wrap64 (Int.tmod a1 11)) (Int.tmod (wrap64 (a2)) t301) (Int.tmod (wrap64 (a3)) t301) t303 bt307.1 true)) else (clochelaw05_WavesRanked.j2 kj21 (wrap64 (Int.tmod a1 11)) (Int.tmod (wrap64 (a2)) t301) (Int.tmod (wrap64 (a3)) t301) t303 bt307.1 true)) else (clochelaw05_WavesRanked.j2 kj21 (wrap64 (Int.tmod a1 11)) (Int.tmod (wrap64 (a2)) t301) (Int.tmod (wrap64 (a3)) t301) t303 bt307.1 true)) else (clochelaw05_WavesRanked.j2 kj21 (wrap64 (Int.tmod a1 11)) (Int.tmod (wrap64 (a2)) t301) (Int.tmod (wrap64 (a3)) t301) t303 bt307.1 true)) else (clochelaw05_WavesRanked.j2 kj21 (wrap64 (Int.tmod a1 11)) (Int.tmod (wrap64 (a2)) t301) (Int.tmod (wrap64 (a3)) t301) t303 bt307.1 true)) else (clochelaw05_WavesRanked.j2 kj21 (wrap64 (Int.tmod a1 11)) (Int.tmod (wrap64 (a2)) t301) (Int.tmod (wrap64 (a3)) t301) t303 bt307.1 true)) else (clochelaw05_WavesRanked.j2 kj21 (wrap64 (Int.tmod a1 11)) (Int.tmod (wrap64 (a2)) t301) (Int.tmod (wrap64 (a3)) t301) t303 bt307.1 true))))) = some r := H
                have A28 := Aside0.mk A280
                clear A280
                replace H := Option.bind_eq_some_iff.mp H
                obtain ⟨⟨t307, t308⟩, A290, H⟩ := H
                replace H : ((waves_Rank.f kj21 t303).bind fun bt311 => ((waves_At.f kj21 (wrap64 (Int.tmod a1 11)) t301).bind fun bt313 => (if t304 = 0 then (if t308 = 0 then (if bt311.2 = 0 then (if bt313.2 = 4 then (if bt311.1 = (Int.tmod (wrap64 (a2)) t301) then (if (t303.length : Int) = (wrap64 (Int.tmod a1 11)) then (if (t307.length : Int) = (wrap64 (Int.tmod a1 11)) then ((clocheref05_Row.f kj21 t303).bind fun t317 => (clochelaw05_WavesRanked.j2 kj21 (wrap64 (Int.tmod a1 11)) (Int.tmod (wrap64 (a2)) t301) (Int.tmod (wrap64 (a3)) t301) t303 t307 (t317 != 0))) else (clochelaw05_WavesRanked.j2 kj21 (wrap64 (Int.tmod a1 11)) (Int.tmod (wrap64 (a2)) t301) (Int.tmod (wrap64 (a3)) t301) t303 t307 true)) else (clochelaw05_WavesRanked.j2 kj21 (wrap64 (Int.tmod a1 11)) (Int.tmod (wrap64 (a2)) t301) (Int.tmod (wrap64 (a3)) t301) t303 t307 true)) else (clochelaw05_WavesRanked.j2 kj21 (wrap64 (Int.tmod a1 11)) (Int.tmod (wrap64 (a2)) t301) (Int.tmod (wrap64 (a3)) t301) t303 t307 true)) else (clochelaw05_WavesRanked.j2 kj21 (wrap64 (Int.tmod a1 11)) (Int.tmod (wrap64 (a2)) t301) (Int.tmod (wrap64 (a3)) t301) t303 t307 true)) else (clochelaw05_WavesRanked.j2 kj21 (wrap64 (Int.tmod a1 11)) (Int.tmod (wrap64 (a2)) t301) (Int.tmod (wrap64 (a3)) t301) t303 t307 true)) else (clochelaw05_WavesRanked.j2 kj21 (wrap64 (Int.tmod a1 11)) (Int.tmod (wrap64 (a2)) t301) (Int.tmod (wrap64 (a3)) t301) t303 t307 true)) else (clochelaw05_WavesRanked.j2 kj21 (wrap64 (Int.tmod a1 11)) (Int.tmod (wrap64 (a2)) t301) (Int.tmod (wrap64 (a3)) t301) t303 t307 true)))) = some r := H
                have A29 := Aside0.mk A290
                clear A290
                replace H := Option.bind_eq_some_iff.mp H
                obtain ⟨⟨t311, t312⟩, A300, H⟩ := H
                replace H : ((waves_At.f kj21 (wrap64 (Int.tmod a1 11)) t301).bind fun bt313 => (if t304 = 0 then (if t308 = 0 then (if t312 = 0 then (if bt313.2 = 4 then (if t311 = (Int.tmod (wrap64 (a2)) t301) then (if (t303.length : Int) = (wrap64 (Int.tmod a1 11)) then (if (t307.length : Int) = (wrap64 (Int.tmod a1 11)) then ((clocheref05_Row.f kj21 t303).bind fun t317 => (clochelaw05_WavesRanked.j2 kj21 (wrap64 (Int.tmod a1 11)) (Int.tmod (wrap64 (a2)) t301) (Int.tmod (wrap64 (a3)) t301) t303 t307 (t317 != 0))) else (clochelaw05_WavesRanked.j2 kj21 (wrap64 (Int.tmod a1 11)) (Int.tmod (wrap64 (a2)) t301) (Int.tmod (wrap64 (a3)) t301) t303 t307 true)) else (clochelaw05_WavesRanked.j2 kj21 (wrap64 (Int.tmod a1 11)) (Int.tmod (wrap64 (a2)) t301) (Int.tmod (wrap64 (a3)) t301) t303 t307 true)) else (clochelaw05_WavesRanked.j2 kj21 (wrap64 (Int.tmod a1 11)) (Int.tmod (wrap64 (a2)) t301) (Int.tmod (wrap64 (a3)) t301) t303 t307 true)) else (clochelaw05_WavesRanked.j2 kj21 (wrap64 (Int.tmod a1 11)) (Int.tmod (wrap64 (a2)) t301) (Int.tmod (wrap64 (a3)) t301) t303 t307 true)) else (clochelaw05_WavesRanked.j2 kj21 (wrap64 (Int.tmod a1 11)) (Int.tmod (wrap64 (a2)) t301) (Int.tmod (wrap64 (a3)) t301) t303 t307 true)) else (clochelaw05_WavesRanked.j2 kj21 (wrap64 (Int.tmod a1 11)) (Int.tmod (wrap64 (a2)) t301) (Int.tmod (wrap64 (a3)) t301) t303 t307 true)) else (clochelaw05_WavesRanked.j2 kj21 (wrap64 (Int.tmod a1 11)) (Int.tmod (wrap64 (a2)) t301) (Int.tmod (wrap64 (a3)) t301) t303 t307 true))) = some r := H
                have A30 := Aside0.mk A300
                clear A300
                replace H := Option.bind_eq_some_iff.mp H
                obtain ⟨⟨t313, t314⟩, A310, H⟩ := H
                replace H : (if t304 = 0 then (if t308 = 0 then (if t312 = 0 then (if t314 = 4 then (if t311 = (Int.tmod (wrap64 (a2)) t301) then (if (t303.length : Int) = (wrap64 (Int.tmod a1 11)) then (if (t307.length : Int) = (wrap64 (Int.tmod a1 11)) then ((clocheref05_Row.f kj21 t303).bind fun t317 => (clochelaw05_WavesRanked.j2 kj21 (wrap64 (Int.tmod a1 11)) (Int.tmod (wrap64 (a2)) t301) (Int.tmod (wrap64 (a3)) t301) t303 t307 (t317 != 0))) else (clochelaw05_WavesRanked.j2 kj21 (wrap64 (Int.tmod a1 11)) (Int.tmod (wrap64 (a2)) t301) (Int.tmod (wrap64 (a3)) t301) t303 t307 true)) else (clochelaw05_WavesRanked.j2 kj21 (wrap64 (Int.tmod a1 11)) (Int.tmod (wrap64 (a2)) t301) (Int.tmod (wrap64 (a3)) t301) t303 t307 true)) else (clochelaw05_WavesRanked.j2 kj21 (wrap64 (Int.tmod a1 11)) (Int.tmod (wrap64 (a2)) t301) (Int.tmod (wrap64 (a3)) t301) t303 t307 true)) else (clochelaw05_WavesRanked.j2 kj21 (wrap64 (Int.tmod a1 11)) (Int.tmod (wrap64 (a2)) t301) (Int.tmod (wrap64 (a3)) t301) t303 t307 true)) else (clochelaw05_WavesRanked.j2 kj21 (wrap64 (Int.tmod a1 11)) (Int.tmod (wrap64 (a2)) t301) (Int.tmod (wrap64 (a3)) t301) t303 t307 true)) else (clochelaw05_WavesRanked.j2 kj21 (wrap64 (Int.tmod a1 11)) (Int.tmod (wrap64 (a2)) t301) (Int.tmod (wrap64 (a3)) t301) t303 t307 true)) else (clochelaw05_WavesRanked.j2 kj21 (wrap64 (Int.tmod a1 11)) (Int.tmod (wrap64 (a2)) t301) (Int.tmod (wrap64 (a3)) t301) t303 t307 true)) = some r := H
                have A31 := Aside0.mk A310
                clear A310
                have HC32 := Aside0.mk H
                clear H
                try go_wp2
                have n0_ := Aside0.mk (below_drew1 HB.out)
                clear HB
                have HB := n0_
                clear n0_
                refine start_ (n := 10) (S := fun w' => True) (ds := []) #[false, false, false, false, false, false, false, false, false, false] (by kernel_rfl) rfl rfl trivial (fun hHeld => ?_); refine with_tabW clochelaw05_WavesRanked.tab12 clochelaw05_WavesRanked.bits12 (fun HT_ HW_ => ?_)
                generalize wc.drew = w33 at HB hHeld ⊢
                refine pure_ (i := 0) (N := some 69) (v := ?_) (a' := ?_) #[true, false, false, false, false, false, false, false, false, false] rfl rfl (any_of HT_.out (by kernel_rfl)) (fun _ _ _ h => h) (Or.inl ⟨by rfl, ?_⟩) ?_ ?_
                rotate_left
                · intro w'
                  go_simp
                  with_reducible rfl
                rotate_left
                · simp only [Act.put, List.setIfInBounds_toArray, List.set_cons_zero, List.set_cons_succ, i64_w, i32_w]
                  rfl
                refine pure_ (i := 1) (N := some 70) (v := ?_) (a' := ?_) #[true, true, false, false, false, false, false, false, false, false] rfl rfl (any_of HT_.out (by kernel_rfl)) (fun _ _ _ h => h) (Or.inl ⟨by rfl, ?_⟩) ?_ ?_
                rotate_left
                · intro w'
                  go_simp
                  with_reducible rfl
                rotate_left
                · simp only [Act.put, List.setIfInBounds_toArray, List.set_cons_zero, List.set_cons_succ, i64_w, i32_w]
                  rfl
                refine pure_ (i := 2) (N := some 71) (v := ?_) (a' := ?_) #[true, true, true, false, false, false, false, false, false, false] rfl rfl (any_of HT_.out (by kernel_rfl)) (fun _ _ _ h => h) (Or.inl ⟨by rfl, ?_⟩) ?_ ?_
                rotate_left
                · intro w'
                  go_simp
                  with_reducible rfl
                rotate_left
                · simp only [Act.put, List.setIfInBounds_toArray, List.set_cons_zero, List.set_cons_succ, i64_w, i32_w]
                  rfl
                refine pure_ (i := 3) (N := some 72) (v := ?_) (a' := ?_) #[true, true, true, true, false, false, false, false, false, false] rfl rfl (any_of HT_.out (by kernel_rfl)) (fun _ _ _ h => h) (Or.inl ⟨by rfl, ?_⟩) ?_ ?_
                rotate_left
                · intro w'
                  go_simp
                  with_reducible rfl
                rotate_left
                · simp only [Act.put, List.setIfInBounds_toArray, List.set_cons_zero, List.set_cons_succ, i64_w, i32_w]
                  rfl
                refine pure_ (i := 4) (N := some 73) (v := ?_) (a' := ?_) #[true, true, true, true, true, false, false, false, false, false] rfl rfl (any_of HT_.out (by kernel_rfl)) (fun _ _ _ h => h) (Or.inl ⟨by rfl, ?_⟩) ?_ ?_
                rotate_left
                · intro w'
                  go_simp
                  with_reducible rfl
                rotate_left
                · simp only [Act.put, List.setIfInBounds_toArray, List.set_cons_zero, List.set_cons_succ, i64_w, i32_w]
                  rfl
                refine pure_ (i := 5) (N := some 74) (v := ?_) (a' := ?_) #[true, true, true, true, true, true, false, false, false, false] rfl rfl (any_of HT_.out (by kernel_rfl)) (fun _ _ _ h => h) (Or.inl ⟨by rfl, ?_⟩) ?_ ?_
                rotate_left
                · intro w'
                  go_simp
                  with_reducible rfl
                rotate_left
                · simp only [Act.put, List.setIfInBounds_toArray, List.set_cons_zero, List.set_cons_succ, i64_w, i32_w]
                  rfl
                refine pure_ (i := 6) (N := some 75) (v := ?_) (a' := ?_) #[true, true, true, true, true, true, true, false, false, false] rfl rfl (any_of HT_.out (by kernel_rfl)) (fun _ _ _ h => h) (Or.inl ⟨by rfl, ?_⟩) ?_ ?_
                rotate_left
                · intro w'
                  go_simp
                  with_reducible rfl
                rotate_left
                · simp only [Act.put, List.setIfInBounds_toArray, List.set_cons_zero, List.set_cons_succ, i64_w, i32_w]
                  rfl
                refine pure_ (i := 7) (N := some 76) (v := ?_) (a' := ?_) #[true, true, true, true, true, true, true, true, false, false] rfl rfl (any_of HT_.out (by kernel_rfl)) (fun _ _ _ h => h) (Or.inl ⟨by rfl, ?_⟩) ?_ ?_
                rotate_left
                · intro w'
                  go_simp
                  with_reducible rfl
                rotate_left
                · simp only [Act.put, List.setIfInBounds_toArray, List.set_cons_zero, List.set_cons_succ, i64_w, i32_w]
                  rfl
                refine pure_ (i := 8) (N := some 16) (v := ?_) (a' := ?_) #[true, true, true, true, true, true, true, true, true, false] rfl rfl (any_of HT_.out (by kernel_rfl)) (fun _ _ _ h => h) (Or.inl ⟨by rfl, ?_⟩) ?_ ?_
                rotate_left
                · intro w'
                  go_simp
                  with_reducible rfl
                rotate_left
                · simp only [Act.put, List.setIfInBounds_toArray, List.set_cons_zero, List.set_cons_succ, i64_w, i32_w]
                  rfl
                refine pure_ (i := 9) (N := some 17) (v := ?_) (a' := ?_) #[true, true, true, true, true, true, true, true, true, true] rfl rfl (any_of HT_.out (by kernel_rfl)) (fun _ _ _ h => h) (Or.inl ⟨by rfl, ?_⟩) ?_ ?_
                rotate_left
                · intro w'
                  go_simp
                  with_reducible rfl
                rotate_left
                · simp only [Act.put, List.setIfInBounds_toArray, List.set_cons_zero, List.set_cons_succ, i64_w, i32_w]
                  rfl
                refine done_ (done_of HT_.out (by kernel_rfl)) ?_
                go_upto_region 17 with (first | ((with_reducible refine gate_callee (f := 20) rfl ?_); refine goesL_ (some 80) rfl rfl Try.func20 (by kernel_rfl) rfl #[.int .i64 (wrap64 (Int.tmod a1 11)), .int .i64 (Int.tmod (wrap64 (a2)) t301)] rfl (by (try simp only [List.map_toArray, List.map_cons, List.map_nil]); first | done | rfl | (simp only [List.length_drop, List.length_take]; rfl)) ?_; (with_reducible refine (waves_At.calls kj21 (wrap64 (Int.tmod a1 11)) (Int.tmod (wrap64 (a2)) t301) t303 t304 _ A28.out).mono ?_); rintro e w34 ⟨v305, rfl, ho0, hb⟩; refine ⟨_, rfl, ?_⟩; have n0_ := Aside0.mk (Kd.R_lower ho0 (below_size (by repeat (first | (with_reducible first | exact HB.out | apply below_alloc | apply pw_below_drewN | apply below_drew1) | exact HB.out)))); have n1_ := Aside0.mk (below_step (by repeat (first | (with_reducible first | exact HB.out | apply below_alloc | apply pw_below_drewN | apply below_drew1) | exact HB.out)) hb); clear HB; have HO306 := n0_; have HB := n1_; clear n0_ n1_; (try clear hb); (try clear hb2); (try clear hk); (try clear hi); (try clear ho0)) | ((with_reducible refine gate_callee (f := 20) rfl ?_); refine goesL_ (some 86) rfl rfl Try.func20 (by kernel_rfl) rfl #[.int .i64 (wrap64 (Int.tmod a1 11)), .int .i64 (Int.tmod (wrap64 (a3)) t301)] rfl (by (try simp only [List.map_toArray, List.map_cons, List.map_nil]); first | done | rfl | (simp only [List.length_drop, List.length_take]; rfl)) ?_; (with_reducible refine (waves_At.calls kj21 (wrap64 (Int.tmod a1 11)) (Int.tmod (wrap64 (a3)) t301) t307 t308 _ A29.out).mono ?_); rintro e w35 ⟨v309, rfl, ho0, hb⟩; refine ⟨_, rfl, ?_⟩; have n0_ := Aside0.mk (Kd.R_elder' (by (with_reducible repeat (first | apply Kd.R_alloc | apply Kd.R_drewN | apply Kd.R_drew)); exact HO306.out) (Kd.R_base ho0) hb); have n1_ := Aside0.mk (Kd.R_lower (Kd.R_new' ho0 (Kd.R_lt (by (with_reducible repeat (first | apply Kd.R_alloc | apply Kd.R_drewN | apply Kd.R_drew)); exact HO306.out))) (below_size (by repeat (first | (with_reducible first | exact HB.out | apply below_alloc | apply pw_below_drewN | apply below_drew1) | exact HB.out)))); have n2_ := Aside0.mk (below_step (by repeat (first | (with_reducible first | exact HB.out | apply below_alloc | apply pw_below_drewN | apply below_drew1) | exact HB.out)) hb); clear HO306; clear HB; have HO306 := n0_; have HO310 := n1_; have HB := n2_; clear n0_ n1_ n2_; (try clear hb); (try clear hb2); (try clear hk); (try clear hi); (try clear ho0); obtain ⟨Ao36, co36, eo36⟩ := Kd.R_slice HO306.out; subst eo36) | ((with_reducible refine gate_callee (f := 18) rfl ?_); refine goesL_ (some 91) rfl rfl Try.func18 (by kernel_rfl) rfl #[.slice Ao36 t303.length co36] rfl (by (try simp only [List.map_toArray, List.map_cons, List.map_nil]); first | done | rfl | (simp only [List.length_drop, List.length_take]; rfl)) ?_; (with_reducible refine (waves_Rank.calls kj21 _ _ t303 t311 t312 _ ?side1 ?side2 A30.out).mono ?_); (case side1 => repeat (first | exact (Kd.R_reads' HO306.out).2.2 | (with_reducible refine Kd.C_alloc ?_ _) | (with_reducible refine Kd.C_drewN ?_ _) | (with_reducible refine Kd.C_drew ?_))); (case side2 => exact (Kd.R_reads' HO306.out).2.1); rintro e w37 ⟨rfl, hb⟩; refine ⟨_, rfl, ?_⟩; have n0_ := Aside0.mk (Kd.R_below (by (with_reducible repeat (first | apply Kd.R_alloc | apply Kd.R_drewN | apply Kd.R_drew)); exact HO306.out) hb); have n1_ := Aside0.mk (Kd.R_below (by (with_reducible repeat (first | apply Kd.R_alloc | apply Kd.R_drewN | apply Kd.R_drew)); exact HO310.out) hb); have n2_ := Aside0.mk (below_step (by repeat (first | (with_reducible first | exact HB.out | apply below_alloc | apply pw_below_drewN | apply below_drew1) | exact HB.out)) hb); clear HO306; clear HO310; clear HB; have HO306 := n0_; have HO310 := n1_; have HB := n2_; clear n0_ n1_ n2_; (try clear hb); (try clear hb2); (try clear hk); (try clear hi)) | ((with_reducible refine gate_callee (f := 20) rfl ?_); refine goesL_ (some 97) rfl rfl Try.func20 (by kernel_rfl) rfl #[.int .i64 (wrap64 (Int.tmod a1 11)), .int .i64 t301] rfl (by (try simp only [List.map_toArray, List.map_cons, List.map_nil]); first | done | rfl | (simp only [List.length_drop, List.length_take]; rfl)) ?_; (with_reducible refine (waves_At.calls kj21 (wrap64 (Int.tmod a1 11)) t301 t313 t314 _ A31.out).mono ?_); rintro e w38 ⟨v315, rfl, ho0, hb⟩; refine ⟨_, rfl, ?_⟩; have n0_ := Aside0.mk (Kd.R_elder' (by (with_reducible repeat (first | apply Kd.R_alloc | apply Kd.R_drewN | apply Kd.R_drew)); exact HO306.out) (Kd.R_base ho0) hb); have n1_ := Aside0.mk (Kd.R_elder' (by (with_reducible repeat (first | apply Kd.R_alloc | apply Kd.R_drewN | apply Kd.R_drew)); exact HO310.out) (Kd.R_base ho0) hb); have n2_ := Aside0.mk (Kd.R_lower (Kd.R_new' (Kd.R_new' ho0 (Kd.R_lt (by (with_reducible repeat (first | apply Kd.R_alloc | apply Kd.R_drewN | apply Kd.R_drew)); exact HO306.out))) (Kd.R_lt (by (with_reducible repeat (first | apply Kd.R_alloc | apply Kd.R_drewN | apply Kd.R_drew)); exact HO310.out))) (below_size (by repeat (first | (with_reducible first | exact HB.out | apply below_alloc | apply pw_below_drewN | apply below_drew1) | exact HB.out)))); have n3_ := Aside0.mk (below_step (by repeat (first | (with_reducible first | exact HB.out | apply below_alloc | apply pw_below_drewN | apply below_drew1) | exact HB.out)) hb); clear HO306; clear HO310; clear HB; have HO306 := n0_; have HO310 := n1_; have HO316 := n2_; have HB := n3_; clear n0_ n1_ n2_ n3_; (try clear hb); (try clear hb2); (try clear hk); (try clear hi); (try clear ho0)))
                (try simp only [Act.put, List.setIfInBounds_toArray, List.set_cons_zero, List.set_cons_succ])
                go_cut [135] (fun v135 wc => ∃ (kq : Nat) (x135_31 : Bool), v135 = .bool x135_31 ∧ Aside0 (clochelaw05_WavesRanked.j2 kq (wrap64 (Int.tmod a1 11)) (Int.tmod (wrap64 (a2)) t301) (Int.tmod (wrap64 (a3)) t301) t303 t307 x135_31 = some r) ∧ Aside0 (kq ≤ kj21) ∧ Aside0 (Kd.R (Kd.int .i64) 3 wc w.heap.size (fun k_ => some k_ ≠ (v309 : Value).ownBlock) (.slice Ao36 t303.length co36) t303) ∧ Aside0 (Kd.R (Kd.int .i64) 3 wc w.heap.size (fun k_ => some k_ ≠ ((.slice Ao36 t303.length co36) : Value).ownBlock) v309 t307) ∧ Aside0 (Below w.heap.size w wc))
                case first =>
                  have H := HC32.out
                  clear HC32
                  by_cases c39 : t304 = 0
                  · rw [if_pos c39] at H
                    have c39b0 : (t304 == 0) = true := beq_iff_eq.mpr c39
                    have c39b1 : (t304 != 0) = false := bne_eq_false_iff_eq.mpr c39
                    clear c39
                    (first | rw [c39b0] | (simp only [i64_w, i32_w]; rw [c39b0]) | skip)
                    by_cases c40 : t308 = 0
                    · rw [if_pos c40] at H
                      have c40b0 : (t308 == 0) = true := beq_iff_eq.mpr c40
                      have c40b1 : (t308 != 0) = false := bne_eq_false_iff_eq.mpr c40
                      clear c40
                      by_cases c41 : t312 = 0
                      · rw [if_pos c41] at H
                        have c41b0 : (t312 == 0) = true := beq_iff_eq.mpr c41
                        have c41b1 : (t312 != 0) = false := bne_eq_false_iff_eq.mpr c41
                        clear c41
                        by_cases c42 : t314 = 4
                        · rw [if_pos c42] at H
                          have c42b0 : (t314 == 4) = true := beq_iff_eq.mpr c42
                          have c42b1 : (t314 != 4) = false := bne_eq_false_iff_eq.mpr c42
                          clear c42
                          by_cases c43 : t311 = (Int.tmod (wrap64 (a2)) t301)
                          · rw [if_pos c43] at H
                            have c43b0 : (t311 == (Int.tmod (wrap64 (a2)) t301)) = true := beq_iff_eq.mpr c43
                            have c43b1 : (t311 != (Int.tmod (wrap64 (a2)) t301)) = false := bne_eq_false_iff_eq.mpr c43
                            clear c43
                            by_cases c44 : (t303.length : Int) = (wrap64 (Int.tmod a1 11))
                            · rw [if_pos c44] at H
                              have c44b0 : ((t303.length : Int) == (wrap64 (Int.tmod a1 11))) = true := beq_iff_eq.mpr c44
                              have c44b1 : ((t303.length : Int) != (wrap64 (Int.tmod a1 11))) = false := bne_eq_false_iff_eq.mpr c44
                              clear c44
                              by_cases c45 : (t307.length : Int) = (wrap64 (Int.tmod a1 11))
                              · rw [if_pos c45] at H
                                have c45b0 : ((t307.length : Int) == (wrap64 (Int.tmod a1 11))) = true := beq_iff_eq.mpr c45
                                have c45b1 : ((t307.length : Int) != (wrap64 (Int.tmod a1 11))) = false := bne_eq_false_iff_eq.mpr c45
                                clear c45
                                replace H := Option.bind_eq_some_iff.mp H
                                obtain ⟨t317, A460, H⟩ := H
                                replace H : (clochelaw05_WavesRanked.j2 kj21 (wrap64 (Int.tmod a1 11)) (Int.tmod (wrap64 (a2)) t301) (Int.tmod (wrap64 (a3)) t301) t303 t307 (t317 != 0)) = some r := H
                                have A46 := Aside0.mk A460
                                clear A460
                                have H' := Aside0.mk H
                                clear H
                                obtain ⟨Ao47, co47, eo47⟩ := Kd.R_slice HO310.out
                                subst eo47
                                go_wp2_with (first | (go_at_call 24; (with_reducible refine (clocheref05_Row.calls kj21 _ _ t303 t317 _ ?side1 ?side2 A46.out).mono ?_); (case side1 => repeat (first | exact (Kd.R_reads' HO306.out).2.2 | (with_reducible refine Kd.C_alloc ?_ _) | (with_reducible refine Kd.C_drewN ?_ _) | (with_reducible refine Kd.C_drew ?_))); (case side2 => exact (Kd.R_reads' HO306.out).2.1); rintro e w' ⟨rfl, ⟨nd, rfl⟩⟩))
                                go_meet
                                case rel => exact ⟨_, ((t317 != 0)), (by first | rfl | (simp; done) | (simp [*]; done)), H', ⟨by have := HJ8.out; have := HJ21.out; first | omega | exact Nat.le_refl _⟩, ⟨by (with_reducible repeat (first | apply Kd.R_alloc | apply Kd.R_drewN | apply Kd.R_drew)); exact Kd.R_mono HO306.out (fun _ hk => hk.1.2)⟩, ⟨by (with_reducible repeat (first | apply Kd.R_alloc | apply Kd.R_drewN | apply Kd.R_drew)); exact Kd.R_mono HO310.out (fun _ hk => hk.1.2)⟩, ⟨by repeat (first | (with_reducible first | exact HB.out | apply below_alloc | apply pw_below_drewN | apply below_drew1) | exact HB.out)⟩⟩
                              · rw [if_neg c45] at H
                                have c45b0 : ((t307.length : Int) == (wrap64 (Int.tmod a1 11))) = false := beq_eq_false_iff_ne.mpr c45
                                have c45b1 : ((t307.length : Int) != (wrap64 (Int.tmod a1 11))) = true := bne_iff_ne.mpr c45
                                have H' := Aside0.mk H
                                clear H
                                obtain ⟨Ao48, co48, eo48⟩ := Kd.R_slice HO310.out
                                subst eo48
                                go_wp2
                                go_meet
                                case rel => exact ⟨_, (true), (by first | rfl | (simp; done) | (simp [*]; done)), H', ⟨by have := HJ8.out; have := HJ21.out; first | omega | exact Nat.le_refl _⟩, ⟨by (with_reducible repeat (first | apply Kd.R_alloc | apply Kd.R_drewN | apply Kd.R_drew)); exact Kd.R_mono HO306.out (fun _ hk => hk.1.2)⟩, ⟨by (with_reducible repeat (first | apply Kd.R_alloc | apply Kd.R_drewN | apply Kd.R_drew)); exact Kd.R_mono HO310.out (fun _ hk => hk.1.2)⟩, ⟨by repeat (first | (with_reducible first | exact HB.out | apply below_alloc | apply pw_below_drewN | apply below_drew1) | exact HB.out)⟩⟩
                            · rw [if_neg c44] at H
                              have c44b0 : ((t303.length : Int) == (wrap64 (Int.tmod a1 11))) = false := beq_eq_false_iff_ne.mpr c44
                              have c44b1 : ((t303.length : Int) != (wrap64 (Int.tmod a1 11))) = true := bne_iff_ne.mpr c44
                              have H' := Aside0.mk H
                              clear H
                              go_wp2
                              go_meet
                              case rel => exact ⟨_, (true), (by first | rfl | (simp; done) | (simp [*]; done)), H', ⟨by have := HJ8.out; have := HJ21.out; first | omega | exact Nat.le_refl _⟩, ⟨by (with_reducible repeat (first | apply Kd.R_alloc | apply Kd.R_drewN | apply Kd.R_drew)); exact Kd.R_mono HO306.out (fun _ hk => hk.1.2)⟩, ⟨by (with_reducible repeat (first | apply Kd.R_alloc | apply Kd.R_drewN | apply Kd.R_drew)); exact Kd.R_mono HO310.out (fun _ hk => hk.1.2)⟩, ⟨by repeat (first | (with_reducible first | exact HB.out | apply below_alloc | apply pw_below_drewN | apply below_drew1) | exact HB.out)⟩⟩
                          · rw [if_neg c43] at H
                            have c43b0 : (t311 == (Int.tmod (wrap64 (a2)) t301)) = false := beq_eq_false_iff_ne.mpr c43
                            have c43b1 : (t311 != (Int.tmod (wrap64 (a2)) t301)) = true := bne_iff_ne.mpr c43
                            have H' := Aside0.mk H
                            clear H
                            go_wp2
                            go_meet
                            case rel => exact ⟨_, (true), (by first | rfl | (simp; done) | (simp [*]; done)), H', ⟨by have := HJ8.out; have := HJ21.out; first | omega | exact Nat.le_refl _⟩, ⟨by (with_reducible repeat (first | apply Kd.R_alloc | apply Kd.R_drewN | apply Kd.R_drew)); exact Kd.R_mono HO306.out (fun _ hk => hk.1.2)⟩, ⟨by (with_reducible repeat (first | apply Kd.R_alloc | apply Kd.R_drewN | apply Kd.R_drew)); exact Kd.R_mono HO310.out (fun _ hk => hk.1.2)⟩, ⟨by repeat (first | (with_reducible first | exact HB.out | apply below_alloc | apply pw_below_drewN | apply below_drew1) | exact HB.out)⟩⟩
                        · rw [if_neg c42] at H
                          have c42b0 : (t314 == 4) = false := beq_eq_false_iff_ne.mpr c42
                          have c42b1 : (t314 != 4) = true := bne_iff_ne.mpr c42
                          have H' := Aside0.mk H
                          clear H
                          go_wp2
                          go_meet
                          case rel => exact ⟨_, (true), (by first | rfl | (simp; done) | (simp [*]; done)), H', ⟨by have := HJ8.out; have := HJ21.out; first | omega | exact Nat.le_refl _⟩, ⟨by (with_reducible repeat (first | apply Kd.R_alloc | apply Kd.R_drewN | apply Kd.R_drew)); exact Kd.R_mono HO306.out (fun _ hk => hk.1.2)⟩, ⟨by (with_reducible repeat (first | apply Kd.R_alloc | apply Kd.R_drewN | apply Kd.R_drew)); exact Kd.R_mono HO310.out (fun _ hk => hk.1.2)⟩, ⟨by repeat (first | (with_reducible first | exact HB.out | apply below_alloc | apply pw_below_drewN | apply below_drew1) | exact HB.out)⟩⟩
                      · rw [if_neg c41] at H
                        have c41b0 : (t312 == 0) = false := beq_eq_false_iff_ne.mpr c41
                        have c41b1 : (t312 != 0) = true := bne_iff_ne.mpr c41
                        have H' := Aside0.mk H
                        clear H
                        go_wp2
                        go_meet
                        case rel => exact ⟨_, (true), (by first | rfl | (simp; done) | (simp [*]; done)), H', ⟨by have := HJ8.out; have := HJ21.out; first | omega | exact Nat.le_refl _⟩, ⟨by (with_reducible repeat (first | apply Kd.R_alloc | apply Kd.R_drewN | apply Kd.R_drew)); exact Kd.R_mono HO306.out (fun _ hk => hk.1.2)⟩, ⟨by (with_reducible repeat (first | apply Kd.R_alloc | apply Kd.R_drewN | apply Kd.R_drew)); exact Kd.R_mono HO310.out (fun _ hk => hk.1.2)⟩, ⟨by repeat (first | (with_reducible first | exact HB.out | apply below_alloc | apply pw_below_drewN | apply below_drew1) | exact HB.out)⟩⟩
                    · rw [if_neg c40] at H
                      have c40b0 : (t308 == 0) = false := beq_eq_false_iff_ne.mpr c40
                      have c40b1 : (t308 != 0) = true := bne_iff_ne.mpr c40
                      have H' := Aside0.mk H
                      clear H
                      go_wp2
                      go_meet
                      case rel => exact ⟨_, (true), (by first | rfl | (simp; done) | (simp [*]; done)), H', ⟨by have := HJ8.out; have := HJ21.out; first | omega | exact Nat.le_refl _⟩, ⟨by (with_reducible repeat (first | apply Kd.R_alloc | apply Kd.R_drewN | apply Kd.R_drew)); exact Kd.R_mono HO306.out (fun _ hk => hk.1.2)⟩, ⟨by (with_reducible repeat (first | apply Kd.R_alloc | apply Kd.R_drewN | apply Kd.R_drew)); exact Kd.R_mono HO310.out (fun _ hk => hk.1.2)⟩, ⟨by repeat (first | (with_reducible first | exact HB.out | apply below_alloc | apply pw_below_drewN | apply below_drew1) | exact HB.out)⟩⟩
                  · rw [if_neg c39] at H
                    have c39b0 : (t304 == 0) = false := beq_eq_false_iff_ne.mpr c39
                    have c39b1 : (t304 != 0) = true := bne_iff_ne.mpr c39
                    (first | rw [c39b0] | (simp only [i64_w, i32_w]; rw [c39b0]) | skip)
                    have H' := Aside0.mk H
                    clear H
                    go_wp2
                    go_meet
                    case rel => exact ⟨_, (true), (by first | rfl | (simp; done) | (simp [*]; done)), H', ⟨by have := HJ8.out; have := HJ21.out; first | omega | exact Nat.le_refl _⟩, ⟨by (with_reducible repeat (first | apply Kd.R_alloc | apply Kd.R_drewN | apply Kd.R_drew)); exact Kd.R_mono HO306.out (fun _ hk => hk.1.2)⟩, ⟨by (with_reducible repeat (first | apply Kd.R_alloc | apply Kd.R_drewN | apply Kd.R_drew)); exact Kd.R_mono HO310.out (fun _ hk => hk.1.2)⟩, ⟨by repeat (first | (with_reducible first | exact HB.out | apply below_alloc | apply pw_below_drewN | apply below_drew1) | exact HB.out)⟩⟩
                case rest =>
                  clear HC32
                  try clear c1
                  try clear c2
                  try clear p2
                  try clear c3
                  try clear c4
                  try clear c5
                  try clear c5b0
                  try clear c5b1
                  try clear c6
                  try clear p6
                  try clear c11
                  try clear c11b0
                  try clear c11b1
                  try clear c13
                  try clear c13b0
                  try clear c13b1
                  try clear c15
                  try clear c17
                  try clear c18
                  try clear c20
                  try clear c22
                  try clear c24
                  try clear c24b0
                  try clear c24b1
                  try clear c25
                  try clear c25b0
                  try clear c26
                  try clear c27
                  try clear c27b0
                  try clear c27b1
                  try clear c39
                  try clear c39b0
                  try clear c39b1
                  try clear c40
                  try clear c40b0
                  try clear c40b1
                  try clear c41
                  try clear c41b0
                  try clear c41b1
                  try clear c42
                  try clear c42b0
                  try clear c42b1
                  try clear c43
                  try clear c43b0
                  try clear c43b1
                  try clear c44
                  try clear c44b0
                  try clear c44b1
                  try clear c45
                  try clear c45b0
                  try clear c45b1
                  try clear p2
                  try clear p6
                  obtain ⟨kq, x135_31, rfl, HA, HJ31, HO_18, HO_19, HB⟩ := hcut
                  cases kq with
                  | zero => exact absurd HA.out (by simp [clochelaw05_WavesRanked.j2])
                  | succ kj31 =>
                    have H := HA.out
                    clear HA
                    simp only [clochelaw05_WavesRanked.j2] at H
                    by_cases c49 : x135_31 = true
                    · subst c49
                      have H1 : (some false) = some r := by rw [if_pos rfl] at H; exact H
                      clear H
                      have H := H1
                      clear H1
                      obtain rfl := Option.some.inj H
                      go_wp2
                      go_ret
                      exact ⟨by first | rfl | (simp [errW_none, errW_some] <;> rfl) | (simp [*, errW_none, errW_some] <;> rfl), by repeat (first | (with_reducible first | exact HB.out | apply below_alloc | apply pw_below_drewN | apply below_drew1) | exact HB.out)⟩
                    · replace c49 := Bool.eq_false_iff.mpr c49
                      subst c49
                      have H1 : (clochelaw05_WavesRanked.l0 kj31 (wrap64 (Int.tmod a1 11)) (Int.tmod (wrap64 (a2)) t301) (Int.tmod (wrap64 (a3)) t301) t303 t307 0) = some r := by rw [if_neg (show ¬ (false = true) by decide)] at H; exact H
                      clear H
                      have H := H1
                      clear H1
                      have H' := Aside0.mk H
                      clear H
                      go_wp2
                      go_loopg [24] kj31 (fun kq v24 w' => ∃ (x24_4 : Int), v24 = .int .i64 x24_4 ∧ Aside0 (clochelaw05_WavesRanked.l0 kq (wrap64 (Int.tmod a1 11)) (Int.tmod (wrap64 (a2)) t301) (Int.tmod (wrap64 (a3)) t301) t303 t307 x24_4 = some r) ∧ Aside0 (kq ≤ kj31) ∧ Aside0 (Kd.R (Kd.int .i64) 3 w' w.heap.size (fun k_ => some k_ ≠ (v309 : Value).ownBlock) (.slice Ao36 t303.length co36) t303) ∧ Aside0 (Kd.R (Kd.int .i64) 3 w' w.heap.size (fun k_ => some k_ ≠ ((.slice Ao36 t303.length co36) : Value).ownBlock) v309 t307) ∧ Aside0 (Below w.heap.size w w'))
                      case atStart => exact ⟨(0), (by first | rfl | (simp; done) | (simp [*]; done)), H', ⟨Nat.le_refl _⟩, ⟨by (with_reducible repeat (first | apply Kd.R_alloc | apply Kd.R_drewN | apply Kd.R_drew)); exact HO_18.out⟩, ⟨by (with_reducible repeat (first | apply Kd.R_alloc | apply Kd.R_drewN | apply Kd.R_drew)); exact HO_19.out⟩, ⟨by repeat (first | (with_reducible first | exact HB.out | apply below_alloc | apply pw_below_drewN | apply below_drew1) | exact HB.out)⟩⟩
                      case round =>
                        clear H'
                        try clear c1
                        try clear c2
                        try clear p2
                        try clear c3
                        try clear c4
                        try clear c5
                        try clear c5b0
                        try clear c5b1
                        try clear c6
                        try clear p6
                        try clear c11
                        try clear c11b0
                        try clear c11b1
                        try clear c13
                        try clear c13b0
                        try clear c13b1
                        try clear c15
                        try clear c17
                        try clear c18
                        try clear c20
                        try clear c22
                        try clear c24
                        try clear c24b0
                        try clear c24b1
                        try clear c25
                        try clear c25b0
                        try clear c26
                        try clear c27
                        try clear c27b0
                        try clear c27b1
                        try clear c39
                        try clear c39b0
                        try clear c39b1
                        try clear c40
                        try clear c40b0
                        try clear c40b1
                        try clear c41
                        try clear c41b0
                        try clear c41b1
                        try clear c42
                        try clear c42b0
                        try clear c42b1
                        try clear c43
                        try clear c43b0
                        try clear c43b1
                        try clear c44
                        try clear c44b0
                        try clear c44b1
                        try clear c45
                        try clear c45b0
                        try clear c45b1
                        try clear c49
                        try clear p2
                        try clear p6
                        obtain ⟨x24_4, rfl, HA, HK4, HO_18, HO_19, HB⟩ := hrel
                        cases gk with
                        | zero => exact absurd HA.out (by simp [clochelaw05_WavesRanked.l0])
                        | succ k4 =>
                          have H := HA.out
                          clear HA
                          simp only [clochelaw05_WavesRanked.l0] at H
                          by_cases c50 : x24_4 < (wrap64 (Int.tmod a1 11))
                          · rw [if_pos c50] at H
                            have c50b0 : decide (x24_4 < (wrap64 (Int.tmod a1 11))) = true := decide_eq_true c50
                            clear c50
                            by_cases c51 : 0 ≤ x24_4
                            · rw [if_pos c51] at H
                              have c51b0 : decide (0 ≤ x24_4) = true := decide_eq_true c51
                              clear c51
                              by_cases c52 : x24_4 < (t303.length : Int)
                              · rw [if_pos c52] at H
                                have c52b0 : decide (x24_4 < (t303.length : Int)) = true := decide_eq_true c52
                                clear c52
                                by_cases c53 : x24_4 < (t307.length : Int)
                                · rw [if_pos c53] at H
                                  have c53b0 : decide (x24_4 < (t307.length : Int)) = true := decide_eq_true c53
                                  clear c53
                                  by_cases c54 : (rd t303 x24_4) = (rd t307 x24_4)
                                  · rw [if_pos c54] at H
                                    have c54b0 : ((rd t303 x24_4) == (rd t307 x24_4)) = true := beq_iff_eq.mpr c54
                                    have c54b1 : ((rd t303 x24_4) != (rd t307 x24_4)) = false := bne_eq_false_iff_eq.mpr c54
                                    clear c54
                                    have H' := Aside0.mk H
                                    clear H
                                    try go_wp2
                                    have n0_ := Aside0.mk (Kd.R_drew HO_18.out)
                                    have n1_ := Aside0.mk (Kd.R_drew HO_19.out)
                                    have n2_ := Aside0.mk (below_drew1 HB.out)
                                    clear HO_18
                                    clear HO_19
                                    clear HB
                                    have HO_18 := n0_
                                    have HO_19 := n1_
                                    have HB := n2_
                                    clear n0_ n1_ n2_
                                    have p318 : 0 ≤ (x24_4 : Int) := of_decide_eq_true (by first | (with_reducible assumption) | assumption)
                                    have q318 : x24_4 < (t303.length : Int) := of_decide_eq_true (by first | (with_reducible assumption) | assumption)
                                    obtain ⟨ad318, e318, hx318_0⟩ := Kd.at_int (Kd.R_reads' HO_18.out).2.2 x24_4 p318 q318
                                    cases e318
                                    replace p318 := eq_true p318
                                    replace q318 := eq_true q318
                                    obtain ⟨Ao56, co56, eo56⟩ := Kd.R_slice HO_19.out
                                    (first | subst eo56 | (injection eo56 with f1_ f2_ f3_; have f4_ := f1_.symm; have f5_ := f3_.symm; clear f1_ f2_ f3_; subst f4_; subst f5_))
                                    have p319 : 0 ≤ (x24_4 : Int) := of_decide_eq_true (by first | (with_reducible assumption) | assumption)
                                    have q319 : x24_4 < (t307.length : Int) := of_decide_eq_true (by first | (with_reducible assumption) | assumption)
                                    obtain ⟨ad319, e319, hx319_0⟩ := Kd.at_int (Kd.R_reads' HO_19.out).2.2 x24_4 p319 q319
                                    cases e319
                                    replace p319 := eq_true p319
                                    replace q319 := eq_true q319
                                    refine start_ (n := 9) (S := fun w' => w'.cell? (ad318.add (x24_4).toNat) = some (.int .i64 (rd t303 x24_4)) ∧ w'.cell? (ad319.add (x24_4).toNat) = some (.int .i64 (rd t307 x24_4))) (ds := []) #[false, false, false, false, false, false, false, false, false] (by kernel_rfl) rfl rfl ⟨hx318_0, hx319_0⟩ (fun hHeld => ?_); refine with_tabW clochelaw05_WavesRanked.tab22 clochelaw05_WavesRanked.bits22 (fun HT_ HW_ => ?_)
                                    generalize wr.drew = w55 at HO_18 HO_19 HB hx318_0 hx319_0 hHeld ⊢
                                    refine pure_ (i := 0) (N := some 141) (v := ?_) (a' := ?_) #[true, false, false, false, false, false, false, false, false] rfl rfl (any_of HT_.out (by kernel_rfl)) (fun _ _ _ h => h) (Or.inl ⟨by rfl, ?_⟩) ?_ ?_
                                    rotate_left
                                    · intro w'
                                      go_simp
                                      with_reducible rfl
                                    rotate_left
                                    · simp only [Act.put, List.setIfInBounds_toArray, List.set_cons_zero, List.set_cons_succ, i64_w, i32_w]
                                      rfl
                                    refine pure_ (i := 1) (N := some 142) (v := ?_) (a' := ?_) #[true, true, false, false, false, false, false, false, false] rfl rfl (any_of HT_.out (by kernel_rfl)) (fun _ _ _ h => h) (Or.inl ⟨by rfl, ?_⟩) ?_ ?_
                                    rotate_left
                                    · intro w'
                                      go_simp
                                      with_reducible rfl
                                    rotate_left
                                    · simp only [Act.put, List.setIfInBounds_toArray, List.set_cons_zero, List.set_cons_succ, i64_w, i32_w]
                                      rfl
                                    refine pure_ (i := 2) (N := some 143) (v := ?_) (a' := ?_) #[true, true, true, false, false, false, false, false, false] rfl rfl (any_of HT_.out (by kernel_rfl)) (fun _ _ _ h => h) (Or.inl ⟨by rfl, ?_⟩) ?_ ?_
                                    rotate_left
                                    · intro w'
                                      go_simp
                                      with_reducible rfl
                                    rotate_left
                                    · simp only [Act.put, List.setIfInBounds_toArray, List.set_cons_zero, List.set_cons_succ, i64_w, i32_w]
                                      rfl
                                    refine pure_ (i := 4) (N := some 145) (v := ?_) (a' := ?_) #[true, true, true, false, true, false, false, false, false] rfl rfl (any_of HT_.out (by kernel_rfl)) (fun _ _ _ h => h) (Or.inl ⟨by rfl, ?_⟩) ?_ ?_
                                    rotate_left
                                    · intro w'
                                      go_simp
                                      with_reducible rfl
                                    rotate_left
                                    · simp only [Act.put, List.setIfInBounds_toArray, List.set_cons_zero, List.set_cons_succ, i64_w, i32_w]
                                      rfl
                                    refine pure_ (i := 5) (N := some 146) (v := ?_) (a' := ?_) #[true, true, true, false, true, true, false, false, false] rfl rfl (any_of HT_.out (by kernel_rfl)) (fun _ _ _ h => h) (Or.inl ⟨by rfl, ?_⟩) ?_ ?_
                                    rotate_left
                                    · intro w'
                                      go_simp
                                      with_reducible rfl
                                    rotate_left
                                    · simp only [Act.put, List.setIfInBounds_toArray, List.set_cons_zero, List.set_cons_succ, i64_w, i32_w]
                                      rfl
                                    refine pure_ (i := 6) (N := some 147) (v := ?_) (a' := ?_) #[true, true, true, false, true, true, true, false, false] rfl rfl (any_of HT_.out (by kernel_rfl)) (fun _ _ _ h => h) (Or.inl ⟨by rfl, ?_⟩) ?_ ?_
                                    rotate_left
                                    · intro w'
                                      go_simp
                                      with_reducible rfl
                                    rotate_left
                                    · simp only [Act.put, List.setIfInBounds_toArray, List.set_cons_zero, List.set_cons_succ, i64_w, i32_w]
                                      rfl
                                    refine take_ (i := 3) (N := some 144) (v := ?_) (a' := ?_) #[true, true, true, true, true, true, true, false, false] rfl rfl (take_ofW HT_.out HW_.out (by kernel_rfl)) (fun _ _ _ h => h) (Or.inl ⟨by rfl, ?_⟩) hHeld ?_ ?_
                                    rotate_left
                                    · rintro w' ⟨s0, s1⟩
                                      go_simp
                                      with_reducible rfl
                                    rotate_left
                                    · simp only [Act.put, List.setIfInBounds_toArray, List.set_cons_zero, List.set_cons_succ, i64_w, i32_w]
                                      rfl
                                    refine take_ (i := 7) (N := some 148) (v := ?_) (a' := ?_) #[true, true, true, true, true, true, true, true, false] rfl rfl (take_ofW HT_.out HW_.out (by kernel_rfl)) (fun _ _ _ h => h) (Or.inl ⟨by rfl, ?_⟩) hHeld ?_ ?_
                                    rotate_left
                                    · rintro w' ⟨s0, s1⟩
                                      go_simp
                                      with_reducible rfl
                                    rotate_left
                                    · simp only [Act.put, List.setIfInBounds_toArray, List.set_cons_zero, List.set_cons_succ, i64_w, i32_w]
                                      rfl
                                    refine pure_ (i := 8) (N := some 149) (v := ?_) (a' := ?_) #[true, true, true, true, true, true, true, true, true] rfl rfl (any_of HT_.out (by kernel_rfl)) (fun _ _ _ h => h) (Or.inl ⟨by rfl, ?_⟩) ?_ ?_
                                    rotate_left
                                    · intro w'
                                      go_simp
                                      with_reducible rfl
                                    rotate_left
                                    · simp only [Act.put, List.setIfInBounds_toArray, List.set_cons_zero, List.set_cons_succ, i64_w, i32_w]
                                      rfl
                                    refine done_ (done_of HT_.out (by kernel_rfl)) ?_
                                    try go_wp2
                                    go_roundg k4
                                    case measure => have := HJ8.out; have := HJ21.out; have := HJ31.out; have := HK4.out; omega
                                    case rel => exact ⟨(wrap64 (x24_4 + 1)), (by first | rfl | (simp; done) | (simp [*]; done)), H', ⟨by have := HJ8.out; have := HJ21.out; have := HJ31.out; have := HK4.out; omega⟩, ⟨by (with_reducible repeat (first | apply Kd.R_alloc | apply Kd.R_drewN | apply Kd.R_drew)); exact HO_18.out⟩, ⟨by (with_reducible repeat (first | apply Kd.R_alloc | apply Kd.R_drewN | apply Kd.R_drew)); exact HO_19.out⟩, ⟨by repeat (first | (with_reducible first | exact HB.out | apply below_alloc | apply pw_below_drewN | apply below_drew1) | exact HB.out)⟩⟩
                                  · rw [if_neg c54] at H
                                    have c54b0 : ((rd t303 x24_4) == (rd t307 x24_4)) = false := beq_eq_false_iff_ne.mpr c54
                                    have c54b1 : ((rd t303 x24_4) != (rd t307 x24_4)) = true := bne_iff_ne.mpr c54
                                    by_cases c57 : ((decide ((rd t303 x24_4) < (rd t307 x24_4))) == (decide ((Int.tmod (wrap64 (a2)) t301) < (Int.tmod (wrap64 (a3)) t301)))) = true
                                    · rw [if_pos c57] at H
                                      have c57b0 : ((decide ((rd t303 x24_4) < (rd t307 x24_4))) == (decide ((Int.tmod (wrap64 (a2)) t301) < (Int.tmod (wrap64 (a3)) t301)))) = true := c57
                                      (try (have c57b1 : decide ((decide ((rd t303 x24_4) < (rd t307 x24_4))) = (decide ((Int.tmod (wrap64 (a2)) t301) < (Int.tmod (wrap64 (a3)) t301)))) = true := by simpa using c57))
                                      (try (have c57b2 : ((decide ((rd t303 x24_4) < (rd t307 x24_4))) == (decide ((Int.tmod (wrap64 (a2)) t301) < (Int.tmod (wrap64 (a3)) t301)))) = true := by simpa using c57))
                                      clear c57
                                      replace H := Option.bind_eq_some_iff.mp H
                                      obtain ⟨t322, A580, H⟩ := H
                                      replace H : (some t322) = some r := H
                                      have A58 := Aside0.mk A580
                                      clear A580
                                      obtain rfl := Option.some.inj H
                                      try go_wp2
                                      have n0_ := Aside0.mk (Kd.R_drew HO_18.out)
                                      have n1_ := Aside0.mk (Kd.R_drew HO_19.out)
                                      have n2_ := Aside0.mk (below_drew1 HB.out)
                                      clear HO_18
                                      clear HO_19
                                      clear HB
                                      have HO_18 := n0_
                                      have HO_19 := n1_
                                      have HB := n2_
                                      clear n0_ n1_ n2_
                                      have p318 : 0 ≤ (x24_4 : Int) := of_decide_eq_true (by first | (with_reducible assumption) | assumption)
                                      have q318 : x24_4 < (t303.length : Int) := of_decide_eq_true (by first | (with_reducible assumption) | assumption)
                                      obtain ⟨ad318, e318, hx318_0⟩ := Kd.at_int (Kd.R_reads' HO_18.out).2.2 x24_4 p318 q318
                                      cases e318
                                      replace p318 := eq_true p318
                                      replace q318 := eq_true q318
                                      obtain ⟨Ao60, co60, eo60⟩ := Kd.R_slice HO_19.out
                                      (first | subst eo60 | (injection eo60 with f1_ f2_ f3_; have f4_ := f1_.symm; have f5_ := f3_.symm; clear f1_ f2_ f3_; subst f4_; subst f5_))
                                      have p319 : 0 ≤ (x24_4 : Int) := of_decide_eq_true (by first | (with_reducible assumption) | assumption)
                                      have q319 : x24_4 < (t307.length : Int) := of_decide_eq_true (by first | (with_reducible assumption) | assumption)
                                      obtain ⟨ad319, e319, hx319_0⟩ := Kd.at_int (Kd.R_reads' HO_19.out).2.2 x24_4 p319 q319
                                      cases e319
                                      replace p319 := eq_true p319
                                      replace q319 := eq_true q319
                                      refine start_ (n := 9) (S := fun w' => w'.cell? (ad318.add (x24_4).toNat) = some (.int .i64 (rd t303 x24_4)) ∧ w'.cell? (ad319.add (x24_4).toNat) = some (.int .i64 (rd t307 x24_4))) (ds := []) #[false, false, false, false, false, false, false, false, false] (by kernel_rfl) rfl rfl ⟨hx318_0, hx319_0⟩ (fun hHeld => ?_); refine with_tabW clochelaw05_WavesRanked.tab22 clochelaw05_WavesRanked.bits22 (fun HT_ HW_ => ?_)
                                      generalize wr.drew = w59 at HO_18 HO_19 HB hx318_0 hx319_0 hHeld ⊢
                                      refine pure_ (i := 0) (N := some 141) (v := ?_) (a' := ?_) #[true, false, false, false, false, false, false, false, false] rfl rfl (any_of HT_.out (by kernel_rfl)) (fun _ _ _ h => h) (Or.inl ⟨by rfl, ?_⟩) ?_ ?_
                                      rotate_left
                                      · intro w'
                                        go_simp
                                        with_reducible rfl
                                      rotate_left
                                      · simp only [Act.put, List.setIfInBounds_toArray, List.set_cons_zero, List.set_cons_succ, i64_w, i32_w]
                                        rfl
                                      refine pure_ (i := 1) (N := some 142) (v := ?_) (a' := ?_) #[true, true, false, false, false, false, false, false, false] rfl rfl (any_of HT_.out (by kernel_rfl)) (fun _ _ _ h => h) (Or.inl ⟨by rfl, ?_⟩) ?_ ?_
                                      rotate_left
                                      · intro w'
                                        go_simp
                                        with_reducible rfl
                                      rotate_left
                                      · simp only [Act.put, List.setIfInBounds_toArray, List.set_cons_zero, List.set_cons_succ, i64_w, i32_w]
                                        rfl
                                      refine pure_ (i := 2) (N := some 143) (v := ?_) (a' := ?_) #[true, true, true, false, false, false, false, false, false] rfl rfl (any_of HT_.out (by kernel_rfl)) (fun _ _ _ h => h) (Or.inl ⟨by rfl, ?_⟩) ?_ ?_
                                      rotate_left
                                      · intro w'
                                        go_simp
                                        with_reducible rfl
                                      rotate_left
                                      · simp only [Act.put, List.setIfInBounds_toArray, List.set_cons_zero, List.set_cons_succ, i64_w, i32_w]
                                        rfl
                                      refine pure_ (i := 4) (N := some 145) (v := ?_) (a' := ?_) #[true, true, true, false, true, false, false, false, false] rfl rfl (any_of HT_.out (by kernel_rfl)) (fun _ _ _ h => h) (Or.inl ⟨by rfl, ?_⟩) ?_ ?_
                                      rotate_left
                                      · intro w'
                                        go_simp
                                        with_reducible rfl
                                      rotate_left
                                      · simp only [Act.put, List.setIfInBounds_toArray, List.set_cons_zero, List.set_cons_succ, i64_w, i32_w]
                                        rfl
                                      refine pure_ (i := 5) (N := some 146) (v := ?_) (a' := ?_) #[true, true, true, false, true, true, false, false, false] rfl rfl (any_of HT_.out (by kernel_rfl)) (fun _ _ _ h => h) (Or.inl ⟨by rfl, ?_⟩) ?_ ?_
                                      rotate_left
                                      · intro w'
                                        go_simp
                                        with_reducible rfl
                                      rotate_left
                                      · simp only [Act.put, List.setIfInBounds_toArray, List.set_cons_zero, List.set_cons_succ, i64_w, i32_w]
                                        rfl
                                      refine pure_ (i := 6) (N := some 147) (v := ?_) (a' := ?_) #[true, true, true, false, true, true, true, false, false] rfl rfl (any_of HT_.out (by kernel_rfl)) (fun _ _ _ h => h) (Or.inl ⟨by rfl, ?_⟩) ?_ ?_
                                      rotate_left
                                      · intro w'
                                        go_simp
                                        with_reducible rfl
                                      rotate_left
                                      · simp only [Act.put, List.setIfInBounds_toArray, List.set_cons_zero, List.set_cons_succ, i64_w, i32_w]
                                        rfl
                                      refine take_ (i := 3) (N := some 144) (v := ?_) (a' := ?_) #[true, true, true, true, true, true, true, false, false] rfl rfl (take_ofW HT_.out HW_.out (by kernel_rfl)) (fun _ _ _ h => h) (Or.inl ⟨by rfl, ?_⟩) hHeld ?_ ?_
                                      rotate_left
                                      · rintro w' ⟨s0, s1⟩
                                        go_simp
                                        with_reducible rfl
                                      rotate_left
                                      · simp only [Act.put, List.setIfInBounds_toArray, List.set_cons_zero, List.set_cons_succ, i64_w, i32_w]
                                        rfl
                                      refine take_ (i := 7) (N := some 148) (v := ?_) (a' := ?_) #[true, true, true, true, true, true, true, true, false] rfl rfl (take_ofW HT_.out HW_.out (by kernel_rfl)) (fun _ _ _ h => h) (Or.inl ⟨by rfl, ?_⟩) hHeld ?_ ?_
                                      rotate_left
                                      · rintro w' ⟨s0, s1⟩
                                        go_simp
                                        with_reducible rfl
                                      rotate_left
                                      · simp only [Act.put, List.setIfInBounds_toArray, List.set_cons_zero, List.set_cons_succ, i64_w, i32_w]
                                        rfl
                                      refine pure_ (i := 8) (N := some 149) (v := ?_) (a' := ?_) #[true, true, true, true, true, true, true, true, true] rfl rfl (any_of HT_.out (by kernel_rfl)) (fun _ _ _ h => h) (Or.inl ⟨by rfl, ?_⟩) ?_ ?_
                                      rotate_left
                                      · intro w'
                                        go_simp
                                        with_reducible rfl
                                      rotate_left
                                      · simp only [Act.put, List.setIfInBounds_toArray, List.set_cons_zero, List.set_cons_succ, i64_w, i32_w]
                                        rfl
                                      refine done_ (done_of HT_.out (by kernel_rfl)) ?_
                                      try go_wp2
                                      have n0_ := Aside0.mk (Kd.R_drew HO_18.out)
                                      have n1_ := Aside0.mk (Kd.R_drew HO_19.out)
                                      have n2_ := Aside0.mk (below_drew1 HB.out)
                                      clear HO_18
                                      clear HO_19
                                      clear HB
                                      have HO_18 := n0_
                                      have HO_19 := n1_
                                      have HB := n2_
                                      clear n0_ n1_ n2_
                                      have p320 : 0 ≤ (x24_4 : Int) := of_decide_eq_true (by first | (with_reducible assumption) | assumption)
                                      have q320 : x24_4 < (t303.length : Int) := of_decide_eq_true (by first | (with_reducible assumption) | assumption)
                                      obtain ⟨ad320, e320, hx320_0⟩ := Kd.at_int (Kd.R_reads' HO_18.out).2.2 x24_4 p320 q320
                                      obtain rfl : ad318 = ad320 := (by injection e320)
                                      replace p320 := eq_true p320
                                      replace q320 := eq_true q320
                                      have p321 : 0 ≤ (x24_4 : Int) := of_decide_eq_true (by first | (with_reducible assumption) | assumption)
                                      have q321 : x24_4 < (t307.length : Int) := of_decide_eq_true (by first | (with_reducible assumption) | assumption)
                                      obtain ⟨ad321, e321, hx321_0⟩ := Kd.at_int (Kd.R_reads' HO_19.out).2.2 x24_4 p321 q321
                                      obtain rfl : ad319 = ad321 := (by injection e321)
                                      replace p321 := eq_true p321
                                      replace q321 := eq_true q321
                                      refine start_ (n := 17) (S := fun w' => w'.cell? (ad318.add (x24_4).toNat) = some (.int .i64 (rd t303 x24_4)) ∧ w'.cell? (ad319.add (x24_4).toNat) = some (.int .i64 (rd t307 x24_4))) (ds := []) #[false, false, false, false, false, false, false, false, false, false, false, false, false, false, false, false, false] (by kernel_rfl) rfl rfl ⟨hx320_0, hx321_0⟩ (fun hHeld => ?_); refine with_tabW clochelaw05_WavesRanked.tab23 clochelaw05_WavesRanked.bits23 (fun HT_ HW_ => ?_)
                                      generalize w59.drew = w61 at HO_18 HO_19 HB hx320_0 hx321_0 hHeld ⊢
                                      refine pure_ (i := 0) (N := some 150) (v := ?_) (a' := ?_) #[true, false, false, false, false, false, false, false, false, false, false, false, false, false, false, false, false] rfl rfl (any_of HT_.out (by kernel_rfl)) (fun _ _ _ h => h) (Or.inl ⟨by rfl, ?_⟩) ?_ ?_
                                      rotate_left
                                      · intro w'
                                        go_simp
                                        with_reducible rfl
                                      rotate_left
                                      · simp only [Act.put, List.setIfInBounds_toArray, List.set_cons_zero, List.set_cons_succ, i64_w, i32_w]
                                        rfl
                                      refine pure_ (i := 1) (N := some 151) (v := ?_) (a' := ?_) #[true, true, false, false, false, false, false, false, false, false, false, false, false, false, false, false, false] rfl rfl (any_of HT_.out (by kernel_rfl)) (fun _ _ _ h => h) (Or.inl ⟨by rfl, ?_⟩) ?_ ?_
                                      rotate_left
                                      · intro w'
                                        go_simp
                                        with_reducible rfl
                                      rotate_left
                                      · simp only [Act.put, List.setIfInBounds_toArray, List.set_cons_zero, List.set_cons_succ, i64_w, i32_w]
                                        rfl
                                      refine pure_ (i := 2) (N := some 152) (v := ?_) (a' := ?_) #[true, true, true, false, false, false, false, false, false, false, false, false, false, false, false, false, false] rfl rfl (any_of HT_.out (by kernel_rfl)) (fun _ _ _ h => h) (Or.inl ⟨by rfl, ?_⟩) ?_ ?_
                                      rotate_left
                                      · intro w'
                                        go_simp
                                        with_reducible rfl
                                      rotate_left
                                      · simp only [Act.put, List.setIfInBounds_toArray, List.set_cons_zero, List.set_cons_succ, i64_w, i32_w]
                                        rfl
                                      refine pure_ (i := 4) (N := some 154) (v := ?_) (a' := ?_) #[true, true, true, false, true, false, false, false, false, false, false, false, false, false, false, false, false] rfl rfl (any_of HT_.out (by kernel_rfl)) (fun _ _ _ h => h) (Or.inl ⟨by rfl, ?_⟩) ?_ ?_
                                      rotate_left
                                      · intro w'
                                        go_simp
                                        with_reducible rfl
                                      rotate_left
                                      · simp only [Act.put, List.setIfInBounds_toArray, List.set_cons_zero, List.set_cons_succ, i64_w, i32_w]
                                        rfl
                                      refine pure_ (i := 5) (N := some 155) (v := ?_) (a' := ?_) #[true, true, true, false, true, true, false, false, false, false, false, false, false, false, false, false, false] rfl rfl (any_of HT_.out (by kernel_rfl)) (fun _ _ _ h => h) (Or.inl ⟨by rfl, ?_⟩) ?_ ?_
                                      rotate_left
                                      · intro w'
                                        go_simp
                                        with_reducible rfl
                                      rotate_left
                                      · simp only [Act.put, List.setIfInBounds_toArray, List.set_cons_zero, List.set_cons_succ, i64_w, i32_w]
                                        rfl
                                      refine pure_ (i := 6) (N := some 156) (v := ?_) (a' := ?_) #[true, true, true, false, true, true, true, false, false, false, false, false, false, false, false, false, false] rfl rfl (any_of HT_.out (by kernel_rfl)) (fun _ _ _ h => h) (Or.inl ⟨by rfl, ?_⟩) ?_ ?_
                                      rotate_left
                                      · intro w'
                                        go_simp
                                        with_reducible rfl
                                      rotate_left
                                      · simp only [Act.put, List.setIfInBounds_toArray, List.set_cons_zero, List.set_cons_succ, i64_w, i32_w]
                                        rfl
                                      refine pure_ (i := 9) (N := some 159) (v := ?_) (a' := ?_) #[true, true, true, false, true, true, true, false, false, true, false, false, false, false, false, false, false] rfl rfl (any_of HT_.out (by kernel_rfl)) (fun _ _ _ h => h) (Or.inl ⟨by rfl, ?_⟩) ?_ ?_
                                      rotate_left
                                      · intro w'
                                        go_simp
                                        with_reducible rfl
                                      rotate_left
                                      · simp only [Act.put, List.setIfInBounds_toArray, List.set_cons_zero, List.set_cons_succ, i64_w, i32_w]
                                        rfl
                                      refine pure_ (i := 10) (N := some 160) (v := ?_) (a' := ?_) #[true, true, true, false, true, true, true, false, false, true, true, false, false, false, false, false, false] rfl rfl (any_of HT_.out (by kernel_rfl)) (fun _ _ _ h => h) (Or.inl ⟨by rfl, ?_⟩) ?_ ?_
                                      rotate_left
                                      · intro w'
                                        go_simp
                                        with_reducible rfl
                                      rotate_left
                                      · simp only [Act.put, List.setIfInBounds_toArray, List.set_cons_zero, List.set_cons_succ, i64_w, i32_w]
                                        rfl
                                      refine pure_ (i := 11) (N := some 161) (v := ?_) (a' := ?_) #[true, true, true, false, true, true, true, false, false, true, true, true, false, false, false, false, false] rfl rfl (any_of HT_.out (by kernel_rfl)) (fun _ _ _ h => h) (Or.inl ⟨by rfl, ?_⟩) ?_ ?_
                                      rotate_left
                                      · intro w'
                                        go_simp
                                        with_reducible rfl
                                      rotate_left
                                      · simp only [Act.put, List.setIfInBounds_toArray, List.set_cons_zero, List.set_cons_succ, i64_w, i32_w]
                                        rfl
                                      refine take_ (i := 3) (N := some 153) (v := ?_) (a' := ?_) #[true, true, true, true, true, true, true, false, false, true, true, true, false, false, false, false, false] rfl rfl (take_ofW HT_.out HW_.out (by kernel_rfl)) (fun _ _ _ h => h) (Or.inl ⟨by rfl, ?_⟩) hHeld ?_ ?_
                                      rotate_left
                                      · rintro w' ⟨s0, s1⟩
                                        go_simp
                                        with_reducible rfl
                                      rotate_left
                                      · simp only [Act.put, List.setIfInBounds_toArray, List.set_cons_zero, List.set_cons_succ, i64_w, i32_w]
                                        rfl
                                      refine take_ (i := 7) (N := some 157) (v := ?_) (a' := ?_) #[true, true, true, true, true, true, true, true, false, true, true, true, false, false, false, false, false] rfl rfl (take_ofW HT_.out HW_.out (by kernel_rfl)) (fun _ _ _ h => h) (Or.inl ⟨by rfl, ?_⟩) hHeld ?_ ?_
                                      rotate_left
                                      · rintro w' ⟨s0, s1⟩
                                        go_simp
                                        with_reducible rfl
                                      rotate_left
                                      · simp only [Act.put, List.setIfInBounds_toArray, List.set_cons_zero, List.set_cons_succ, i64_w, i32_w]
                                        rfl
                                      refine pure_ (i := 8) (N := some 158) (v := ?_) (a' := ?_) #[true, true, true, true, true, true, true, true, true, true, true, true, false, false, false, false, false] rfl rfl (any_of HT_.out (by kernel_rfl)) (fun _ _ _ h => h) (Or.inl ⟨by rfl, ?_⟩) ?_ ?_
                                      rotate_left
                                      · intro w'
                                        go_simp
                                        with_reducible rfl
                                      rotate_left
                                      · simp only [Act.put, List.setIfInBounds_toArray, List.set_cons_zero, List.set_cons_succ, i64_w, i32_w]
                                        rfl
                                      refine pure_ (i := 12) (N := some 162) (v := ?_) (a' := ?_) #[true, true, true, true, true, true, true, true, true, true, true, true, true, false, false, false, false] rfl rfl (any_of HT_.out (by kernel_rfl)) (fun _ _ _ h => h) (Or.inl ⟨by rfl, ?_⟩) ?_ ?_
                                      rotate_left
                                      · intro w'
                                        go_simp
                                        with_reducible rfl
                                      rotate_left
                                      · simp only [Act.put, List.setIfInBounds_toArray, List.set_cons_zero, List.set_cons_succ, i64_w, i32_w]
                                        rfl
                                      refine pure_ (i := 13) (N := some 163) (v := ?_) (a' := ?_) #[true, true, true, true, true, true, true, true, true, true, true, true, true, true, false, false, false] rfl rfl (any_of HT_.out (by kernel_rfl)) (fun _ _ _ h => h) (Or.inl ⟨by rfl, ?_⟩) ?_ ?_
                                      rotate_left
                                      · intro w'
                                        go_simp
                                        with_reducible rfl
                                      rotate_left
                                      · simp only [Act.put, List.setIfInBounds_toArray, List.set_cons_zero, List.set_cons_succ, i64_w, i32_w]
                                        rfl
                                      refine one_ (i := 14) (N := some 164) #[true, true, true, true, true, true, true, true, true, true, true, true, true, true, true, false, false] rfl rfl (one_of HT_.out (by kernel_rfl)) (by decide) (fun K hK => ?_)
                                      refine goes_ Try.func17 (by kernel_rfl) rfl #[] (by rfl) rfl rfl (by (try simp only [List.map_toArray, List.map_cons, List.map_nil]); first | done | rfl | (simp only [List.length_drop, List.length_take]; rfl)) ?_
                                      with_reducible refine (clochelaw05_alive.calls k4  t322 _ A58.out).mono ?_
                                      rintro e w62 ⟨rfl, hb⟩
                                      have HS0_ := (hb.cell (World.block_lt_of_cell? _ _ (hHeld.1))).trans (hHeld.1)
                                      have HS1_ := (hb.cell (World.block_lt_of_cell? _ _ (hHeld.2))).trans (hHeld.2)
                                      refine ⟨_, rfl, ?_⟩
                                      have n0_ := Aside0.mk (Kd.R_below (by (with_reducible repeat (first | apply Kd.R_alloc | apply Kd.R_drewN | apply Kd.R_drew)); exact HO_18.out) hb)
                                      have n1_ := Aside0.mk (Kd.R_below (by (with_reducible repeat (first | apply Kd.R_alloc | apply Kd.R_drewN | apply Kd.R_drew)); exact HO_19.out) hb)
                                      have n2_ := Aside0.mk (below_step (by repeat (first | (with_reducible first | exact HB.out | apply below_alloc | apply pw_below_drewN | apply below_drew1) | exact HB.out)) hb)
                                      clear HO_18
                                      clear HO_19
                                      clear HB
                                      have HO_18 := n0_
                                      have HO_19 := n1_
                                      have HB := n2_
                                      clear n0_ n1_ n2_
                                      (try clear hb)
                                      (try clear hb2)
                                      (try clear hk)
                                      (try clear hi)
                                      refine hK.out _ _ ⟨HS0_, HS1_⟩ (fun hHeld => ?_)
                                      clear hK K
                                      refine norm_ (a' := ?_) ?_ ?_
                                      rotate_left
                                      · show Act.put _ (some 164) _ = _
                                        simp only [Act.put, List.setIfInBounds_toArray, List.set_cons_zero, List.set_cons_succ, i64_w, i32_w]
                                        rfl
                                      refine pure_ (i := 15) (N := some 165) (v := ?_) (a' := ?_) #[true, true, true, true, true, true, true, true, true, true, true, true, true, true, true, true, false] rfl rfl (any_of HT_.out (by kernel_rfl)) (fun _ _ _ h => h) (Or.inl ⟨by rfl, ?_⟩) ?_ ?_
                                      rotate_left
                                      · intro w'
                                        go_simp
                                        with_reducible rfl
                                      rotate_left
                                      · simp only [Act.put, List.setIfInBounds_toArray, List.set_cons_zero, List.set_cons_succ, i64_w, i32_w]
                                        rfl
                                      refine pure_ (i := 16) (N := some 8) (v := ?_) (a' := ?_) #[true, true, true, true, true, true, true, true, true, true, true, true, true, true, true, true, true] rfl rfl (any_of HT_.out (by kernel_rfl)) (fun _ _ _ h => h) (Or.inl ⟨by rfl, ?_⟩) ?_ ?_
                                      rotate_left
                                      · intro w'
                                        go_simp
                                        with_reducible rfl
                                      rotate_left
                                      · simp only [Act.put, List.setIfInBounds_toArray, List.set_cons_zero, List.set_cons_succ, i64_w, i32_w]
                                        rfl
                                      refine done_ (done_of HT_.out (by kernel_rfl)) ?_
                                      try go_wp2
                                      go_ret
                                      exact ⟨by first | rfl | (simp [errW_none, errW_some] <;> rfl) | (simp [*, errW_none, errW_some] <;> rfl), by repeat (first | (with_reducible first | exact HB.out | apply below_alloc | apply pw_below_drewN | apply below_drew1) | exact HB.out)⟩
                                    · rw [if_neg c57] at H
                                      have c57b0 : ((decide ((rd t303 x24_4) < (rd t307 x24_4))) == (decide ((Int.tmod (wrap64 (a2)) t301) < (Int.tmod (wrap64 (a3)) t301)))) = false := by simpa using c57
                                      (try (have c57b1 : decide ((decide ((rd t303 x24_4) < (rd t307 x24_4))) = (decide ((Int.tmod (wrap64 (a2)) t301) < (Int.tmod (wrap64 (a3)) t301)))) = false := by simpa using c57))
                                      (try (have c57b2 : ((decide ((rd t303 x24_4) < (rd t307 x24_4))) == (decide ((Int.tmod (wrap64 (a2)) t301) < (Int.tmod (wrap64 (a3)) t301)))) = false := by simpa using c57))
                                      (try (have c57b3 : ¬ ((decide ((rd t303 x24_4) < (rd t307 x24_4))) = (decide ((Int.tmod (wrap64 (a2)) t301) < (Int.tmod (wrap64 (a3)) t301)))) := by simpa using c57))
                                      clear c57
                                      obtain rfl := Option.some.inj H
                                      try go_wp2
                                      have n0_ := Aside0.mk (Kd.R_drew HO_18.out)
                                      have n1_ := Aside0.mk (Kd.R_drew HO_19.out)
                                      have n2_ := Aside0.mk (below_drew1 HB.out)
                                      clear HO_18
                                      clear HO_19
                                      clear HB
                                      have HO_18 := n0_
                                      have HO_19 := n1_
                                      have HB := n2_
                                      clear n0_ n1_ n2_
                                      have p318 : 0 ≤ (x24_4 : Int) := of_decide_eq_true (by first | (with_reducible assumption) | assumption)
                                      have q318 : x24_4 < (t303.length : Int) := of_decide_eq_true (by first | (with_reducible assumption) | assumption)
                                      obtain ⟨ad318, e318, hx318_0⟩ := Kd.at_int (Kd.R_reads' HO_18.out).2.2 x24_4 p318 q318
                                      cases e318
                                      replace p318 := eq_true p318
                                      replace q318 := eq_true q318
                                      obtain ⟨Ao64, co64, eo64⟩ := Kd.R_slice HO_19.out
                                      (first | subst eo64 | (injection eo64 with f1_ f2_ f3_; have f4_ := f1_.symm; have f5_ := f3_.symm; clear f1_ f2_ f3_; subst f4_; subst f5_))
                                      have p319 : 0 ≤ (x24_4 : Int) := of_decide_eq_true (by first | (with_reducible assumption) | assumption)
                                      have q319 : x24_4 < (t307.length : Int) := of_decide_eq_true (by first | (with_reducible assumption) | assumption)
                                      obtain ⟨ad319, e319, hx319_0⟩ := Kd.at_int (Kd.R_reads' HO_19.out).2.2 x24_4 p319 q319
                                      cases e319
                                      replace p319 := eq_true p319
                                      replace q319 := eq_true q319
                                      refine start_ (n := 9) (S := fun w' => w'.cell? (ad318.add (x24_4).toNat) = some (.int .i64 (rd t303 x24_4)) ∧ w'.cell? (ad319.add (x24_4).toNat) = some (.int .i64 (rd t307 x24_4))) (ds := []) #[false, false, false, false, false, false, false, false, false] (by kernel_rfl) rfl rfl ⟨hx318_0, hx319_0⟩ (fun hHeld => ?_); refine with_tabW clochelaw05_WavesRanked.tab22 clochelaw05_WavesRanked.bits22 (fun HT_ HW_ => ?_)
                                      generalize wr.drew = w63 at HO_18 HO_19 HB hx318_0 hx319_0 hHeld ⊢
                                      refine pure_ (i := 0) (N := some 141) (v := ?_) (a' := ?_) #[true, false, false, false, false, false, false, false, false] rfl rfl (any_of HT_.out (by kernel_rfl)) (fun _ _ _ h => h) (Or.inl ⟨by rfl, ?_⟩) ?_ ?_
                                      rotate_left
                                      · intro w'
                                        go_simp
                                        with_reducible rfl
                                      rotate_left
                                      · simp only [Act.put, List.setIfInBounds_toArray, List.set_cons_zero, List.set_cons_succ, i64_w, i32_w]
                                        rfl
                                      refine pure_ (i := 1) (N := some 142) (v := ?_) (a' := ?_) #[true, true, false, false, false, false, false, false, false] rfl rfl (any_of HT_.out (by kernel_rfl)) (fun _ _ _ h => h) (Or.inl ⟨by rfl, ?_⟩) ?_ ?_
                                      rotate_left
                                      · intro w'
                                        go_simp
                                        with_reducible rfl
                                      rotate_left
                                      · simp only [Act.put, List.setIfInBounds_toArray, List.set_cons_zero, List.set_cons_succ, i64_w, i32_w]
                                        rfl
                                      refine pure_ (i := 2) (N := some 143) (v := ?_) (a' := ?_) #[true, true, true, false, false, false, false, false, false] rfl rfl (any_of HT_.out (by kernel_rfl)) (fun _ _ _ h => h) (Or.inl ⟨by rfl, ?_⟩) ?_ ?_
                                      rotate_left
                                      · intro w'
                                        go_simp
                                        with_reducible rfl
                                      rotate_left
                                      · simp only [Act.put, List.setIfInBounds_toArray, List.set_cons_zero, List.set_cons_succ, i64_w, i32_w]
                                        rfl
                                      refine pure_ (i := 4) (N := some 145) (v := ?_) (a' := ?_) #[true, true, true, false, true, false, false, false, false] rfl rfl (any_of HT_.out (by kernel_rfl)) (fun _ _ _ h => h) (Or.inl ⟨by rfl, ?_⟩) ?_ ?_
                                      rotate_left
                                      · intro w'
                                        go_simp
                                        with_reducible rfl
                                      rotate_left
                                      · simp only [Act.put, List.setIfInBounds_toArray, List.set_cons_zero, List.set_cons_succ, i64_w, i32_w]
                                        rfl
                                      refine pure_ (i := 5) (N := some 146) (v := ?_) (a' := ?_) #[true, true, true, false, true, true, false, false, false] rfl rfl (any_of HT_.out (by kernel_rfl)) (fun _ _ _ h => h) (Or.inl ⟨by rfl, ?_⟩) ?_ ?_
                                      rotate_left
                                      · intro w'
                                        go_simp
                                        with_reducible rfl
                                      rotate_left
                                      · simp only [Act.put, List.setIfInBounds_toArray, List.set_cons_zero, List.set_cons_succ, i64_w, i32_w]
                                        rfl
                                      refine pure_ (i := 6) (N := some 147) (v := ?_) (a' := ?_) #[true, true, true, false, true, true, true, false, false] rfl rfl (any_of HT_.out (by kernel_rfl)) (fun _ _ _ h => h) (Or.inl ⟨by rfl, ?_⟩) ?_ ?_
                                      rotate_left
                                      · intro w'
                                        go_simp
                                        with_reducible rfl
                                      rotate_left
                                      · simp only [Act.put, List.setIfInBounds_toArray, List.set_cons_zero, List.set_cons_succ, i64_w, i32_w]
                                        rfl
                                      refine take_ (i := 3) (N := some 144) (v := ?_) (a' := ?_) #[true, true, true, true, true, true, true, false, false] rfl rfl (take_ofW HT_.out HW_.out (by kernel_rfl)) (fun _ _ _ h => h) (Or.inl ⟨by rfl, ?_⟩) hHeld ?_ ?_
                                      rotate_left
                                      · rintro w' ⟨s0, s1⟩
                                        go_simp
                                        with_reducible rfl
                                      rotate_left
                                      · simp only [Act.put, List.setIfInBounds_toArray, List.set_cons_zero, List.set_cons_succ, i64_w, i32_w]
                                        rfl
                                      refine take_ (i := 7) (N := some 148) (v := ?_) (a' := ?_) #[true, true, true, true, true, true, true, true, false] rfl rfl (take_ofW HT_.out HW_.out (by kernel_rfl)) (fun _ _ _ h => h) (Or.inl ⟨by rfl, ?_⟩) hHeld ?_ ?_
                                      rotate_left
                                      · rintro w' ⟨s0, s1⟩
                                        go_simp
                                        with_reducible rfl
                                      rotate_left
                                      · simp only [Act.put, List.setIfInBounds_toArray, List.set_cons_zero, List.set_cons_succ, i64_w, i32_w]
                                        rfl
                                      refine pure_ (i := 8) (N := some 149) (v := ?_) (a' := ?_) #[true, true, true, true, true, true, true, true, true] rfl rfl (any_of HT_.out (by kernel_rfl)) (fun _ _ _ h => h) (Or.inl ⟨by rfl, ?_⟩) ?_ ?_
                                      rotate_left
                                      · intro w'
                                        go_simp
                                        with_reducible rfl
                                      rotate_left
                                      · simp only [Act.put, List.setIfInBounds_toArray, List.set_cons_zero, List.set_cons_succ, i64_w, i32_w]
                                        rfl
                                      refine done_ (done_of HT_.out (by kernel_rfl)) ?_
                                      try go_wp2
                                      have n0_ := Aside0.mk (Kd.R_drew HO_18.out)
                                      have n1_ := Aside0.mk (Kd.R_drew HO_19.out)
                                      have n2_ := Aside0.mk (below_drew1 HB.out)
                                      clear HO_18
                                      clear HO_19
                                      clear HB
                                      have HO_18 := n0_
                                      have HO_19 := n1_
                                      have HB := n2_
                                      clear n0_ n1_ n2_
                                      have p320 : 0 ≤ (x24_4 : Int) := of_decide_eq_true (by first | (with_reducible assumption) | assumption)
                                      have q320 : x24_4 < (t303.length : Int) := of_decide_eq_true (by first | (with_reducible assumption) | assumption)
                                      obtain ⟨ad320, e320, hx320_0⟩ := Kd.at_int (Kd.R_reads' HO_18.out).2.2 x24_4 p320 q320
                                      obtain rfl : ad318 = ad320 := (by injection e320)
                                      replace p320 := eq_true p320
                                      replace q320 := eq_true q320
                                      have p321 : 0 ≤ (x24_4 : Int) := of_decide_eq_true (by first | (with_reducible assumption) | assumption)
                                      have q321 : x24_4 < (t307.length : Int) := of_decide_eq_true (by first | (with_reducible assumption) | assumption)
                                      obtain ⟨ad321, e321, hx321_0⟩ := Kd.at_int (Kd.R_reads' HO_19.out).2.2 x24_4 p321 q321
                                      obtain rfl : ad319 = ad321 := (by injection e321)
                                      replace p321 := eq_true p321
                                      replace q321 := eq_true q321
                                      refine start_ (n := 17) (S := fun w' => w'.cell? (ad318.add (x24_4).toNat) = some (.int .i64 (rd t303 x24_4)) ∧ w'.cell? (ad319.add (x24_4).toNat) = some (.int .i64 (rd t307 x24_4))) (ds := []) #[false, false, false, false, false, false, false, false, false, false, false, false, false, false, false, false, false] (by kernel_rfl) rfl rfl ⟨hx320_0, hx321_0⟩ (fun hHeld => ?_); refine with_tabW clochelaw05_WavesRanked.tab23 clochelaw05_WavesRanked.bits23 (fun HT_ HW_ => ?_)
                                      generalize w63.drew = w65 at HO_18 HO_19 HB hx320_0 hx321_0 hHeld ⊢
                                      refine pure_ (i := 0) (N := some 150) (v := ?_) (a' := ?_) #[true, false, false, false, false, false, false, false, false, false, false, false, false, false, false, false, false] rfl rfl (any_of HT_.out (by kernel_rfl)) (fun _ _ _ h => h) (Or.inl ⟨by rfl, ?_⟩) ?_ ?_
                                      rotate_left
                                      · intro w'
                                        go_simp
                                        with_reducible rfl
                                      rotate_left
                                      · simp only [Act.put, List.setIfInBounds_toArray, List.set_cons_zero, List.set_cons_succ, i64_w, i32_w]
                                        rfl
                                      refine pure_ (i := 1) (N := some 151) (v := ?_) (a' := ?_) #[true, true, false, false, false, false, false, false, false, false, false, false, false, false, false, false, false] rfl rfl (any_of HT_.out (by kernel_rfl)) (fun _ _ _ h => h) (Or.inl ⟨by rfl, ?_⟩) ?_ ?_
                                      rotate_left
                                      · intro w'
                                        go_simp
                                        with_reducible rfl
                                      rotate_left
                                      · simp only [Act.put, List.setIfInBounds_toArray, List.set_cons_zero, List.set_cons_succ, i64_w, i32_w]
                                        rfl
                                      refine pure_ (i := 2) (N := some 152) (v := ?_) (a' := ?_) #[true, true, true, false, false, false, false, false, false, false, false, false, false, false, false, false, false] rfl rfl (any_of HT_.out (by kernel_rfl)) (fun _ _ _ h => h) (Or.inl ⟨by rfl, ?_⟩) ?_ ?_
                                      rotate_left
                                      · intro w'
                                        go_simp
                                        with_reducible rfl
                                      rotate_left
                                      · simp only [Act.put, List.setIfInBounds_toArray, List.set_cons_zero, List.set_cons_succ, i64_w, i32_w]
                                        rfl
                                      refine pure_ (i := 4) (N := some 154) (v := ?_) (a' := ?_) #[true, true, true, false, true, false, false, false, false, false, false, false, false, false, false, false, false] rfl rfl (any_of HT_.out (by kernel_rfl)) (fun _ _ _ h => h) (Or.inl ⟨by rfl, ?_⟩) ?_ ?_
                                      rotate_left
                                      · intro w'
                                        go_simp
                                        with_reducible rfl
                                      rotate_left
                                      · simp only [Act.put, List.setIfInBounds_toArray, List.set_cons_zero, List.set_cons_succ, i64_w, i32_w]
                                        rfl
                                      refine pure_ (i := 5) (N := some 155) (v := ?_) (a' := ?_) #[true, true, true, false, true, true, false, false, false, false, false, false, false, false, false, false, false] rfl rfl (any_of HT_.out (by kernel_rfl)) (fun _ _ _ h => h) (Or.inl ⟨by rfl, ?_⟩) ?_ ?_
                                      rotate_left
                                      · intro w'
                                        go_simp
                                        with_reducible rfl
                                      rotate_left
                                      · simp only [Act.put, List.setIfInBounds_toArray, List.set_cons_zero, List.set_cons_succ, i64_w, i32_w]
                                        rfl
                                      refine pure_ (i := 6) (N := some 156) (v := ?_) (a' := ?_) #[true, true, true, false, true, true, true, false, false, false, false, false, false, false, false, false, false] rfl rfl (any_of HT_.out (by kernel_rfl)) (fun _ _ _ h => h) (Or.inl ⟨by rfl, ?_⟩) ?_ ?_
                                      rotate_left
                                      · intro w'
                                        go_simp
                                        with_reducible rfl
                                      rotate_left
                                      · simp only [Act.put, List.setIfInBounds_toArray, List.set_cons_zero, List.set_cons_succ, i64_w, i32_w]
                                        rfl
                                      refine pure_ (i := 9) (N := some 159) (v := ?_) (a' := ?_) #[true, true, true, false, true, true, true, false, false, true, false, false, false, false, false, false, false] rfl rfl (any_of HT_.out (by kernel_rfl)) (fun _ _ _ h => h) (Or.inl ⟨by rfl, ?_⟩) ?_ ?_
                                      rotate_left
                                      · intro w'
                                        go_simp
                                        with_reducible rfl
                                      rotate_left
                                      · simp only [Act.put, List.setIfInBounds_toArray, List.set_cons_zero, List.set_cons_succ, i64_w, i32_w]
                                        rfl
                                      refine pure_ (i := 10) (N := some 160) (v := ?_) (a' := ?_) #[true, true, true, false, true, true, true, false, false, true, true, false, false, false, false, false, false] rfl rfl (any_of HT_.out (by kernel_rfl)) (fun _ _ _ h => h) (Or.inl ⟨by rfl, ?_⟩) ?_ ?_
                                      rotate_left
                                      · intro w'
                                        go_simp
                                        with_reducible rfl
                                      rotate_left
                                      · simp only [Act.put, List.setIfInBounds_toArray, List.set_cons_zero, List.set_cons_succ, i64_w, i32_w]
                                        rfl
                                      refine pure_ (i := 11) (N := some 161) (v := ?_) (a' := ?_) #[true, true, true, false, true, true, true, false, false, true, true, true, false, false, false, false, false] rfl rfl (any_of HT_.out (by kernel_rfl)) (fun _ _ _ h => h) (Or.inl ⟨by rfl, ?_⟩) ?_ ?_
                                      rotate_left
                                      · intro w'
                                        go_simp
                                        with_reducible rfl
                                      rotate_left
                                      · simp only [Act.put, List.setIfInBounds_toArray, List.set_cons_zero, List.set_cons_succ, i64_w, i32_w]
                                        rfl
                                      refine take_ (i := 3) (N := some 153) (v := ?_) (a' := ?_) #[true, true, true, true, true, true, true, false, false, true, true, true, false, false, false, false, false] rfl rfl (take_ofW HT_.out HW_.out (by kernel_rfl)) (fun _ _ _ h => h) (Or.inl ⟨by rfl, ?_⟩) hHeld ?_ ?_
                                      rotate_left
                                      · rintro w' ⟨s0, s1⟩
                                        go_simp
                                        with_reducible rfl
                                      rotate_left
                                      · simp only [Act.put, List.setIfInBounds_toArray, List.set_cons_zero, List.set_cons_succ, i64_w, i32_w]
                                        rfl
                                      refine take_ (i := 7) (N := some 157) (v := ?_) (a' := ?_) #[true, true, true, true, true, true, true, true, false, true, true, true, false, false, false, false, false] rfl rfl (take_ofW HT_.out HW_.out (by kernel_rfl)) (fun _ _ _ h => h) (Or.inl ⟨by rfl, ?_⟩) hHeld ?_ ?_
                                      rotate_left
                                      · rintro w' ⟨s0, s1⟩
                                        go_simp
                                        with_reducible rfl
                                      rotate_left
                                      · simp only [Act.put, List.setIfInBounds_toArray, List.set_cons_zero, List.set_cons_succ, i64_w, i32_w]
                                        rfl
                                      refine pure_ (i := 8) (N := some 158) (v := ?_) (a' := ?_) #[true, true, true, true, true, true, true, true, true, true, true, true, false, false, false, false, false] rfl rfl (any_of HT_.out (by kernel_rfl)) (fun _ _ _ h => h) (Or.inl ⟨by rfl, ?_⟩) ?_ ?_
                                      rotate_left
                                      · intro w'
                                        go_simp
                                        with_reducible rfl
                                      rotate_left
                                      · simp only [Act.put, List.setIfInBounds_toArray, List.set_cons_zero, List.set_cons_succ, i64_w, i32_w]
                                        rfl
                                      refine pure_ (i := 12) (N := some 162) (v := ?_) (a' := ?_) #[true, true, true, true, true, true, true, true, true, true, true, true, true, false, false, false, false] rfl rfl (any_of HT_.out (by kernel_rfl)) (fun _ _ _ h => h) (Or.inl ⟨by rfl, ?_⟩) ?_ ?_
                                      rotate_left
                                      · intro w'
                                        go_simp
                                        with_reducible rfl
                                      rotate_left
                                      · simp only [Act.put, List.setIfInBounds_toArray, List.set_cons_zero, List.set_cons_succ, i64_w, i32_w]
                                        rfl
                                      refine pure_ (i := 13) (N := some 163) (v := ?_) (a' := ?_) #[true, true, true, true, true, true, true, true, true, true, true, true, true, true, false, false, false] rfl rfl (any_of HT_.out (by kernel_rfl)) (fun _ _ _ h => h) (Or.inl ⟨by rfl, ?_⟩) ?_ ?_
                                      rotate_left
                                      · intro w'
                                        go_simp
                                        with_reducible rfl
                                      rotate_left
                                      · simp only [Act.put, List.setIfInBounds_toArray, List.set_cons_zero, List.set_cons_succ, i64_w, i32_w]
                                        rfl
                                      refine pure_ (i := 14) (N := some 164) (v := undef) (a' := ?_) #[true, true, true, true, true, true, true, true, true, true, true, true, true, true, true, false, false] rfl rfl (any_of HT_.out (by kernel_rfl)) (fun _ _ _ h => h) (Or.inr ⟨by rfl, rfl⟩) ?_ ?_
                                      rotate_left
                                      · simp only [Act.put, List.setIfInBounds_toArray, List.set_cons_zero, List.set_cons_succ, i64_w, i32_w]
                                        rfl
                                      refine pure_ (i := 15) (N := some 165) (v := ?_) (a' := ?_) #[true, true, true, true, true, true, true, true, true, true, true, true, true, true, true, true, false] rfl rfl (any_of HT_.out (by kernel_rfl)) (fun _ _ _ h => h) (Or.inl ⟨by rfl, ?_⟩) ?_ ?_
                                      rotate_left
                                      · intro w'
                                        go_simp
                                        with_reducible rfl
                                      rotate_left
                                      · simp only [Act.put, List.setIfInBounds_toArray, List.set_cons_zero, List.set_cons_succ, i64_w, i32_w]
                                        rfl
                                      refine pure_ (i := 16) (N := some 8) (v := ?_) (a' := ?_) #[true, true, true, true, true, true, true, true, true, true, true, true, true, true, true, true, true] rfl rfl (any_of HT_.out (by kernel_rfl)) (fun _ _ _ h => h) (Or.inl ⟨by rfl, ?_⟩) ?_ ?_
                                      rotate_left
                                      · intro w'
                                        go_simp
                                        with_reducible rfl
                                      rotate_left
                                      · simp only [Act.put, List.setIfInBounds_toArray, List.set_cons_zero, List.set_cons_succ, i64_w, i32_w]
                                        rfl
                                      refine done_ (done_of HT_.out (by kernel_rfl)) ?_
                                      try go_wp2
                                      go_ret
                                      exact ⟨by first | rfl | (simp [errW_none, errW_some] <;> rfl) | (simp [*, errW_none, errW_some] <;> rfl), by repeat (first | (with_reducible first | exact HB.out | apply below_alloc | apply pw_below_drewN | apply below_drew1) | exact HB.out)⟩
                                · rw [if_neg c53] at H
                                  exact absurd H (by simp)
                              · rw [if_neg c52] at H
                                exact absurd H (by simp)
                            · rw [if_neg c51] at H
                              exact absurd H (by simp)
                          · rw [if_neg c50] at H
                            have c50b0 : decide (x24_4 < (wrap64 (Int.tmod a1 11))) = false := decide_eq_false c50
                            clear c50
                            by_cases c66 : (Int.tmod (wrap64 (a2)) t301) = (Int.tmod (wrap64 (a3)) t301)
                            · rw [if_pos c66] at H
                              have c66b0 : ((Int.tmod (wrap64 (a2)) t301) == (Int.tmod (wrap64 (a3)) t301)) = true := beq_iff_eq.mpr c66
                              have c66b1 : ((Int.tmod (wrap64 (a2)) t301) != (Int.tmod (wrap64 (a3)) t301)) = false := bne_eq_false_iff_eq.mpr c66
                              clear c66
                              replace H := Option.bind_eq_some_iff.mp H
                              obtain ⟨t323, A670, H⟩ := H
                              replace H : (some t323) = some r := H
                              have A67 := Aside0.mk A670
                              clear A670
                              obtain rfl := Option.some.inj H
                              go_wp2_with (first | (go_at_call 17; (with_reducible refine (clochelaw05_alive.calls k4  t323 _ A67.out).mono ?_); rintro e w68 ⟨rfl, hb⟩; have n0_ := Aside0.mk (Kd.R_below (by (with_reducible repeat (first | apply Kd.R_alloc | apply Kd.R_drewN | apply Kd.R_drew)); exact HO_18.out) hb); have n1_ := Aside0.mk (Kd.R_below (by (with_reducible repeat (first | apply Kd.R_alloc | apply Kd.R_drewN | apply Kd.R_drew)); exact HO_19.out) hb); have n2_ := Aside0.mk (below_step (by repeat (first | (with_reducible first | exact HB.out | apply below_alloc | apply pw_below_drewN | apply below_drew1) | exact HB.out)) hb); clear HO_18; clear HO_19; clear HB; have HO_18 := n0_; have HO_19 := n1_; have HB := n2_; clear n0_ n1_ n2_; (try clear hb); (try clear hb2); (try clear hk); (try clear hi)))
                              go_ret
                              exact ⟨by first | rfl | (simp [errW_none, errW_some] <;> rfl) | (simp [*, errW_none, errW_some] <;> rfl), by repeat (first | (with_reducible first | exact HB.out | apply below_alloc | apply pw_below_drewN | apply below_drew1) | exact HB.out)⟩
                            · rw [if_neg c66] at H
                              have c66b0 : ((Int.tmod (wrap64 (a2)) t301) == (Int.tmod (wrap64 (a3)) t301)) = false := beq_eq_false_iff_ne.mpr c66
                              have c66b1 : ((Int.tmod (wrap64 (a2)) t301) != (Int.tmod (wrap64 (a3)) t301)) = true := bne_iff_ne.mpr c66
                              obtain rfl := Option.some.inj H
                              go_wp2
                              go_ret
                              exact ⟨by first | rfl | (simp [errW_none, errW_some] <;> rfl) | (simp [*, errW_none, errW_some] <;> rfl), by repeat (first | (with_reducible first | exact HB.out | apply below_alloc | apply pw_below_drewN | apply below_drew1) | exact HB.out)⟩

/-- THE ONE PURE STATEMENT of clochelaw05_WavesRanked: yours. -/
def clochelaw05_WavesRanked.Pure : Prop := ∀ (l0 : List Int) (a1 : Int) (a2 : Int) (a3 : Int), l0.length ≤ maxLen → l0.length * 8 ≤ 140737488351232 → (∀ x ∈ l0, (Lit.int .i64 x).wf = true) → (Lit.int .u8 a1).wf = true → (Lit.int .u32 a2).wf = true → (Lit.int .u32 a3).wf = true → ∃ k, clochelaw05_WavesRanked.f k l0 a1 a2 a3 = some true
theorem clochelaw05_WavesRanked.walk (P : clochelaw05_WavesRanked.Pure) (a0 : Option Addr) (len0 cap0 : Nat) (z0 : List Int) (a1 : Int) (a2 : Int) (a3 : Int) (w : World) (w0 : (a0 = none ∧ len0 = 0 ∧ cap0 = 0 ∧ z0 = []) ∨ ∃ x, a0 = some x ∧ len0 ≤ cap0 ∧ cap0 ≤ maxLen ∧ z0.length = cap0 ∧ (∀ i, i < z0.length → w.cell? (x.add i) = some (.int .i64 (z0.getD i 0))) ∧ ∀ n ∈ z0, (Lit.int .i64 n).wf = true) (y0 : len0 * 8 ≤ 140737488351232) (w1 : (Lit.int .u8 a1).wf = true) (w2 : (Lit.int .u32 a2).wf = true) (w3 : (Lit.int .u32 a3).wf = true) :
    Calls Try.prog 6 #[.slice a0 len0 cap0, .int .u8 a1, .int .u32 a2, .int .u32 a3] w fun e w' => e = .returned (.bool true) ∧ Below w.heap.size w w' := by
  obtain ⟨l0, rfl, hr0, hm0, hw0, hc0⟩ := ReadsInt.ofRowC w0
  obtain ⟨k, h⟩ := P l0 a1 a2 a3 hm0 y0 hw0 w1 w2 w3
  refine (clochelaw05_WavesRanked.calls k _ _ l0 a1 a2 a3 true w (Kd.C_of_reads (d := (0 : Int)) (h1 := fun _ => rfl) hr0) hc0 h).mono ?_
  rintro e w' ⟨rfl, hd⟩
  exact ⟨rfl, hd⟩

end Go.Proofs.Ytmigibamdeodpaa.Print
