/- What the functions of the blocks compute, printed by this repo's hand printer. -/
import Derived.Test.YtcmphfcpiciehaaPrintx0
import Derived.Test.YtcmphfcpiciehaaPrintx1
import Derived.Test.YtcmphfcpiciehaaPrintx5
import Derived.Test.YtcmphfcpiciehaaPrintx12
import Derived.Test.YtcmphfcpiciehaaPrintx13
import Derived.Test.YtcmphfcpiciehaaPrintx14
import Derived.Test.YtcmphfcpiciehaaPrintx16
import Derived.Test.YtcmphfcpiciehaaPrintx24
import Derived.Test.YtcmphfcpiciehaaPrintx31
namespace Go.Proofs.Ytcmphfcpiciehaa.Print
open Go.RowKit Go.Proofs.YtcmphfcpiciehaaW.PrintWords Go.Proofs.YtcmphfcpiciehaaW.PrintLast Go.Proofs.YtcmphfcpiciehaaW.PrintMore
attribute [local go_sem] max2_int min2_int max_two min_two max_three min_three max_four min_four   -- for this text's walks alone
set_option linter.unusedVariables false
set_option linter.unusedSimpArgs false

/-! ### clochelaw04_BlocksNakayama: function 11 -/
mutual
def clochelaw04_BlocksNakayama.j0 : Nat → List Int → Int → Bool → Option (Bool)
  | 0, _, _, _ => none
  | k + 1, x0, x1, x26 => if x26 = true then ((clochelaw04_alive.f k).bind fun t776 => (some t776)) else ((clochelaw04_wires.f x1).bind fun t777 => ((blocks_Core.f k x0 t777).bind fun bt778 => ((blocks_Strips.f k x0 t777).bind fun bt783 => ((blocks_IsCore.f k x0 t777).bind fun bt787 => ((blocks_IsCore.f k bt778.1 t777).bind fun bt789 => (if bt778.2.2 = 0 then (if bt783.2 = 0 then (if bt787.2 = 0 then (if bt789.2 = 0 then (if bt789.1 = true then (if (bt787.1 != ((bt783.1.length : Int) == 0)) = true then (none) else (if (bt787.1 != (bt778.2.1 == 0)) = true then (none) else ((clochelaw04_same.f k bt778.1 x0).bind fun t791 => (clochelaw04_BlocksNakayama.j1 k x0 t777 bt778.1 bt778.2.1 bt783.1 (bt787.1 != t791))))) else (none)) else (none)) else (none)) else (none)) else (none)))))))
def clochelaw04_BlocksNakayama.j1 : Nat → List Int → Int → List Int → Int → List (List Int) → Bool → Option (Bool)
  | 0, _, _, _, _, _, _ => none
  | k + 1, x0, x5, x6, x7, x9, x92 => if x92 = true then (none) else (clochelaw04_BlocksNakayama.l0 k x0 x5 x6 x7 x9 0)
def clochelaw04_BlocksNakayama.l0 : Nat → List Int → Int → List Int → Int → List (List Int) → Int → Option (Bool)
  | 0, _, _, _, _, _, _ => none
  | k + 1, x0, x5, x6, x7, x9, x15 => if x15 < (x9.length : Int) then (if 0 ≤ x15 then ((clocheref04_IsShape.f k (rd_L1 x9 x15)).bind fun t794 => (if t794 = true then ((clocheref04_Sum.f k (rd_L1 x9 x15)).bind fun t796 => ((clocheref04_Sum.f k x0).bind fun t797 => (clochelaw04_BlocksNakayama.j3 k x0 x5 x6 x7 x9 x15 (t796 != (wrap64 (t797 - x5)))))) else (none))) else (none)) else ((clochelaw04_alive.f k).bind fun t792 => (some t792))
def clochelaw04_BlocksNakayama.j3 : Nat → List Int → Int → List Int → Int → List (List Int) → Int → Bool → Option (Bool)
  | 0, _, _, _, _, _, _, _ => none
  | k + 1, x0, x5, x6, x7, x9, x15, x116 => if x116 = true then (none) else (if 0 ≤ x15 then (if x15 < (x9.length : Int) then ((blocks_Core.f k (rd_L1 x9 x15) x5).bind fun bt799 => (if bt799.2.2 = 0 then ((clochelaw04_same.f k x6 bt799.1).bind fun t804 => (if t804 = true then (if bt799.2.1 = (wrap64 (x7 - 1)) then (clochelaw04_BlocksNakayama.l0 k x0 x5 x6 x7 x9 (wrap64 (x15 + 1))) else (none)) else (none))) else (none))) else (none)) else (none))
end
def clochelaw04_BlocksNakayama.f (k : Nat) (l0 : List Int) (a1 : Int) : Option (Bool) := (clochelaw04_few.f k l0 ([] : List (List Int))).bind fun t774 => (if t774 = true then ((clocheref04_IsShape.f k l0).bind fun t775 => (clochelaw04_BlocksNakayama.j0 k l0 a1 (!t775))) else (clochelaw04_BlocksNakayama.j0 k l0 a1 true))
theorem clochelaw04_BlocksNakayama.mono_l : ∀ k, (∀ y0 y1 y2, LeO (clochelaw04_BlocksNakayama.j0 k y0 y1 y2) (clochelaw04_BlocksNakayama.j0 (k + 1) y0 y1 y2)) ∧ (∀ y0 y1 y2 y3 y4 y5, LeO (clochelaw04_BlocksNakayama.j1 k y0 y1 y2 y3 y4 y5) (clochelaw04_BlocksNakayama.j1 (k + 1) y0 y1 y2 y3 y4 y5)) ∧ (∀ y0 y1 y2 y3 y4 y5, LeO (clochelaw04_BlocksNakayama.l0 k y0 y1 y2 y3 y4 y5) (clochelaw04_BlocksNakayama.l0 (k + 1) y0 y1 y2 y3 y4 y5)) ∧ (∀ y0 y1 y2 y3 y4 y5 y6, LeO (clochelaw04_BlocksNakayama.j3 k y0 y1 y2 y3 y4 y5 y6) (clochelaw04_BlocksNakayama.j3 (k + 1) y0 y1 y2 y3 y4 y5 y6))
  | 0 => ⟨fun _ _ _ r h => by simp [clochelaw04_BlocksNakayama.j0] at h, fun _ _ _ _ _ _ r h => by simp [clochelaw04_BlocksNakayama.j1] at h, fun _ _ _ _ _ _ r h => by simp [clochelaw04_BlocksNakayama.l0] at h, fun _ _ _ _ _ _ _ r h => by simp [clochelaw04_BlocksNakayama.j3] at h⟩
  | k + 1 => by
    obtain ⟨ih0, ih1, ih2, ih3⟩ := clochelaw04_BlocksNakayama.mono_l k
    refine ⟨?_, ?_, ?_, ?_⟩
    · intro y0 y1 y2
      unfold clochelaw04_BlocksNakayama.j0
      repeat' first
      | (with_reducible exact ih0 _ _ _)
      | (with_reducible exact ih1 _ _ _ _ _ _)
      | (with_reducible exact ih2 _ _ _ _ _ _)
      | (with_reducible exact ih3 _ _ _ _ _ _ _)
      | (with_reducible exact blocks_Core.mono _ _ _)
      | (with_reducible exact blocks_IsCore.mono _ _ _)
      | (with_reducible exact blocks_Strips.mono _ _ _)
      | (with_reducible exact clochelaw04_alive.mono _)
      | (with_reducible exact clochelaw04_few.mono _ _ _)
      | (with_reducible exact clochelaw04_same.mono _ _ _)
      | (with_reducible exact clocheref04_IsShape.mono _ _)
      | (with_reducible exact clocheref04_Sum.mono _ _)
      | (with_reducible exact LeO.refl _)
      | (with_reducible exact LeO.none _)
      | (with_reducible refine LeO.ite ?_ ?_)
      | (with_reducible refine LeO.bind ?_ (fun _ => ?_))
      | exact ih0 _ _ _
      | exact ih1 _ _ _ _ _ _
      | exact ih2 _ _ _ _ _ _
      | exact ih3 _ _ _ _ _ _ _
      | exact blocks_Core.mono _ _ _
      | exact blocks_IsCore.mono _ _ _
      | exact blocks_Strips.mono _ _ _
      | exact clochelaw04_alive.mono _
      | exact clochelaw04_few.mono _ _ _
      | exact clochelaw04_same.mono _ _ _
      | exact clocheref04_IsShape.mono _ _
      | exact clocheref04_Sum.mono _ _
      | exact LeO.none _
      | refine LeO.ite ?_ ?_
      | refine LeO.bind ?_ (fun _ => ?_)
    · intro y0 y1 y2 y3 y4 y5
      unfold clochelaw04_BlocksNakayama.j1
      repeat' first
      | (with_reducible exact ih0 _ _ _)
      | (with_reducible exact ih1 _ _ _ _ _ _)
      | (with_reducible exact ih2 _ _ _ _ _ _)
      | (with_reducible exact ih3 _ _ _ _ _ _ _)
      | (with_reducible exact blocks_Core.mono _ _ _)
      | (with_reducible exact blocks_IsCore.mono _ _ _)
      | (with_reducible exact blocks_Strips.mono _ _ _)
      | (with_reducible exact clochelaw04_alive.mono _)
      | (with_reducible exact clochelaw04_few.mono _ _ _)
      | (with_reducible exact clochelaw04_same.mono _ _ _)
      | (with_reducible exact clocheref04_IsShape.mono _ _)
      | (with_reducible exact clocheref04_Sum.mono _ _)
      | (with_reducible exact LeO.refl _)
      | (with_reducible exact LeO.none _)
      | (with_reducible refine LeO.ite ?_ ?_)
      | (with_reducible refine LeO.bind ?_ (fun _ => ?_))
      | exact ih0 _ _ _
      | exact ih1 _ _ _ _ _ _
      | exact ih2 _ _ _ _ _ _
      | exact ih3 _ _ _ _ _ _ _
      | exact blocks_Core.mono _ _ _
      | exact blocks_IsCore.mono _ _ _
      | exact blocks_Strips.mono _ _ _
      | exact clochelaw04_alive.mono _
      | exact clochelaw04_few.mono _ _ _
      | exact clochelaw04_same.mono _ _ _
      | exact clocheref04_IsShape.mono _ _
      | exact clocheref04_Sum.mono _ _
      | exact LeO.none _
      | refine LeO.ite ?_ ?_
      | refine LeO.bind ?_ (fun _ => ?_)
    · intro y0 y1 y2 y3 y4 y5
      unfold clochelaw04_BlocksNakayama.l0
      repeat' first
      | (with_reducible exact ih0 _ _ _)
      | (with_reducible exact ih1 _ _ _ _ _ _)
      | (with_reducible exact ih2 _ _ _ _ _ _)
      | (with_reducible exact ih3 _ _ _ _ _ _ _)
      | (with_reducible exact blocks_Core.mono _ _ _)
      | (with_reducible exact blocks_IsCore.mono _ _ _)
      | (with_reducible exact blocks_Strips.mono _ _ _)
      | (with_reducible exact clochelaw04_alive.mono _)
      | (with_reducible exact clochelaw04_few.mono _ _ _)
      | (with_reducible exact clochelaw04_same.mono _ _ _)
      | (with_reducible exact clocheref04_IsShape.mono _ _)
      | (with_reducible exact clocheref04_Sum.mono _ _)
      | (with_reducible exact LeO.refl _)
      | (with_reducible exact LeO.none _)
      | (with_reducible refine LeO.ite ?_ ?_)
      | (with_reducible refine LeO.bind ?_ (fun _ => ?_))
      | exact ih0 _ _ _
      | exact ih1 _ _ _ _ _ _
      | exact ih2 _ _ _ _ _ _
      | exact ih3 _ _ _ _ _ _ _
      | exact blocks_Core.mono _ _ _
      | exact blocks_IsCore.mono _ _ _
      | exact blocks_Strips.mono _ _ _
      | exact clochelaw04_alive.mono _
      | exact clochelaw04_few.mono _ _ _
      | exact clochelaw04_same.mono _ _ _
      | exact clocheref04_IsShape.mono _ _
      | exact clocheref04_Sum.mono _ _
      | exact LeO.none _
      | refine LeO.ite ?_ ?_
      | refine LeO.bind ?_ (fun _ => ?_)
    · intro y0 y1 y2 y3 y4 y5 y6
      unfold clochelaw04_BlocksNakayama.j3
      repeat' first
      | (with_reducible exact ih0 _ _ _)
      | (with_reducible exact ih1 _ _ _ _ _ _)
      | (with_reducible exact ih2 _ _ _ _ _ _)
      | (with_reducible exact ih3 _ _ _ _ _ _ _)
      | (with_reducible exact blocks_Core.mono _ _ _)
      | (with_reducible exact blocks_IsCore.mono _ _ _)
      | (with_reducible exact blocks_Strips.mono _ _ _)
      | (with_reducible exact clochelaw04_alive.mono _)
      | (with_reducible exact clochelaw04_few.mono _ _ _)
      | (with_reducible exact clochelaw04_same.mono _ _ _)
      | (with_reducible exact clocheref04_IsShape.mono _ _)
      | (with_reducible exact clocheref04_Sum.mono _ _)
      | (with_reducible exact LeO.refl _)
      | (with_reducible exact LeO.none _)
      | (with_reducible refine LeO.ite ?_ ?_)
      | (with_reducible refine LeO.bind ?_ (fun _ => ?_))
      | exact ih0 _ _ _
      | exact ih1 _ _ _ _ _ _
      | exact ih2 _ _ _ _ _ _
      | exact ih3 _ _ _ _ _ _ _
      | exact blocks_Core.mono _ _ _
      | exact blocks_IsCore.mono _ _ _
      | exact blocks_Strips.mono _ _ _
      | exact clochelaw04_alive.mono _
      | exact clochelaw04_few.mono _ _ _
      | exact clochelaw04_same.mono _ _ _
      | exact clocheref04_IsShape.mono _ _
      | exact clocheref04_Sum.mono _ _
      | exact LeO.none _
      | refine LeO.ite ?_ ?_
      | refine LeO.bind ?_ (fun _ => ?_)
theorem clochelaw04_BlocksNakayama.mono : ∀ a0 a1 k, LeO (clochelaw04_BlocksNakayama.f k a0 a1) (clochelaw04_BlocksNakayama.f (k + 1) a0 a1) := by
  intro a0 a1 k
  obtain ⟨ih0, ih1, ih2, ih3⟩ := clochelaw04_BlocksNakayama.mono_l k
  unfold clochelaw04_BlocksNakayama.f
  repeat' first
      | (with_reducible exact ih0 _ _ _)
      | (with_reducible exact ih1 _ _ _ _ _ _)
      | (with_reducible exact ih2 _ _ _ _ _ _)
      | (with_reducible exact ih3 _ _ _ _ _ _ _)
      | (with_reducible exact blocks_Core.mono _ _ _)
      | (with_reducible exact blocks_IsCore.mono _ _ _)
      | (with_reducible exact blocks_Strips.mono _ _ _)
      | (with_reducible exact clochelaw04_alive.mono _)
      | (with_reducible exact clochelaw04_few.mono _ _ _)
      | (with_reducible exact clochelaw04_same.mono _ _ _)
      | (with_reducible exact clocheref04_IsShape.mono _ _)
      | (with_reducible exact clocheref04_Sum.mono _ _)
      | (with_reducible exact LeO.refl _)
      | (with_reducible exact LeO.none _)
      | (with_reducible refine LeO.ite ?_ ?_)
      | (with_reducible refine LeO.bind ?_ (fun _ => ?_))
      | exact ih0 _ _ _
      | exact ih1 _ _ _ _ _ _
      | exact ih2 _ _ _ _ _ _
      | exact ih3 _ _ _ _ _ _ _
      | exact blocks_Core.mono _ _ _
      | exact blocks_IsCore.mono _ _ _
      | exact blocks_Strips.mono _ _ _
      | exact clochelaw04_alive.mono _
      | exact clochelaw04_few.mono _ _ _
      | exact clochelaw04_same.mono _ _ _
      | exact clocheref04_IsShape.mono _ _
      | exact clocheref04_Sum.mono _ _
      | exact LeO.none _
      | refine LeO.ite ?_ ?_
      | refine LeO.bind ?_ (fun _ => ?_)
set_option maxHeartbeats 8000000 in
set_option maxRecDepth 100000 in
theorem clochelaw04_BlocksNakayama.calls (k : Nat) (A0 : Option Addr) (c0 : Nat) (l0 : List Int) (a1 : Int) (r : Bool) (w : World) (hr0 : Kd.C (Kd.int .i64) w A0 l0.length l0) (hc0 : l0.length ≤ c0) (h : clochelaw04_BlocksNakayama.f k l0 a1 = some r) :
    Calls Try.prog 11 #[.slice A0 l0.length c0, .int .u8 a1] w fun e w' => e = .returned (.bool r) ∧ Below w.heap.size w w' := by
  have HR0 := Aside0.mk hr0
  have HC0 := Aside0.mk hc0
  clear hr0 hc0
  have HB := Aside0.mk (Below.refl w.heap.size w)
  have H : ((clochelaw04_few.f k l0 ([] : List (List Int))).bind fun t774 => (if t774 = true then ((clocheref04_IsShape.f k l0).bind fun t775 => (clochelaw04_BlocksNakayama.j0 k l0 a1 (!t775))) else (clochelaw04_BlocksNakayama.j0 k l0 a1 true))) = some r := h
  clear h
  have HC3 := Aside0.mk H
  clear H
  go_enter Try.func11, Try.ntmps11
  go_upto_region 1 with (fail)
  go_cut [26] (fun v26 wc => ∃ (kq : Nat) (x26_2 : Bool), v26 = .bool x26_2 ∧ Aside0 (clochelaw04_BlocksNakayama.j0 kq l0 a1 x26_2 = some r) ∧ Aside0 (kq ≤ k) ∧ Aside0 (Below w.heap.size w wc))
  case first =>
    have H := HC3.out
    clear HC3
    replace H := Option.bind_eq_some_iff.mp H
    obtain ⟨t774, A40, H⟩ := H
    replace H : (if t774 = true then ((clocheref04_IsShape.f k l0).bind fun t775 => (clochelaw04_BlocksNakayama.j0 k l0 a1 (!t775))) else (clochelaw04_BlocksNakayama.j0 k l0 a1 true)) = some r := H
    have A4 := Aside0.mk A40
    clear A40
    by_cases c5 : t774 = true
    · subst c5
      have H1 : ((clocheref04_IsShape.f k l0).bind fun t775 => (clochelaw04_BlocksNakayama.j0 k l0 a1 (!t775))) = some r := by rw [if_pos rfl] at H; exact H
      clear H
      have H := H1
      clear H1
      replace H := Option.bind_eq_some_iff.mp H
      obtain ⟨t775, A60, H⟩ := H
      replace H : (clochelaw04_BlocksNakayama.j0 k l0 a1 (!t775)) = some r := H
      have A6 := Aside0.mk A60
      clear A60
      have H' := Aside0.mk H
      clear H
      go_wp2_with (first | ((with_reducible refine gate_callee (f := 15) rfl ?_); refine goesL_ (some 20) rfl rfl Try.func15 (by kernel_rfl) rfl #[.slice A0 l0.length c0, .slice none 0 0] rfl (by (try simp only [List.map_toArray, List.map_cons, List.map_nil]); first | done | rfl | (simp only [List.length_drop, List.length_take]; rfl)) ?_; (refine (clochelaw04_few.calls k _ _ l0 _ _ ([] : List (List Int)) true _ ?side1 ?side2 ?side3 ?side4 A4.out).mono ?_); (case side1 => repeat (first | exact (Kd.C_below HR0.out HB.out) | (with_reducible refine Kd.C_alloc ?_ _) | (with_reducible refine Kd.C_drewN ?_ _) | (with_reducible refine Kd.C_drew ?_))); (case side2 => exact HC0.out); (case side3 => exact Kd.C_nil _ _); (case side4 => exact Nat.le_refl _); rintro e w' ⟨rfl, ⟨nd, rfl⟩⟩; refine ⟨_, rfl, ?_⟩) | (go_at_call 25; (with_reducible refine (clocheref04_IsShape.calls k _ _ l0 t775 _ ?side1 ?side2 A6.out).mono ?_); (case side1 => repeat (first | exact (Kd.C_below HR0.out (by repeat (first | (with_reducible first | exact HB.out | apply below_alloc | apply pw_below_drewN | apply below_drew1) | exact HB.out))) | (with_reducible refine Kd.C_alloc ?_ _) | (with_reducible refine Kd.C_drewN ?_ _) | (with_reducible refine Kd.C_drew ?_))); (case side2 => exact HC0.out); rintro e w' ⟨rfl, ⟨nd, rfl⟩⟩))
      go_meet
      case rel => exact ⟨_, (!t775), (by first | rfl | (simp; done) | (simp [*]; done)), H', ⟨by first | omega | exact Nat.le_refl _⟩, ⟨by repeat (first | (with_reducible first | exact HB.out | apply below_alloc | apply pw_below_drewN | apply below_drew1) | exact HB.out)⟩⟩
    · replace c5 := Bool.eq_false_iff.mpr c5
      subst c5
      have H1 : (clochelaw04_BlocksNakayama.j0 k l0 a1 true) = some r := by rw [if_neg (show ¬ (false = true) by decide)] at H; exact H
      clear H
      have H := H1
      clear H1
      have H' := Aside0.mk H
      clear H
      go_wp2_with (first | ((with_reducible refine gate_callee (f := 15) rfl ?_); refine goesL_ (some 20) rfl rfl Try.func15 (by kernel_rfl) rfl #[.slice A0 l0.length c0, .slice none 0 0] rfl (by (try simp only [List.map_toArray, List.map_cons, List.map_nil]); first | done | rfl | (simp only [List.length_drop, List.length_take]; rfl)) ?_; (refine (clochelaw04_few.calls k _ _ l0 _ _ ([] : List (List Int)) false _ ?side1 ?side2 ?side3 ?side4 A4.out).mono ?_); (case side1 => repeat (first | exact (Kd.C_below HR0.out HB.out) | (with_reducible refine Kd.C_alloc ?_ _) | (with_reducible refine Kd.C_drewN ?_ _) | (with_reducible refine Kd.C_drew ?_))); (case side2 => exact HC0.out); (case side3 => exact Kd.C_nil _ _); (case side4 => exact Nat.le_refl _); rintro e w' ⟨rfl, ⟨nd, rfl⟩⟩; refine ⟨_, rfl, ?_⟩))
      go_meet
      case rel => exact ⟨_, (true), (by first | rfl | (simp; done) | (simp [*]; done)), H', ⟨by first | omega | exact Nat.le_refl _⟩, ⟨by repeat (first | (with_reducible first | exact HB.out | apply below_alloc | apply pw_below_drewN | apply below_drew1) | exact HB.out)⟩⟩
  case rest =>
    clear HC3
    try clear c1
    try clear p2
    try clear c5
    obtain ⟨kq, x26_2, rfl, HA, HJ2, HB⟩ := hcut
    cases kq with
    | zero => exact absurd HA.out (by simp [clochelaw04_BlocksNakayama.j0])
    | succ kj2 =>
      have H := HA.out
      clear HA
      simp only [clochelaw04_BlocksNakayama.j0] at H
      by_cases c7 : x26_2 = true
      · subst c7
        have H1 : ((clochelaw04_alive.f kj2).bind fun t776 => (some t776)) = some r := by rw [if_pos rfl] at H; exact H
        clear H
        have H := H1
        clear H1
        replace H := Option.bind_eq_some_iff.mp H
        obtain ⟨t776, A80, H⟩ := H
        replace H : (some t776) = some r := H
        have A8 := Aside0.mk A80
        clear A80
        obtain rfl := Option.some.inj H
        go_wp2_with (first | ((with_reducible refine gate_callee (f := 16) rfl ?_); refine goesL_ (some 27) rfl rfl Try.func16 (by kernel_rfl) rfl #[] rfl (by (try simp only [List.map_toArray, List.map_cons, List.map_nil]); first | done | rfl | (simp only [List.length_drop, List.length_take]; rfl)) ?_; (with_reducible refine (clochelaw04_alive.calls kj2  t776 _ A8.out).mono ?_); rintro e w9 ⟨rfl, hb⟩; refine ⟨_, rfl, ?_⟩; have n0_ := Aside0.mk (below_step (by repeat (first | (with_reducible first | exact HB.out | apply below_alloc | apply pw_below_drewN | apply below_drew1) | exact HB.out)) hb); clear HB; have HB := n0_; clear n0_; (try clear hb); (try clear hb2); (try clear hk); (try clear hi)))
        go_ret
        exact ⟨by first | rfl | (simp [errW_none, errW_some] <;> rfl) | (simp [*, errW_none, errW_some] <;> rfl), by repeat (first | (with_reducible first | exact HB.out | apply below_alloc | apply pw_below_drewN | apply below_drew1) | exact HB.out)⟩
      · replace c7 := Bool.eq_false_iff.mpr c7
        subst c7
        have H1 : ((clochelaw04_wires.f a1).bind fun t777 => ((blocks_Core.f kj2 l0 t777).bind fun bt778 => ((blocks_Strips.f kj2 l0 t777).bind fun bt783 => ((blocks_IsCore.f kj2 l0 t777).bind fun bt787 => ((blocks_IsCore.f kj2 bt778.1 t777).bind fun bt789 => (if bt778.2.2 = 0 then (if bt783.2 = 0 then (if bt787.2 = 0 then (if bt789.2 = 0 then (if bt789.1 = true then (if (bt787.1 != ((bt783.1.length : Int) == 0)) = true then (none) else (if (bt787.1 != (bt778.2.1 == 0)) = true then (none) else ((clochelaw04_same.f kj2 bt778.1 l0).bind fun t791 => (clochelaw04_BlocksNakayama.j1 kj2 l0 t777 bt778.1 bt778.2.1 bt783.1 (bt787.1 != t791))))) else (none)) else (none)) else (none)) else (none)) else (none))))))) = some r := by rw [if_neg (show ¬ (false = true) by decide)] at H; exact H
        clear H
        have H := H1
        clear H1
        replace H := Option.bind_eq_some_iff.mp H
        obtain ⟨t777, A100, H⟩ := H
        replace H : ((blocks_Core.f kj2 l0 t777).bind fun bt778 => ((blocks_Strips.f kj2 l0 t777).bind fun bt783 => ((blocks_IsCore.f kj2 l0 t777).bind fun bt787 => ((blocks_IsCore.f kj2 bt778.1 t777).bind fun bt789 => (if bt778.2.2 = 0 then (if bt783.2 = 0 then (if bt787.2 = 0 then (if bt789.2 = 0 then (if bt789.1 = true then (if (bt787.1 != ((bt783.1.length : Int) == 0)) = true then (none) else (if (bt787.1 != (bt778.2.1 == 0)) = true then (none) else ((clochelaw04_same.f kj2 bt778.1 l0).bind fun t791 => (clochelaw04_BlocksNakayama.j1 kj2 l0 t777 bt778.1 bt778.2.1 bt783.1 (bt787.1 != t791))))) else (none)) else (none)) else (none)) else (none)) else (none)))))) = some r := H
        have A10 := Aside0.mk A100
        clear A100
        replace H := Option.bind_eq_some_iff.mp H
        obtain ⟨⟨t778, t779, t780⟩, A110, H⟩ := H
        replace H : ((blocks_Strips.f kj2 l0 t777).bind fun bt783 => ((blocks_IsCore.f kj2 l0 t777).bind fun bt787 => ((blocks_IsCore.f kj2 t778 t777).bind fun bt789 => (if t780 = 0 then (if bt783.2 = 0 then (if bt787.2 = 0 then (if bt789.2 = 0 then (if bt789.1 = true then (if (bt787.1 != ((bt783.1.length : Int) == 0)) = true then (none) else (if (bt787.1 != (t779 == 0)) = true then (none) else ((clochelaw04_same.f kj2 t778 l0).bind fun t791 => (clochelaw04_BlocksNakayama.j1 kj2 l0 t777 t778 t779 bt783.1 (bt787.1 != t791))))) else (none)) else (none)) else (none)) else (none)) else (none))))) = some r := H
        have A11 := Aside0.mk A110
        clear A110
        replace H := Option.bind_eq_some_iff.mp H
        obtain ⟨⟨t783, t784⟩, A120, H⟩ := H
        replace H : ((blocks_IsCore.f kj2 l0 t777).bind fun bt787 => ((blocks_IsCore.f kj2 t778 t777).bind fun bt789 => (if t780 = 0 then (if t784 = 0 then (if bt787.2 = 0 then (if bt789.2 = 0 then (if bt789.1 = true then (if (bt787.1 != ((t783.length : Int) == 0)) = true then (none) else (if (bt787.1 != (t779 == 0)) = true then (none) else ((clochelaw04_same.f kj2 t778 l0).bind fun t791 => (clochelaw04_BlocksNakayama.j1 kj2 l0 t777 t778 t779 t783 (bt787.1 != t791))))) else (none)) else (none)) else (none)) else (none)) else (none)))) = some r := H
        have A12 := Aside0.mk A120
        clear A120
        replace H := Option.bind_eq_some_iff.mp H
        obtain ⟨⟨t787, t788⟩, A130, H⟩ := H
        replace H : ((blocks_IsCore.f kj2 t778 t777).bind fun bt789 => (if t780 = 0 then (if t784 = 0 then (if t788 = 0 then (if bt789.2 = 0 then (if bt789.1 = true then (if (t787 != ((t783.length : Int) == 0)) = true then (none) else (if (t787 != (t779 == 0)) = true then (none) else ((clochelaw04_same.f kj2 t778 l0).bind fun t791 => (clochelaw04_BlocksNakayama.j1 kj2 l0 t777 t778 t779 t783 (t787 != t791))))) else (none)) else (none)) else (none)) else (none)) else (none))) = some r := H
        have A13 := Aside0.mk A130
        clear A130
        replace H := Option.bind_eq_some_iff.mp H
        obtain ⟨⟨t789, t790⟩, A140, H⟩ := H
        replace H : (if t780 = 0 then (if t784 = 0 then (if t788 = 0 then (if t790 = 0 then (if t789 = true then (if (t787 != ((t783.length : Int) == 0)) = true then (none) else (if (t787 != (t779 == 0)) = true then (none) else ((clochelaw04_same.f kj2 t778 l0).bind fun t791 => (clochelaw04_BlocksNakayama.j1 kj2 l0 t777 t778 t779 t783 (t787 != t791))))) else (none)) else (none)) else (none)) else (none)) else (none)) = some r := H
        have A14 := Aside0.mk A140
        clear A140
        have HC15 := Aside0.mk H
        clear H
        go_upto_region 8 with (first | ((with_reducible refine gate_callee (f := 26) rfl ?_); refine goesL_ (some 29) rfl rfl Try.func26 (by kernel_rfl) rfl #[.int .u8 a1] rfl (by (try simp only [List.map_toArray, List.map_cons, List.map_nil]); first | done | rfl | (simp only [List.length_drop, List.length_take]; rfl)) ?_; (with_reducible refine (clochelaw04_wires.calls a1 t777 _ A10.out).mono ?_); rintro e w' ⟨rfl, ⟨nd, rfl⟩⟩; refine ⟨_, rfl, ?_⟩) | ((with_reducible refine gate_callee (f := 27) rfl ?_); refine goesL_ (some 33) rfl rfl Try.func27 (by kernel_rfl) rfl #[.slice A0 l0.length c0, .int .i64 t777] rfl (by (try simp only [List.map_toArray, List.map_cons, List.map_nil]); first | done | rfl | (simp only [List.length_drop, List.length_take]; rfl)) ?_; (with_reducible refine (blocks_Core.calls kj2 _ _ l0 t777 t778 t779 t780 _ ?side1 ?side2 A11.out).mono ?_); (case side1 => repeat (first | exact (Kd.C_below HR0.out (by repeat (first | (with_reducible first | exact HB.out | apply below_alloc | apply pw_below_drewN | apply below_drew1) | exact HB.out))) | (with_reducible refine Kd.C_alloc ?_ _) | (with_reducible refine Kd.C_drewN ?_ _) | (with_reducible refine Kd.C_drew ?_))); (case side2 => exact HC0.out); rintro e w16 ⟨v781, rfl, ho0, hb⟩; refine ⟨_, rfl, ?_⟩; have n0_ := Aside0.mk (Kd.R_lower ho0 (below_size (by repeat (first | (with_reducible first | exact HB.out | apply below_alloc | apply pw_below_drewN | apply below_drew1) | exact HB.out)))); have n1_ := Aside0.mk (below_step (by repeat (first | (with_reducible first | exact HB.out | apply below_alloc | apply pw_below_drewN | apply below_drew1) | exact HB.out)) hb); clear HB; have HO782 := n0_; have HB := n1_; clear n0_ n1_; (try clear hb); (try clear hb2); (try clear hk); (try clear hi); (try clear ho0)) | ((with_reducible refine gate_callee (f := 38) rfl ?_); refine goesL_ (some 40) rfl rfl Try.func38 (by kernel_rfl) rfl #[.slice A0 l0.length c0, .int .i64 t777] rfl (by (try simp only [List.map_toArray, List.map_cons, List.map_nil]); first | done | rfl | (simp only [List.length_drop, List.length_take]; rfl)) ?_; (with_reducible refine (blocks_Strips.calls kj2 _ _ l0 t777 t783 t784 _ ?side1 ?side2 A12.out).mono ?_); (case side1 => repeat (first | exact (Kd.C_below HR0.out HB.out) | (with_reducible refine Kd.C_alloc ?_ _) | (with_reducible refine Kd.C_drewN ?_ _) | (with_reducible refine Kd.C_drew ?_))); (case side2 => exact HC0.out); rintro e w17 ⟨v785, rfl, ho0, hb⟩; refine ⟨_, rfl, ?_⟩; have n0_ := Aside0.mk (Kd.R_below (by (with_reducible repeat (first | apply Kd.R_alloc | apply Kd.R_drewN | apply Kd.R_drew)); exact HO782.out) hb); have n1_ := Aside0.mk (Kd.S_lower (Kd.S_new' ho0 (Kd.R_lt (by (with_reducible repeat (first | apply Kd.R_alloc | apply Kd.R_drewN | apply Kd.R_drew)); exact HO782.out))) (below_size (by repeat (first | (with_reducible first | exact HB.out | apply below_alloc | apply pw_below_drewN | apply below_drew1) | exact HB.out)))); have n2_ := Aside0.mk (below_step (by repeat (first | (with_reducible first | exact HB.out | apply below_alloc | apply pw_below_drewN | apply below_drew1) | exact HB.out)) hb); clear HO782; clear HB; have HO782 := n0_; have HO786 := n1_; have HB := n2_; clear n0_ n1_ n2_; (try clear hb); (try clear hb2); (try clear hk); (try clear hi); (try clear ho0)) | ((with_reducible refine gate_callee (f := 41) rfl ?_); refine goesL_ (some 46) rfl rfl Try.func41 (by kernel_rfl) rfl #[.slice A0 l0.length c0, .int .i64 t777] rfl (by (try simp only [List.map_toArray, List.map_cons, List.map_nil]); first | done | rfl | (simp only [List.length_drop, List.length_take]; rfl)) ?_; (with_reducible refine (blocks_IsCore.calls kj2 _ _ l0 t777 t787 t788 _ ?side1 ?side2 A13.out).mono ?_); (case side1 => repeat (first | exact (Kd.C_below HR0.out HB.out) | (with_reducible refine Kd.C_alloc ?_ _) | (with_reducible refine Kd.C_drewN ?_ _) | (with_reducible refine Kd.C_drew ?_))); (case side2 => exact HC0.out); rintro e w18 ⟨rfl, hb⟩; refine ⟨_, rfl, ?_⟩; have n0_ := Aside0.mk (Kd.R_below (by (with_reducible repeat (first | apply Kd.R_alloc | apply Kd.R_drewN | apply Kd.R_drew)); exact HO782.out) hb); have n1_ := Aside0.mk (Kd.S_below (by (with_reducible repeat (first | apply Kd.S_alloc | apply Kd.S_drewN | apply Kd.S_drew)); exact HO786.out) hb); have n2_ := Aside0.mk (below_step (by repeat (first | (with_reducible first | exact HB.out | apply below_alloc | apply pw_below_drewN | apply below_drew1) | exact HB.out)) hb); clear HO782; clear HO786; clear HB; have HO782 := n0_; have HO786 := n1_; have HB := n2_; clear n0_ n1_ n2_; (try clear hb); (try clear hb2); (try clear hk); (try clear hi); obtain ⟨Ao19, co19, eo19⟩ := Kd.R_slice HO782.out; subst eo19) | ((with_reducible refine gate_callee (f := 41) rfl ?_); refine goesL_ (some 52) rfl rfl Try.func41 (by kernel_rfl) rfl #[.slice Ao19 t778.length co19, .int .i64 t777] rfl (by (try simp only [List.map_toArray, List.map_cons, List.map_nil]); first | done | rfl | (simp only [List.length_drop, List.length_take]; rfl)) ?_; (with_reducible refine (blocks_IsCore.calls kj2 _ _ t778 t777 t789 t790 _ ?side1 ?side2 A14.out).mono ?_); (case side1 => repeat (first | exact (Kd.R_reads' HO782.out).2.2 | (with_reducible refine Kd.C_alloc ?_ _) | (with_reducible refine Kd.C_drewN ?_ _) | (with_reducible refine Kd.C_drew ?_))); (case side2 => exact (Kd.R_reads' HO782.out).2.1); rintro e w20 ⟨rfl, hb⟩; refine ⟨_, rfl, ?_⟩; have n0_ := Aside0.mk (Kd.R_below (by (with_reducible repeat (first | apply Kd.R_alloc | apply Kd.R_drewN | apply Kd.R_drew)); exact HO782.out) hb); have n1_ := Aside0.mk (Kd.S_below (by (with_reducible repeat (first | apply Kd.S_alloc | apply Kd.S_drewN | apply Kd.S_drew)); exact HO786.out) hb); have n2_ := Aside0.mk (below_step (by repeat (first | (with_reducible first | exact HB.out | apply below_alloc | apply pw_below_drewN | apply below_drew1) | exact HB.out)) hb); clear HO782; clear HO786; clear HB; have HO782 := n0_; have HO786 := n1_; have HB := n2_; clear n0_ n1_ n2_; (try clear hb); (try clear hb2); (try clear hk); (try clear hi)))
        (try simp only [Act.put, List.setIfInBounds_toArray, List.set_cons_zero, List.set_cons_succ])
        go_cut [92] (fun v92 wc => ∃ (kq : Nat) (x92_14 : Bool), v92 = .bool x92_14 ∧ Aside0 (clochelaw04_BlocksNakayama.j1 kq l0 t777 t778 t779 t783 x92_14 = some r) ∧ Aside0 (kq ≤ kj2) ∧ Aside0 (Kd.R (Kd.int .i64) 3 wc w.heap.size (fun _ => True) (.slice Ao19 t778.length co19) t778) ∧ Aside0 (Kd.S (Kd.slice 3 (Kd.int .i64)) 22 wc w.heap.size (fun k_ => some k_ ≠ ((.slice Ao19 t778.length co19) : Value).ownBlock) v785 t783) ∧ Aside0 (Below w.heap.size w wc))
        case first =>
          have H := HC15.out
          clear HC15
          by_cases c21 : t780 = 0
          · rw [if_pos c21] at H
            have c21b0 : (t780 == 0) = true := beq_iff_eq.mpr c21
            have c21b1 : (t780 != 0) = false := bne_eq_false_iff_eq.mpr c21
            clear c21
            (first | rw [c21b0] | (simp only [i64_w, i32_w]; rw [c21b0]) | skip)
            by_cases c22 : t784 = 0
            · rw [if_pos c22] at H
              have c22b0 : (t784 == 0) = true := beq_iff_eq.mpr c22
              have c22b1 : (t784 != 0) = false := bne_eq_false_iff_eq.mpr c22
              clear c22
              by_cases c23 : t788 = 0
              · rw [if_pos c23] at H
                have c23b0 : (t788 == 0) = true := beq_iff_eq.mpr c23
                have c23b1 : (t788 != 0) = false := bne_eq_false_iff_eq.mpr c23
                clear c23
                by_cases c24 : t790 = 0
                · rw [if_pos c24] at H
                  have c24b0 : (t790 == 0) = true := beq_iff_eq.mpr c24
                  have c24b1 : (t790 != 0) = false := bne_eq_false_iff_eq.mpr c24
                  clear c24
                  by_cases c25 : t789 = true
                  · subst c25
                    have H1 : (if (t787 != ((t783.length : Int) == 0)) = true then (none) else (if (t787 != (t779 == 0)) = true then (none) else ((clochelaw04_same.f kj2 t778 l0).bind fun t791 => (clochelaw04_BlocksNakayama.j1 kj2 l0 t777 t778 t779 t783 (t787 != t791))))) = some r := by rw [if_pos rfl] at H; exact H
                    clear H
                    have H := H1
                    clear H1
                    by_cases c26 : (t787 != ((t783.length : Int) == 0)) = true
                    · rw [if_pos c26] at H
                      exact absurd H (by simp)
                    · rw [if_neg c26] at H
                      have c26b0 : (t787 != ((t783.length : Int) == 0)) = false := by simpa using c26
                      (try (have c26b1 : decide (t787 = ((t783.length : Int) == 0)) = true := by simpa using c26))
                      (try (have c26b2 : (t787 == ((t783.length : Int) == 0)) = true := by simpa using c26))
                      clear c26
                      by_cases c27 : (t787 != (t779 == 0)) = true
                      · rw [if_pos c27] at H
                        exact absurd H (by simp)
                      · rw [if_neg c27] at H
                        have c27b0 : (t787 != (t779 == 0)) = false := by simpa using c27
                        (try (have c27b1 : decide (t787 = (t779 == 0)) = true := by simpa using c27))
                        (try (have c27b2 : (t787 == (t779 == 0)) = true := by simpa using c27))
                        clear c27
                        replace H := Option.bind_eq_some_iff.mp H
                        obtain ⟨t791, A280, H⟩ := H
                        replace H : (clochelaw04_BlocksNakayama.j1 kj2 l0 t777 t778 t779 t783 (t787 != t791)) = some r := H
                        have A28 := Aside0.mk A280
                        clear A280
                        have H' := Aside0.mk H
                        clear H
                        obtain ⟨Ao29, co29, eo29⟩ := Kd.S_slice HO786.out
                        subst eo29
                        go_wp2_with (first | (go_at_call 22; (with_reducible refine (clochelaw04_same.calls kj2 _ _ t778 _ _ l0 t791 _ ?side1 ?side2 ?side3 ?side4 A28.out).mono ?_); (case side1 => repeat (first | exact (Kd.R_reads' HO782.out).2.2 | (with_reducible refine Kd.C_alloc ?_ _) | (with_reducible refine Kd.C_drewN ?_ _) | (with_reducible refine Kd.C_drew ?_))); (case side2 => exact (Kd.R_reads' HO782.out).2.1); (case side3 => repeat (first | exact (Kd.C_below HR0.out HB.out) | (with_reducible refine Kd.C_alloc ?_ _) | (with_reducible refine Kd.C_drewN ?_ _) | (with_reducible refine Kd.C_drew ?_))); (case side4 => exact HC0.out); rintro e w' ⟨rfl, ⟨nd, rfl⟩⟩))
                        go_meet
                        case rel => exact ⟨_, ((t787 != t791)), (by first | rfl | (simp; done) | (simp [*]; done)), H', ⟨by have := HJ2.out; first | omega | exact Nat.le_refl _⟩, ⟨by (with_reducible repeat (first | apply Kd.R_alloc | apply Kd.R_drewN | apply Kd.R_drew)); exact HO782.out⟩, ⟨by (with_reducible repeat (first | apply Kd.S_alloc | apply Kd.S_drewN | apply Kd.S_drew)); exact Kd.S_mono HO786.out (fun _ hk => hk.2)⟩, ⟨by repeat (first | (with_reducible first | exact HB.out | apply below_alloc | apply pw_below_drewN | apply below_drew1) | exact HB.out)⟩⟩
                  · replace c25 := Bool.eq_false_iff.mpr c25
                    subst c25
                    have H1 : (none) = some r := by rw [if_neg (show ¬ (false = true) by decide)] at H; exact H
                    clear H
                    have H := H1
                    clear H1
                    exact absurd H (by simp)
                · rw [if_neg c24] at H
                  exact absurd H (by simp)
              · rw [if_neg c23] at H
                exact absurd H (by simp)
            · rw [if_neg c22] at H
              exact absurd H (by simp)
          · rw [if_neg c21] at H
            exact absurd H (by simp)
        case rest =>
          clear HC15
          try clear c1
          try clear c2
          try clear p2
          try clear c3
          try clear c4
          try clear c5
          try clear c7
          try clear c11
          try clear c15
          try clear c16
          try clear c21
          try clear c21b0
          try clear c21b1
          try clear c22
          try clear c22b0
          try clear c22b1
          try clear c23
          try clear c23b0
          try clear c23b1
          try clear c24
          try clear c24b0
          try clear c24b1
          try clear c25
          try clear c26
          try clear c26b0
          try clear c26b1
          try clear c26b2
          try clear c27
          try clear c27b0
          try clear c27b1
          try clear c27b2
          try clear p2
          obtain ⟨kq, x92_14, rfl, HA, HJ14, HO_6, HO_9, HB⟩ := hcut
          cases kq with
          | zero => exact absurd HA.out (by simp [clochelaw04_BlocksNakayama.j1])
          | succ kj14 =>
            have H := HA.out
            clear HA
            simp only [clochelaw04_BlocksNakayama.j1] at H
            by_cases c30 : x92_14 = true
            · subst c30
              have H1 : (none) = some r := by rw [if_pos rfl] at H; exact H
              clear H
              have H := H1
              clear H1
              exact absurd H (by simp)
            · replace c30 := Bool.eq_false_iff.mpr c30
              subst c30
              have H1 : (clochelaw04_BlocksNakayama.l0 kj14 l0 t777 t778 t779 t783 0) = some r := by rw [if_neg (show ¬ (false = true) by decide)] at H; exact H
              clear H
              have H := H1
              clear H1
              have H' := Aside0.mk H
              clear H
              go_wp2
              go_loopg [15] kj14 (fun kq v15 w' => ∃ (x15_3 : Int), v15 = .int .i64 x15_3 ∧ Aside0 (clochelaw04_BlocksNakayama.l0 kq l0 t777 t778 t779 t783 x15_3 = some r) ∧ Aside0 (kq ≤ kj14) ∧ Aside0 (Kd.R (Kd.int .i64) 3 w' w.heap.size (fun _ => True) (.slice Ao19 t778.length co19) t778) ∧ Aside0 (Kd.S (Kd.slice 3 (Kd.int .i64)) 22 w' w.heap.size (fun k_ => some k_ ≠ ((.slice Ao19 t778.length co19) : Value).ownBlock) v785 t783) ∧ Aside0 (Below w.heap.size w w'))
              case atStart => exact ⟨(0), (by first | rfl | (simp; done) | (simp [*]; done)), H', ⟨Nat.le_refl _⟩, ⟨by (with_reducible repeat (first | apply Kd.R_alloc | apply Kd.R_drewN | apply Kd.R_drew)); exact HO_6.out⟩, ⟨by (with_reducible repeat (first | apply Kd.S_alloc | apply Kd.S_drewN | apply Kd.S_drew)); exact HO_9.out⟩, ⟨by repeat (first | (with_reducible first | exact HB.out | apply below_alloc | apply pw_below_drewN | apply below_drew1) | exact HB.out)⟩⟩
              case round =>
                clear H'
                try clear c1
                try clear c2
                try clear p2
                try clear c3
                try clear c4
                try clear c5
                try clear c7
                try clear c11
                try clear c15
                try clear c16
                try clear c21
                try clear c21b0
                try clear c21b1
                try clear c22
                try clear c22b0
                try clear c22b1
                try clear c23
                try clear c23b0
                try clear c23b1
                try clear c24
                try clear c24b0
                try clear c24b1
                try clear c25
                try clear c26
                try clear c26b0
                try clear c26b1
                try clear c26b2
                try clear c27
                try clear c27b0
                try clear c27b1
                try clear c27b2
                try clear c30
                try clear p2
                obtain ⟨x15_3, rfl, HA, HK3, HO_6, HO_9, HB⟩ := hrel
                cases gk with
                | zero => exact absurd HA.out (by simp [clochelaw04_BlocksNakayama.l0])
                | succ k3 =>
                  have H := HA.out
                  clear HA
                  simp only [clochelaw04_BlocksNakayama.l0] at H
                  by_cases c31 : x15_3 < (t783.length : Int)
                  · rw [if_pos c31] at H
                    have c31b0 : decide (x15_3 < (t783.length : Int)) = true := decide_eq_true c31
                    clear c31
                    have HC32 := Aside0.mk H
                    clear H
                    obtain ⟨Ao33, co33, eo33⟩ := Kd.S_slice HO_9.out
                    subst eo33
                    go_upto_region 13 with (fail)
                    go_cut [116] (fun v116 wc => ∃ (kq : Nat) (x116_31 : Bool), v116 = .bool x116_31 ∧ Aside0 (clochelaw04_BlocksNakayama.j3 kq l0 t777 t778 t779 t783 x15_3 x116_31 = some r) ∧ Aside0 (kq ≤ k3) ∧ Aside0 (Kd.R (Kd.int .i64) 3 wc w.heap.size (fun _ => True) (.slice Ao19 t778.length co19) t778) ∧ Aside0 (Kd.S (Kd.slice 3 (Kd.int .i64)) 22 wc w.heap.size (fun k_ => some k_ ≠ ((.slice Ao19 t778.length co19) : Value).ownBlock) (.slice Ao33 t783.length co33) t783) ∧ Aside0 (Below w.heap.size w wc))
                    case first =>
                      have H := HC32.out
                      clear HC32
                      by_cases c34 : 0 ≤ x15_3
                      · rw [if_pos c34] at H
                        have c34b0 : decide (0 ≤ x15_3) = true := decide_eq_true c34
                        clear c34
                        (first | rw [c34b0] | (simp only [i64_w, i32_w]; rw [c34b0]) | skip)
                        replace H := Option.bind_eq_some_iff.mp H
                        obtain ⟨t794, A350, H⟩ := H
                        replace H : (if t794 = true then ((clocheref04_Sum.f k3 (rd_L1 t783 x15_3)).bind fun t796 => ((clocheref04_Sum.f k3 l0).bind fun t797 => (clochelaw04_BlocksNakayama.j3 k3 l0 t777 t778 t779 t783 x15_3 (t796 != (wrap64 (t797 - t777)))))) else (none)) = some r := H
                        have A35 := Aside0.mk A350
                        clear A350
                        by_cases c36 : t794 = true
                        · subst c36
                          have H1 : ((clocheref04_Sum.f k3 (rd_L1 t783 x15_3)).bind fun t796 => ((clocheref04_Sum.f k3 l0).bind fun t797 => (clochelaw04_BlocksNakayama.j3 k3 l0 t777 t778 t779 t783 x15_3 (t796 != (wrap64 (t797 - t777)))))) = some r := by rw [if_pos rfl] at H; exact H
                          clear H
                          have H := H1
                          clear H1
                          replace H := Option.bind_eq_some_iff.mp H
                          obtain ⟨t796, A370, H⟩ := H
                          replace H : ((clocheref04_Sum.f k3 l0).bind fun t797 => (clochelaw04_BlocksNakayama.j3 k3 l0 t777 t778 t779 t783 x15_3 (t796 != (wrap64 (t797 - t777))))) = some r := H
                          have A37 := Aside0.mk A370
                          clear A370
                          replace H := Option.bind_eq_some_iff.mp H
                          obtain ⟨t797, A380, H⟩ := H
                          replace H : (clochelaw04_BlocksNakayama.j3 k3 l0 t777 t778 t779 t783 x15_3 (t796 != (wrap64 (t797 - t777)))) = some r := H
                          have A38 := Aside0.mk A380
                          clear A380
                          have H' := Aside0.mk H
                          clear H
                          have p793 : 0 ≤ (x15_3 : Int) := of_decide_eq_true (by first | (with_reducible assumption) | assumption)
                          have q793 : x15_3 < (t783.length : Int) := of_decide_eq_true (by first | (with_reducible assumption) | assumption)
                          obtain ⟨ad793, A793_0, c793_0, e793, hx793_0, hl793_0, hi793_0⟩ := at_L1 (Kd.S_reads' HO_9.out).2.2 x15_3 p793 q793
                          cases e793
                          obtain ⟨ce793, hce793, hMe793, hcc793⟩ := Kd.S_get HO_9.out [] x15_3 p793 (by first | exact q793 | exact of_decide_eq_true (by first | (with_reducible assumption) | assumption) | (have e_ := (Kd.S_reads' HO_9.out).1; omega))
                          obtain ⟨ve793_0, rfl, ge793_0⟩ := hMe793
                          have hv793_0 := hcc793 0 _ rfl
                          rw [Nat.add_zero, show ((Kd.slice 3 (Kd.int .i64))).sz = 1 from rfl, Nat.mul_one] at hv793_0
                          replace hv793_0 := Option.some.inj (hv793_0.symm.trans hx793_0)
                          rw [hv793_0] at ge793_0
                          have HL793_0 := Aside0.mk (show Kd.R (Kd.int .i64) 3 _ _ _ _ (rd_L1 t783 x15_3) from ge793_0)
                          clear hv793_0 ge793_0
                          clear hcc793 hce793
                          have HR793_0 := Aside0.mk hi793_0
                          have HC793_0 := Aside0.mk hl793_0
                          clear hi793_0 hl793_0
                          replace p793 := eq_true p793
                          replace q793 := eq_true q793
                          go_wp2_with (first | ((with_reducible refine gate_callee (f := 25) rfl ?_); refine goesL_ (some 103) rfl rfl Try.func25 (by kernel_rfl) rfl #[.slice A793_0 (rd_L1 t783 x15_3).length c793_0] rfl (by (try simp only [List.map_toArray, List.map_cons, List.map_nil]); first | done | rfl | (simp only [List.length_drop, List.length_take]; rfl)) ?_; (with_reducible refine (clocheref04_IsShape.calls k3 _ _ (rd_L1 t783 x15_3) true _ ?side1 ?side2 A35.out).mono ?_); (case side1 => repeat (first | exact (by repeat (first | (with_reducible exact HR793_0.out) | (with_reducible refine Kd.C_alloc ?_ _) | (with_reducible refine Kd.C_drewN ?_ _) | (with_reducible refine Kd.C_drew ?_) | exact HR793_0.out)) | (with_reducible refine Kd.C_alloc ?_ _) | (with_reducible refine Kd.C_drewN ?_ _) | (with_reducible refine Kd.C_drew ?_))); (case side2 => exact HC793_0.out); rintro e w' ⟨rfl, ⟨nd, rfl⟩⟩; refine ⟨_, rfl, ?_⟩; have p795 : 0 ≤ (x15_3 : Int) := of_decide_eq_true (by first | (with_reducible assumption) | assumption); have q795 : x15_3 < (t783.length : Int) := of_decide_eq_true (by first | (with_reducible assumption) | assumption); obtain ⟨ad795, A795_0, c795_0, e795, hx795_0, hl795_0, hi795_0⟩ := at_L1 (Kd.S_reads' HO_9.out).2.2 x15_3 p795 q795; obtain rfl : ad793 = ad795 := (by injection e795); obtain ⟨ce795, hce795, hMe795, hcc795⟩ := Kd.S_get HO_9.out [] x15_3 p795 (by first | exact q795 | exact of_decide_eq_true (by first | (with_reducible assumption) | assumption) | (have e_ := (Kd.S_reads' HO_9.out).1; omega)); obtain ⟨ve795_0, rfl, ge795_0⟩ := hMe795; have hv795_0 := hcc795 0 _ rfl; rw [Nat.add_zero, show ((Kd.slice 3 (Kd.int .i64))).sz = 1 from rfl, Nat.mul_one] at hv795_0; replace hv795_0 := Option.some.inj (hv795_0.symm.trans hx795_0); rw [hv795_0] at ge795_0; have HL795_0 := Aside0.mk (show Kd.R (Kd.int .i64) 3 _ _ _ _ (rd_L1 t783 x15_3) from ge795_0); clear hv795_0 ge795_0; clear hcc795 hce795; have HR795_0 := Aside0.mk hi795_0; have HC795_0 := Aside0.mk hl795_0; clear hi795_0 hl795_0; replace p795 := eq_true p795; replace q795 := eq_true q795; have ea_ := Option.some.inj (hx793_0.symm.trans hx795_0); injection ea_ with ea_ en_ ec_; subst ea_; subst ec_; clear en_) | (go_at_call 28; (with_reducible refine (clocheref04_Sum.calls k3 _ _ (rd_L1 t783 x15_3) t796 _ ?side1 ?side2 A37.out).mono ?_); (case side1 => repeat (first | exact (by repeat (first | (with_reducible exact HR795_0.out) | (with_reducible refine Kd.C_alloc ?_ _) | (with_reducible refine Kd.C_drewN ?_ _) | (with_reducible refine Kd.C_drew ?_) | exact HR795_0.out)) | (with_reducible refine Kd.C_alloc ?_ _) | (with_reducible refine Kd.C_drewN ?_ _) | (with_reducible refine Kd.C_drew ?_))); (case side2 => exact HC795_0.out); rintro e w' ⟨rfl, ⟨nd, rfl⟩⟩) | (go_at_call 28; (with_reducible refine (clocheref04_Sum.calls k3 _ _ l0 t797 _ ?side1 ?side2 A38.out).mono ?_); (case side1 => repeat (first | exact (Kd.C_below HR0.out (by repeat (first | (with_reducible first | exact HB.out | apply below_alloc | apply pw_below_drewN | apply below_drew1) | exact HB.out))) | (with_reducible refine Kd.C_alloc ?_ _) | (with_reducible refine Kd.C_drewN ?_ _) | (with_reducible refine Kd.C_drew ?_))); (case side2 => exact HC0.out); rintro e w' ⟨rfl, ⟨nd, rfl⟩⟩))
                          go_meet
                          case rel => exact ⟨_, ((t796 != (wrap64 (t797 - t777)))), (by first | rfl | (simp; done) | (simp [*]; done)), H', ⟨by have := HJ2.out; have := HJ14.out; have := HK3.out; first | omega | exact Nat.le_refl _⟩, ⟨by (with_reducible repeat (first | apply Kd.R_alloc | apply Kd.R_drewN | apply Kd.R_drew)); exact HO_6.out⟩, ⟨by (with_reducible repeat (first | apply Kd.S_alloc | apply Kd.S_drewN | apply Kd.S_drew)); exact HO_9.out⟩, ⟨by repeat (first | (with_reducible first | exact HB.out | apply below_alloc | apply pw_below_drewN | apply below_drew1) | exact HB.out)⟩⟩
                        · replace c36 := Bool.eq_false_iff.mpr c36
                          subst c36
                          have H1 : (none) = some r := by rw [if_neg (show ¬ (false = true) by decide)] at H; exact H
                          clear H
                          have H := H1
                          clear H1
                          exact absurd H (by simp)
                      · rw [if_neg c34] at H
                        exact absurd H (by simp)
                    case rest =>
                      clear HC32
                      try clear c1
                      try clear c2
                      try clear p2
                      try clear c3
                      try clear c4
                      try clear c5
                      try clear p6
                      try clear c7
                      try clear p7
                      try clear q7
                      try clear hx7
                      try clear c11
                      try clear c15
                      try clear c16
                      try clear c21
                      try clear c21b0
                      try clear c21b1
                      try clear c22
                      try clear c22b0
                      try clear c22b1
                      try clear c23
                      try clear c23b0
                      try clear c23b1
                      try clear c24
                      try clear c24b0
                      try clear c24b1
                      try clear c25
                      try clear c26
                      try clear c26b0
                      try clear c26b1
                      try clear c26b2
                      try clear c27
                      try clear c27b0
                      try clear c27b1
                      try clear c27b2
                      try clear c30
                      try clear c31
                      try clear c31b0
                      try clear c34
                      try clear c34b0
                      try clear c36
                      try clear c38
                      try clear hx793_0
                      try clear hx795_0
                      try clear p2
                      try clear p793
                      try clear p795
                      try clear q793
                      try clear q795
                      obtain ⟨kq, x116_31, rfl, HA, HJ31, HO_6, HO_9, HB⟩ := hcut
                      cases kq with
                      | zero => exact absurd HA.out (by simp [clochelaw04_BlocksNakayama.j3])
                      | succ kj31 =>
                        have H := HA.out
                        clear HA
                        simp only [clochelaw04_BlocksNakayama.j3] at H
                        by_cases c39 : x116_31 = true
                        · subst c39
                          have H1 : (none) = some r := by rw [if_pos rfl] at H; exact H
                          clear H
                          have H := H1
                          clear H1
                          exact absurd H (by simp)
                        · replace c39 := Bool.eq_false_iff.mpr c39
                          subst c39
                          have H1 : (if 0 ≤ x15_3 then (if x15_3 < (t783.length : Int) then ((blocks_Core.f kj31 (rd_L1 t783 x15_3) t777).bind fun bt799 => (if bt799.2.2 = 0 then ((clochelaw04_same.f kj31 t778 bt799.1).bind fun t804 => (if t804 = true then (if bt799.2.1 = (wrap64 (t779 - 1)) then (clochelaw04_BlocksNakayama.l0 kj31 l0 t777 t778 t779 t783 (wrap64 (x15_3 + 1))) else (none)) else (none))) else (none))) else (none)) else (none)) = some r := by rw [if_neg (show ¬ (false = true) by decide)] at H; exact H
                          clear H
                          have H := H1
                          clear H1
                          by_cases c40 : 0 ≤ x15_3
                          · rw [if_pos c40] at H
                            have c40b0 : decide (0 ≤ x15_3) = true := decide_eq_true c40
                            clear c40
                            by_cases c41 : x15_3 < (t783.length : Int)
                            · rw [if_pos c41] at H
                              have c41b0 : decide (x15_3 < (t783.length : Int)) = true := decide_eq_true c41
                              clear c41
                              replace H := Option.bind_eq_some_iff.mp H
                              obtain ⟨⟨t799, t800, t801⟩, A420, H⟩ := H
                              replace H : (if t801 = 0 then ((clochelaw04_same.f kj31 t778 t799).bind fun t804 => (if t804 = true then (if t800 = (wrap64 (t779 - 1)) then (clochelaw04_BlocksNakayama.l0 kj31 l0 t777 t778 t779 t783 (wrap64 (x15_3 + 1))) else (none)) else (none))) else (none)) = some r := H
                              have A42 := Aside0.mk A420
                              clear A420
                              by_cases c43 : t801 = 0
                              · rw [if_pos c43] at H
                                have c43b0 : (t801 == 0) = true := beq_iff_eq.mpr c43
                                have c43b1 : (t801 != 0) = false := bne_eq_false_iff_eq.mpr c43
                                clear c43
                                replace H := Option.bind_eq_some_iff.mp H
                                obtain ⟨t804, A440, H⟩ := H
                                replace H : (if t804 = true then (if t800 = (wrap64 (t779 - 1)) then (clochelaw04_BlocksNakayama.l0 kj31 l0 t777 t778 t779 t783 (wrap64 (x15_3 + 1))) else (none)) else (none)) = some r := H
                                have A44 := Aside0.mk A440
                                clear A440
                                by_cases c45 : t804 = true
                                · subst c45
                                  have H1 : (if t800 = (wrap64 (t779 - 1)) then (clochelaw04_BlocksNakayama.l0 kj31 l0 t777 t778 t779 t783 (wrap64 (x15_3 + 1))) else (none)) = some r := by rw [if_pos rfl] at H; exact H
                                  clear H
                                  have H := H1
                                  clear H1
                                  by_cases c46 : t800 = (wrap64 (t779 - 1))
                                  · rw [if_pos c46] at H
                                    have c46b0 : (t800 == (wrap64 (t779 - 1))) = true := beq_iff_eq.mpr c46
                                    have c46b1 : (t800 != (wrap64 (t779 - 1))) = false := bne_eq_false_iff_eq.mpr c46
                                    clear c46
                                    have H' := Aside0.mk H
                                    clear H
                                    have p798 : 0 ≤ (x15_3 : Int) := of_decide_eq_true (by first | (with_reducible assumption) | assumption)
                                    have q798 : x15_3 < (t783.length : Int) := of_decide_eq_true (by first | (with_reducible assumption) | assumption)
                                    obtain ⟨ad798, A798_0, c798_0, e798, hx798_0, hl798_0, hi798_0⟩ := at_L1 (Kd.S_reads' HO_9.out).2.2 x15_3 p798 q798
                                    cases e798
                                    obtain ⟨ce798, hce798, hMe798, hcc798⟩ := Kd.S_get HO_9.out [] x15_3 p798 (by first | exact q798 | exact of_decide_eq_true (by first | (with_reducible assumption) | assumption) | (have e_ := (Kd.S_reads' HO_9.out).1; omega))
                                    obtain ⟨ve798_0, rfl, ge798_0⟩ := hMe798
                                    have hv798_0 := hcc798 0 _ rfl
                                    rw [Nat.add_zero, show ((Kd.slice 3 (Kd.int .i64))).sz = 1 from rfl, Nat.mul_one] at hv798_0
                                    replace hv798_0 := Option.some.inj (hv798_0.symm.trans hx798_0)
                                    rw [hv798_0] at ge798_0
                                    have HL798_0 := Aside0.mk (show Kd.R (Kd.int .i64) 3 _ _ _ _ (rd_L1 t783 x15_3) from ge798_0)
                                    clear hv798_0 ge798_0
                                    clear hcc798 hce798
                                    have HR798_0 := Aside0.mk hi798_0
                                    have HC798_0 := Aside0.mk hl798_0
                                    clear hi798_0 hl798_0
                                    replace p798 := eq_true p798
                                    replace q798 := eq_true q798
                                    go_wp2_with (first | ((with_reducible refine gate_callee (f := 27) rfl ?_); refine goesL_ (some 123) rfl rfl Try.func27 (by kernel_rfl) rfl #[.slice A798_0 (rd_L1 t783 x15_3).length c798_0, .int .i64 t777] rfl (by (try simp only [List.map_toArray, List.map_cons, List.map_nil]); first | done | rfl | (simp only [List.length_drop, List.length_take]; rfl)) ?_; (with_reducible refine (blocks_Core.calls kj31 _ _ (rd_L1 t783 x15_3) t777 t799 t800 t801 _ ?side1 ?side2 A42.out).mono ?_); (case side1 => repeat (first | exact (by repeat (first | (with_reducible exact HR798_0.out) | (with_reducible refine Kd.C_alloc ?_ _) | (with_reducible refine Kd.C_drewN ?_ _) | (with_reducible refine Kd.C_drew ?_) | exact HR798_0.out)) | (with_reducible refine Kd.C_alloc ?_ _) | (with_reducible refine Kd.C_drewN ?_ _) | (with_reducible refine Kd.C_drew ?_))); (case side2 => exact HC798_0.out); rintro e w47 ⟨v802, rfl, ho0, hb⟩; refine ⟨_, rfl, ?_⟩; have n0_ := Aside0.mk (Kd.R_elder' (by (with_reducible repeat (first | apply Kd.R_alloc | apply Kd.R_drewN | apply Kd.R_drew)); exact HO_6.out) (Kd.R_base ho0) hb); have n1_ := Aside0.mk (Kd.S_elder' (by (with_reducible repeat (first | apply Kd.S_alloc | apply Kd.S_drewN | apply Kd.S_drew)); exact HO_9.out) (Kd.R_base ho0) hb); have n2_ := Aside0.mk (Kd.R_elder' (by (with_reducible repeat (first | apply Kd.R_alloc | apply Kd.R_drewN | apply Kd.R_drew)); exact HL798_0.out) (Kd.R_base ho0) hb); have n3_ := Aside0.mk (Kd.R_lower (Kd.R_new' (Kd.R_new' ho0 (Kd.R_lt (by (with_reducible repeat (first | apply Kd.R_alloc | apply Kd.R_drewN | apply Kd.R_drew)); exact HO_6.out))) (Kd.R_lt (by (with_reducible repeat (first | apply Kd.R_alloc | apply Kd.R_drewN | apply Kd.R_drew)); exact HL798_0.out))) (below_size (by repeat (first | (with_reducible first | exact HB.out | apply below_alloc | apply pw_below_drewN | apply below_drew1) | exact HB.out)))); have n4_ := Aside0.mk (Kd.C_below (by repeat (first | (with_reducible exact HR798_0.out) | (with_reducible refine Kd.C_alloc ?_ _) | (with_reducible refine Kd.C_drewN ?_ _) | (with_reducible refine Kd.C_drew ?_) | exact HR798_0.out)) hb); have n5_ := Aside0.mk (below_step (by repeat (first | (with_reducible first | exact HB.out | apply below_alloc | apply pw_below_drewN | apply below_drew1) | exact HB.out)) hb); clear HO_6; clear HO_9; clear HL798_0; clear HR798_0; clear HB; have HO_6 := n0_; have HO_9 := n1_; have HL798_0 := n2_; have HO803 := n3_; have HR798_0 := n4_; have HB := n5_; clear n0_ n1_ n2_ n3_ n4_ n5_; (try clear hb); (try clear hb2); (try clear hk); (try clear hi); (try clear ho0); obtain ⟨Ao48, co48, eo48⟩ := Kd.R_slice HO803.out; subst eo48) | (go_at_call 22; (with_reducible refine (clochelaw04_same.calls kj31 _ _ t778 _ _ t799 true _ ?side1 ?side2 ?side3 ?side4 A44.out).mono ?_); (case side1 => repeat (first | exact (Kd.R_reads' HO_6.out).2.2 | (with_reducible refine Kd.C_alloc ?_ _) | (with_reducible refine Kd.C_drewN ?_ _) | (with_reducible refine Kd.C_drew ?_))); (case side2 => exact (Kd.R_reads' HO_6.out).2.1); (case side3 => repeat (first | exact (Kd.R_reads' HO803.out).2.2 | (with_reducible refine Kd.C_alloc ?_ _) | (with_reducible refine Kd.C_drewN ?_ _) | (with_reducible refine Kd.C_drew ?_))); (case side4 => exact (Kd.R_reads' HO803.out).2.1); rintro e w' ⟨rfl, ⟨nd, rfl⟩⟩))
                                    go_roundg kj31
                                    case measure => have := HJ2.out; have := HJ14.out; have := HK3.out; have := HJ31.out; omega
                                    case rel => exact ⟨(wrap64 (x15_3 + 1)), (by first | rfl | (simp; done) | (simp [*]; done)), H', ⟨by have := HJ2.out; have := HJ14.out; have := HK3.out; have := HJ31.out; omega⟩, ⟨by (with_reducible repeat (first | apply Kd.R_alloc | apply Kd.R_drewN | apply Kd.R_drew)); exact Kd.R_mono HO_6.out (fun _ hk => trivial)⟩, ⟨by (with_reducible repeat (first | apply Kd.S_alloc | apply Kd.S_drewN | apply Kd.S_drew)); exact Kd.S_mono HO_9.out (fun _ hk => hk.1)⟩, ⟨by repeat (first | (with_reducible first | exact HB.out | apply below_alloc | apply pw_below_drewN | apply below_drew1) | exact HB.out)⟩⟩
                                  · rw [if_neg c46] at H
                                    exact absurd H (by simp)
                                · replace c45 := Bool.eq_false_iff.mpr c45
                                  subst c45
                                  have H1 : (none) = some r := by rw [if_neg (show ¬ (false = true) by decide)] at H; exact H
                                  clear H
                                  have H := H1
                                  clear H1
                                  exact absurd H (by simp)
                              · rw [if_neg c43] at H
                                exact absurd H (by simp)
                            · rw [if_neg c41] at H
                              exact absurd H (by simp)
                          · rw [if_neg c40] at H
                            exact absurd H (by simp)
                  · rw [if_neg c31] at H
                    have c31b0 : decide (x15_3 < (t783.length : Int)) = false := decide_eq_false c31
                    clear c31
                    replace H := Option.bind_eq_some_iff.mp H
                    obtain ⟨t792, A490, H⟩ := H
                    replace H : (some t792) = some r := H
                    have A49 := Aside0.mk A490
                    clear A490
                    obtain rfl := Option.some.inj H
                    obtain ⟨Ao50, co50, eo50⟩ := Kd.S_slice HO_9.out
                    subst eo50
                    go_wp2_with (first | ((with_reducible refine gate_callee (f := 16) rfl ?_); refine goesL_ (some 141) rfl rfl Try.func16 (by kernel_rfl) rfl #[] rfl (by (try simp only [List.map_toArray, List.map_cons, List.map_nil]); first | done | rfl | (simp only [List.length_drop, List.length_take]; rfl)) ?_; (with_reducible refine (clochelaw04_alive.calls k3  t792 _ A49.out).mono ?_); rintro e w51 ⟨rfl, hb⟩; refine ⟨_, rfl, ?_⟩; have n0_ := Aside0.mk (Kd.R_below (by (with_reducible repeat (first | apply Kd.R_alloc | apply Kd.R_drewN | apply Kd.R_drew)); exact HO_6.out) hb); have n1_ := Aside0.mk (Kd.S_below (by (with_reducible repeat (first | apply Kd.S_alloc | apply Kd.S_drewN | apply Kd.S_drew)); exact HO_9.out) hb); have n2_ := Aside0.mk (below_step (by repeat (first | (with_reducible first | exact HB.out | apply below_alloc | apply pw_below_drewN | apply below_drew1) | exact HB.out)) hb); clear HO_6; clear HO_9; clear HB; have HO_6 := n0_; have HO_9 := n1_; have HB := n2_; clear n0_ n1_ n2_; (try clear hb); (try clear hb2); (try clear hk); (try clear hi)))
                    go_ret
                    exact ⟨by first | rfl | (simp [errW_none, errW_some] <;> rfl) | (simp [*, errW_none, errW_some] <;> rfl), by repeat (first | (with_reducible first | exact HB.out | apply below_alloc | apply pw_below_drewN | apply below_drew1) | exact HB.out)⟩

/-- THE ONE PURE STATEMENT of clochelaw04_BlocksNakayama: yours. -/
def clochelaw04_BlocksNakayama.Pure : Prop := ∀ (l0 : List Int) (a1 : Int), l0.length ≤ maxLen → l0.length * 8 ≤ 140737488351232 → (∀ x ∈ l0, (Lit.int .i64 x).wf = true) → (Lit.int .u8 a1).wf = true → ∃ k, clochelaw04_BlocksNakayama.f k l0 a1 = some true
theorem clochelaw04_BlocksNakayama.walk (P : clochelaw04_BlocksNakayama.Pure) (a0 : Option Addr) (len0 cap0 : Nat) (z0 : List Int) (a1 : Int) (w : World) (w0 : (a0 = none ∧ len0 = 0 ∧ cap0 = 0 ∧ z0 = []) ∨ ∃ x, a0 = some x ∧ len0 ≤ cap0 ∧ cap0 ≤ maxLen ∧ z0.length = cap0 ∧ (∀ i, i < z0.length → w.cell? (x.add i) = some (.int .i64 (z0.getD i 0))) ∧ ∀ n ∈ z0, (Lit.int .i64 n).wf = true) (y0 : len0 * 8 ≤ 140737488351232) (w1 : (Lit.int .u8 a1).wf = true) :
    Calls Try.prog 11 #[.slice a0 len0 cap0, .int .u8 a1] w fun e w' => e = .returned (.bool true) ∧ Below w.heap.size w w' := by
  obtain ⟨l0, rfl, hr0, hm0, hw0, hc0⟩ := ReadsInt.ofRowC w0
  obtain ⟨k, h⟩ := P l0 a1 hm0 y0 hw0 w1
  refine (clochelaw04_BlocksNakayama.calls k _ _ l0 a1 true w (Kd.C_of_reads (d := (0 : Int)) (h1 := fun _ => rfl) hr0) hc0 h).mono ?_
  rintro e w' ⟨rfl, hd⟩
  exact ⟨rfl, hd⟩

end Go.Proofs.Ytcmphfcpiciehaa.Print
