/- slices.ContainsFunc at the predicate of Of, by hand. -/
import Derived.Test.YtcmphfcpiciehaaProg
import Derived.Laws.EntriesVeiled
import Derived.Outline
import Derived.Below
import Derived.Deep.Draws
import Derived.Deep.AppendLies
import Derived.Maps.AppendAt
import Derived.OwnWalk
import Derived.Laws.BytesArg
import Derived.Laws.MakeOwn
import Derived.Laws.OwnMore
import Derived.Deep.OwnRows
import Derived.Tactics
import Derived.Lib.ConvBytes
import Derived.Laws.Slices
import Derived.WalkKit
import Derived.KernelRfl
import Derived.RowKit3
import Derived.Deep.LoopGhost
import Derived.Deep.QuietTactic
import Derived.BigQuiet
import Derived.WideLaws
import Derived.Deep.DeepCutAuto
import Derived.Deep.CutBlock
import Derived.Deep.RegionHeld3
import Derived.Laws.Rows
import Derived.Lib.AppendStr
import Derived.ArgAppend
import Derived.Laws.IdiomCopy
import Derived.OrdersHeld
import Derived.Laws.BitsLemmas
import Derived.RowKit
import Derived.Test.YtcmphfcpiciehaaWMore
import Derived.Test.YtcmphfcpiciehaaPrintx1
import Derived.Test.YtcmphfcpiciehaaHandAll
namespace Go.Proofs.Ytcmphfcpiciehaa.Print
open Go.RowKit Go.Proofs.YtcmphfcpiciehaaW.PrintWords Go.Proofs.YtcmphfcpiciehaaW.PrintLast Go.Proofs.YtcmphfcpiciehaaW.PrintMore
attribute [local go_sem] max2_int min2_int max_two min_two max_three min_three max_four min_four
set_option linter.unusedVariables false
set_option linter.unusedSimpArgs false
/-! ### slices.ContainsFunc(quotient, func(q []int) bool { return !IsShape(q) }): functions 51, 74, 52 -/
def anyBad.l0 : Nat → List (List Int) → Int → Option (Bool)
  | 0, _, _ => none
  | k + 1, x0, x8 => if x8 < (x0.length : Int) then (if 0 ≤ x8 then ((blocks_IsShape.f k (rd_L1 x0 x8)).bind fun t => (if t = true then (anyBad.l0 k x0 (wrap64 (x8 + 1))) else some true)) else none) else (some false)
def slices_ContainsFunc_int_int.f (k : Nat) (l0 : List (List Int)) : Option (Bool) := if (l0.length : Int) ≤ 1000000000 then anyBad.l0 k l0 0 else none
theorem anyBad.mono_l : ∀ k, (∀ y0 y1, LeO (anyBad.l0 k y0 y1) (anyBad.l0 (k + 1) y0 y1))
  | 0 => fun _ _ r h => by simp [anyBad.l0] at h
  | k + 1 => by
    have ih0 := anyBad.mono_l k
    intro y0 y1
    unfold anyBad.l0
    repeat' first
      | (with_reducible exact ih0 _ _)
      | (with_reducible exact blocks_IsShape.mono _ _)
      | (with_reducible exact LeO.refl _)
      | (with_reducible exact LeO.none _)
      | (with_reducible refine LeO.ite ?_ ?_)
      | (with_reducible refine LeO.bind ?_ (fun _ => ?_))
      | exact ih0 _ _
      | exact blocks_IsShape.mono _ _
theorem slices_ContainsFunc_int_int.mono (a0 : List (List Int)) (k : Nat) : LeO (slices_ContainsFunc_int_int.f k a0) (slices_ContainsFunc_int_int.f (k + 1) a0) := by
  unfold slices_ContainsFunc_int_int.f
  exact LeO.ite (anyBad.mono_l k a0 0) (LeO.refl _)
theorem bad_calls (k : Nat) (A0 : Option Addr) (c0 : Nat) (l0 : List Int) (r : Bool) (w : World) (hr0 : Kd.C (Kd.int .i64) w A0 l0.length l0) (hc0 : l0.length ≤ c0) (h : blocks_IsShape.f k l0 = some r) :
    Calls Try.prog 52 #[.slice A0 l0.length c0] w fun e w' => e = .returned (.bool (!r)) ∧ Drawn0 w w' := by
  have HI := Aside0.mk (blocks_IsShape.calls k A0 c0 l0 r)
  have HR := Aside0.mk hr0
  have HC := Aside0.mk hc0
  have HH := Aside0.mk h
  clear hr0 hc0 h
  go_enter Try.func52, Try.ntmps52
  go_wp2_with (first | ((with_reducible refine gate_callee (f := 31) rfl ?_); refine goesL_ _ rfl rfl Try.func31 (by kernel_rfl) rfl #[.slice A0 l0.length c0] rfl (by (try simp only [List.map_toArray, List.map_cons, List.map_nil]); first | done | rfl) ?_; refine (HI.out _ HR.out HC.out HH.out).mono ?_; rintro e w' ⟨rfl, ⟨nd, rfl⟩⟩; refine ⟨_, rfl, ?_⟩))
  go_ret
  exact ⟨rfl, by repeat (first | exact Drawn0.refl _ | apply Drawn0.step)⟩
/-- slices.IndexFunc at this predicate: -1, or a number that is not below 0. -/
theorem indexBad (k : Nat) (A0 : Option Addr) (c0 : Nat) (l0 : List (List Int)) (r : Bool) (w : World) (hr0 : Kd.C (Kd.slice 3 (Kd.int .i64)) w A0 l0.length l0) (hc0 : l0.length ≤ c0) (hl : (l0.length : Int) ≤ 1000000000) (h : anyBad.l0 k l0 0 = some r) :
    Calls Try.prog 74 #[.slice A0 l0.length c0, .func (.func 52) #[] #[]] w fun e w' => (∃ n : Int, e = .returned (.int .i64 n) ∧ (decide (0 ≤ n) = r)) ∧ Drawn0 w w' := by
  have HR0 := Aside0.mk hr0
  have HC0 := Aside0.mk hc0
  have HL := Aside0.mk hl
  clear hr0 hc0 hl
  have H' := Aside0.mk h
  clear h
  go_enter Try.func74, Try.ntmps74
  go_wp2
  go_loopg [8] k (fun kq v8 w' => ∃ (x8_1 : Int), v8 = .int .i64 x8_1 ∧ Aside0 (anyBad.l0 kq l0 x8_1 = some r) ∧ Aside0 (kq ≤ k) ∧ Drawn0 w w')
  case atStart => exact ⟨(0), (by first | rfl | (simp; done) | (simp [*]; done)), H', ⟨Nat.le_refl _⟩, by repeat (first | exact Drawn0.refl _ | apply Drawn0.step)⟩
  case round =>
    clear H'
    obtain ⟨x8_1, rfl, HA, HK1, ⟨m1, rfl⟩⟩ := hrel
    cases gk with
    | zero => exact absurd HA.out (by simp [anyBad.l0])
    | succ k1 =>
      have H := HA.out
      clear HA
      simp only [anyBad.l0] at H
      by_cases c2 : x8_1 < (l0.length : Int)
      · rw [if_pos c2] at H
        have c2b0 : decide (x8_1 < (l0.length : Int)) = true := decide_eq_true c2
        by_cases c3 : 0 ≤ x8_1
        · rw [if_pos c3] at H
          have c3b0 : decide (0 ≤ x8_1) = true := decide_eq_true c3
          obtain ⟨t, ht, H⟩ := Option.bind_eq_some_iff.mp H
          have A1 := Aside0.mk ht
          clear ht
          obtain ⟨ad, A, c, e1, hx, hlc, hi⟩ := at_L1 HR0.out x8_1 c3 c2
          cases e1
          have HI := Aside0.mk hi
          have HLC := Aside0.mk hlc
          have HB := Aside0.mk (bad_calls k1 A c (rd_L1 l0 x8_1) t)
          have p3 := eq_true c3
          have q2 := eq_true c2
          clear hi hlc c2 c3
          by_cases c4 : t = true
          · subst c4
            rw [if_pos rfl] at H
            have H' := Aside0.mk H
            clear H
            go_wp2_with (first | ((with_reducible refine gate_dst (N := 16) rfl ?_); refine goesVL_ (some 16) rfl rfl (f := 52) (lb := #[]) Try.func52 (by kernel_rfl) rfl rfl #[.slice A (rd_L1 l0 x8_1).length c] (#[.slice A (rd_L1 l0 x8_1).length c] ++ #[]) rfl rfl (by (try simp only [List.map_toArray, List.map_cons, List.map_nil]); first | done | rfl) ?_; refine (HB.out _ (Kd.C_drewN HI.out _) HLC.out A1.out).mono ?_; rintro e w' ⟨rfl, ⟨nd, rfl⟩⟩; refine ⟨_, rfl, ?_⟩))
            go_roundg k1
            case measure => have := HK1.out; omega
            case rel => exact ⟨(wrap64 (x8_1 + 1)), (by first | rfl | (simp; done) | (simp [*]; done)), H', ⟨by have := HK1.out; omega⟩, by repeat (first | exact Drawn0.refl _ | apply Drawn0.step)⟩
          · rw [if_neg c4] at H
            obtain rfl := Option.some.inj H
            obtain rfl : t = false := by simpa using c4
            go_wp2_with (first | ((with_reducible refine gate_dst (N := 16) rfl ?_); refine goesVL_ (some 16) rfl rfl (f := 52) (lb := #[]) Try.func52 (by kernel_rfl) rfl rfl #[.slice A (rd_L1 l0 x8_1).length c] (#[.slice A (rd_L1 l0 x8_1).length c] ++ #[]) rfl rfl (by (try simp only [List.map_toArray, List.map_cons, List.map_nil]); first | done | rfl) ?_; refine (HB.out _ (Kd.C_drewN HI.out _) HLC.out A1.out).mono ?_; rintro e w' ⟨rfl, ⟨nd, rfl⟩⟩; refine ⟨_, rfl, ?_⟩))
            go_ret
            exact ⟨⟨_, rfl, by first | exact c3b0 | exact of_decide_eq_true c3b0⟩, by repeat (first | exact Drawn0.refl _ | apply Drawn0.step)⟩
        · rw [if_neg c3] at H
          exact absurd H (by simp)
      · rw [if_neg c2] at H
        have c2b0 : decide (x8_1 < (l0.length : Int)) = false := decide_eq_false c2
        clear c2
        obtain rfl := Option.some.inj H
        go_wp2
        go_ret
        exact ⟨⟨_, rfl, by first | rfl | decide⟩, by repeat (first | exact Drawn0.refl _ | apply Drawn0.step)⟩
theorem slices_ContainsFunc_int_int.calls (k : Nat) (A0 : Option Addr) (c0 : Nat) (l0 : List (List Int)) (r : Bool) (w : World) (hr0 : Kd.C (Kd.slice 3 (Kd.int .i64)) w A0 l0.length l0) (hc0 : l0.length ≤ c0) (h : slices_ContainsFunc_int_int.f k l0 = some r) :
    Calls Try.prog 51 #[.slice A0 l0.length c0, .func (.func 52) #[] #[]] w fun e w' => e = .returned (.bool r) ∧ Drawn0 w w' := by
  unfold slices_ContainsFunc_int_int.f at h
  split at h
  case isFalse => cases h
  case isTrue hl =>
  have HX := Aside0.mk (indexBad k A0 c0 l0 r w hr0 hc0 hl h)
  clear hr0 hc0 hl h
  go_enter Try.func51, Try.ntmps51
  go_wp2_with (first | ((with_reducible refine gate_callee (f := 74) rfl ?_); refine goesL_ (some 7) rfl rfl Try.func74 (by kernel_rfl) rfl #[.slice A0 l0.length c0, .func (.func 52) #[] #[]] rfl (by (try simp only [List.map_toArray, List.map_cons, List.map_nil]); first | done | rfl) ?_; refine HX.out.mono ?_; rintro e w' ⟨⟨n, rfl, hn⟩, ⟨nd, rfl⟩⟩; refine ⟨_, rfl, ?_⟩))
  go_ret
  exact ⟨by rw [← hn]; rfl, by repeat (first | exact Drawn0.refl _ | apply Drawn0.step)⟩

end Go.Proofs.Ytcmphfcpiciehaa.Print
