/- waves.Snakes and its closure, by hand. -/
import Derived.Test.YtmigibamdeodpaaProg
import Derived.Laws.EntriesVeiled
import Derived.Outline
import Derived.Below
import Derived.Deep.Draws
import Derived.Deep.AppendLies
import Derived.Maps.AppendAt
import Derived.OwnWalk
import Derived.Laws.BytesArg
import Derived.Laws.MakeOwn
import Derived.Laws.OwnMore
import Derived.Deep.OwnRows
import Derived.Tactics
import Derived.Lib.ConvBytes
import Derived.Laws.Slices
import Derived.WalkKit
import Derived.KernelRfl
import Derived.RowKit3
import Derived.Deep.LoopGhost
import Derived.Deep.QuietTactic
import Derived.BigQuiet
import Derived.WideLaws
import Derived.Deep.DeepCutAuto
import Derived.Deep.CutBlock
import Derived.Deep.RegionHeld3
import Derived.Laws.Rows
import Derived.Lib.AppendStr
import Derived.ArgAppend
import Derived.Laws.IdiomCopy
import Derived.OrdersHeld
import Derived.Laws.BitsLemmas
import Derived.RowKit
import Derived.Test.YtmigibamdeodpaaWWords
import Derived.Test.YtmigibamdeodpaaWLast
import Derived.Test.YtmigibamdeodpaaWTab
import Derived.Test.YtmigibamdeodpaaWQPut
import Derived.Test.YtmigibamdeodpaaWApart
import Derived.Test.YtmigibamdeodpaaWArr
import Derived.Test.YtmigibamdeodpaaWZeros
import Derived.Test.YtmigibamdeodpaaWFoot
import Derived.Test.YtmigibamdeodpaaWKept
import Derived.Test.YtmigibamdeodpaaWShare
import Derived.Test.YtmigibamdeodpaaWN
import Derived.Test.YtmigibamdeodpaaWRepsOne
import Derived.Test.YtmigibamdeodpaaWGuard
import Derived.Test.YtmigibamdeodpaaWNEv
import Derived.Test.YtmigibamdeodpaaWMore
import Derived.Test.YtmigibamdeodpaaHand0
namespace Go.Proofs.Ytmigibamdeodpaa.Print
open Go.RowKit Go.Proofs.YtmigibamdeodpaaW.PrintWords Go.Proofs.YtmigibamdeodpaaW.PrintLast Go.Proofs.YtmigibamdeodpaaW.PrintMore
attribute [local go_sem] max2_int min2_int max_two min_two max_three min_three max_four min_four
set_option linter.unusedVariables false
set_option linter.unusedSimpArgs false
/-! ### waves_snakesOn: function 58 (Snakes$1), a closure: the captured n and on lie in blocks g4, g5 -/
mutual
def waves_snakesOn.l0 : Nat → Int → Int → Bool → Int → Int → Int → Int → Option (Int)
  | 0, _, _, _, _, _, _, _ => none
  | k + 1, x0, x1, x2, x3, x4, x11, x12 => if x12 ≤ x4 then (if x12 = 0 then (waves_snakesOn.l0 k x0 x1 x2 x3 x4 x11 (wrap64 (x12 + 1))) else (if 0 ≤ (mx x12 (wrap64 (-x12))) then (if (Go.bits .and .i64 (shr .i64 x1 (mx x12 (wrap64 (-x12)))) 1) = 1 then (waves_snakesOn.l0 k x0 x1 x2 x3 x4 x11 (wrap64 (x12 + 1))) else (if ((decide (x12 < x0)) != x2) = true then (waves_snakesOn.l0 k x0 x1 x2 x3 x4 x11 (wrap64 (x12 + 1))) else ((waves_snakesOn.f k x12 (Go.bits .or .i64 x1 (shl .i64 1 (mx x12 (wrap64 (-x12))))) (!x2) (wrap64 (x3 + 1)) x4).bind fun t101 => (waves_snakesOn.l0 k x0 x1 x2 x3 x4 (wrap64 (x11 + t101)) (wrap64 (x12 + 1)))))) else (none))) else (some x11)
def waves_snakesOn.f : Nat → Int → Int → Bool → Int → Int → Option (Int)
  | 0, _, _, _, _, _ => none
  | k + 1, a0, a1, a2, a3, a4 => if a3 = a4 then (some 1) else (waves_snakesOn.l0 k a0 a1 a2 a3 a4 0 (wrap64 (-a4)))
end
theorem waves_snakesOn.mono_l : ∀ k, (∀ y0 y1 y2 y3 y4, LeO (waves_snakesOn.f k y0 y1 y2 y3 y4) (waves_snakesOn.f (k + 1) y0 y1 y2 y3 y4)) ∧ (∀ y0 y1 y2 y3 y4 y5 y6, LeO (waves_snakesOn.l0 k y0 y1 y2 y3 y4 y5 y6) (waves_snakesOn.l0 (k + 1) y0 y1 y2 y3 y4 y5 y6))
  | 0 => ⟨fun _ _ _ _ _ r h => by simp [waves_snakesOn.f] at h, fun _ _ _ _ _ _ _ r h => by simp [waves_snakesOn.l0] at h⟩
  | k + 1 => by
    obtain ⟨ih0, ih1⟩ := waves_snakesOn.mono_l k
    refine ⟨?_, ?_⟩
    · intro y0 y1 y2 y3 y4
      unfold waves_snakesOn.f
      repeat' first
      | (with_reducible exact ih0 _ _ _ _ _)
      | (with_reducible exact ih1 _ _ _ _ _ _ _)
      | (with_reducible exact LeO.refl _)
      | (with_reducible exact LeO.none _)
      | (with_reducible refine LeO.ite ?_ ?_)
      | (with_reducible refine LeO.bind ?_ (fun _ => ?_))
      | exact ih0 _ _ _ _ _
      | exact ih1 _ _ _ _ _ _ _
      | exact LeO.none _
      | refine LeO.ite ?_ ?_
      | refine LeO.bind ?_ (fun _ => ?_)
    · intro y0 y1 y2 y3 y4 y5 y6
      unfold waves_snakesOn.l0
      repeat' first
      | (with_reducible exact ih0 _ _ _ _ _)
      | (with_reducible exact ih1 _ _ _ _ _ _ _)
      | (with_reducible exact LeO.refl _)
      | (with_reducible exact LeO.none _)
      | (with_reducible refine LeO.ite ?_ ?_)
      | (with_reducible refine LeO.bind ?_ (fun _ => ?_))
      | exact ih0 _ _ _ _ _
      | exact ih1 _ _ _ _ _ _ _
      | exact LeO.none _
      | refine LeO.ite ?_ ?_
      | refine LeO.bind ?_ (fun _ => ?_)
theorem waves_snakesOn.mono : ∀ a0 a1 a2 a3 a4 k, LeO (waves_snakesOn.f k a0 a1 a2 a3 a4) (waves_snakesOn.f (k + 1) a0 a1 a2 a3 a4) := by
  intro a0 a1 a2 a3 a4 k
  obtain ⟨ih0, ih1⟩ := waves_snakesOn.mono_l k
  exact ih0 a0 a1 a2 a3 a4
def waves_snakesOn.T8 : Bool × List (List Nat × List Nat) := (true, [([], []), ([], []), ([], []), ([], []), ([], []), ([], []), ([5], [5]), ([4, 6], [4, 6]), ([7], [7]), ([3, 8], [3, 8]), ([], []), ([10], [10]), ([], []), ([12], [12]), ([1, 2, 9, 11, 13], [1, 2, 9, 11, 13]), ([0, 14], [0, 14]), ([15, 14, 0, 1, 2, 3, 4, 5, 6, 7, 8, 9, 10, 11, 12, 13, 14, 15], [0, 15])])
def waves_snakesOn.B8 : List Nat := [0, 0, 0, 0, 0, 0, 32, 112, 240, 504, 0, 1024, 0, 4096, 16382, 32767, 65535]
theorem waves_snakesOn.tab8 : rtab .any (opsOf Try.f58 8) = waves_snakesOn.T8 := by kernel_rfl
theorem waves_snakesOn.bits8 : waitsOk waves_snakesOn.T8.2 waves_snakesOn.B8 = true := by kernel_rfl
set_option maxHeartbeats 8000000 in
set_option maxRecDepth 100000 in
theorem waves_snakesOn.calls (k : Nat) : ∀ (a0 : Int) (a1 : Int) (a2 : Bool) (a3 : Int) (a4 : Int) (r : Int) (w : World) (g4 g5 : Nat) (hN : w.heap[g4]? = some (.cells #[.int .i64 a4] 3 (0, 0))) (hF : w.heap[g5]? = some (.cells #[.func (.func 58) #[] #[.pointer (some ⟨g4, 0, none⟩), .pointer (some ⟨g5, 0, none⟩)]] 63 (0, 0))) (h : waves_snakesOn.f k a0 a1 a2 a3 a4 = some r),
    Calls Try.prog 58 #[.int .i64 a0, .int .i64 a1, .bool a2, .int .i64 a3, .pointer (some ⟨g4, 0, none⟩), .pointer (some ⟨g5, 0, none⟩)] w fun e w' => e = .returned (.int .i64 r) ∧ Below w.heap.size w w' := by
  induction k using Nat.strongRecOn with
  | _ k ih =>
  intro a0 a1 a2 a3 a4 r w g4 g5 hN hF h
  have cN := cell_of_one hN
  have HN := Aside0.mk hN
  have HF := Aside0.mk hF
  clear hN hF
  cases k with
  | zero => exact absurd h (by simp [waves_snakesOn.f])
  | succ k =>
  simp only [waves_snakesOn.f] at h
  have HB := Aside0.mk (Below.refl w.heap.size w)
  have H : (if a3 = a4 then (some 1) else (waves_snakesOn.l0 k a0 a1 a2 a3 a4 0 (wrap64 (-a4)))) = some r := h
  clear h
  by_cases c6 : a3 = a4
  · rw [if_pos c6] at H
    have c6b0 : (a3 == a4) = true := beq_iff_eq.mpr c6
    have c6b1 : (a3 != a4) = false := bne_eq_false_iff_eq.mpr c6
    clear c6
    obtain rfl := Option.some.inj H
    go_enter Try.func58, Try.ntmps58
    go_wp2
    go_ret
    exact ⟨by first | rfl | (simp [errW_none, errW_some] <;> rfl) | (simp [*, errW_none, errW_some] <;> rfl), by repeat (first | (with_reducible first | exact HB.out | apply below_alloc | apply pw_below_drewN | apply below_drew1) | exact HB.out)⟩
  · rw [if_neg c6] at H
    have c6b0 : (a3 == a4) = false := beq_eq_false_iff_ne.mpr c6
    have c6b1 : (a3 != a4) = true := bne_iff_ne.mpr c6
    have H' := Aside0.mk H
    clear H
    go_enter Try.func58, Try.ntmps58
    go_wp2
    go_loopg [11, 12] k (fun kq v11 v12 w' => ∃ (x11_1 : Int) (x12_1 : Int), v11 = .int .i64 x11_1 ∧ v12 = .int .i64 x12_1 ∧ Aside0 (waves_snakesOn.l0 kq a0 a1 a2 a3 a4 x11_1 x12_1 = some r) ∧ Aside0 (kq ≤ k) ∧ Aside0 (Below w.heap.size w w'))
    case atStart => exact ⟨(0), (wrap64 (-a4)), (by first | rfl | (simp; done) | (simp [*]; done)), (by first | rfl | (simp; done) | (simp [*]; done)), H', ⟨Nat.le_refl _⟩, ⟨by repeat (first | (with_reducible first | exact HB.out | apply below_alloc | apply pw_below_drewN | apply below_drew1) | exact HB.out)⟩⟩
    case round =>
      clear H'
      try clear p2
      try clear c5
      try clear c6
      try clear c6b0
      try clear c6b1
      try clear p6
      obtain ⟨x11_1, x12_1, rfl, rfl, HA, HK1, HB⟩ := hrel
      have cN1 := cell_of_one (blkB HB.out HN.out)
      have cF1 := cell_of_one (blkB HB.out HF.out)
      cases gk with
      | zero => exact absurd HA.out (by simp [waves_snakesOn.l0])
      | succ k1 =>
        have H := HA.out
        clear HA
        simp only [waves_snakesOn.l0] at H
        by_cases c7 : x12_1 ≤ a4
        · rw [if_pos c7] at H
          have c7b0 : decide (x12_1 ≤ a4) = true := decide_eq_true c7
          clear c7
          by_cases c8 : x12_1 = 0
          · rw [if_pos c8] at H
            have c8b0 : (x12_1 == 0) = true := beq_iff_eq.mpr c8
            have c8b1 : (x12_1 != 0) = false := bne_eq_false_iff_eq.mpr c8
            clear c8
            have H' := Aside0.mk H
            clear H
            go_wp2
            go_roundg k1
            case measure => have := HK1.out; omega
            case rel => exact ⟨(x11_1), (wrap64 (x12_1 + 1)), (by first | rfl | (simp; done) | (simp [*]; done)), (by first | rfl | (simp; done) | (simp [*]; done)), H', ⟨by have := HK1.out; omega⟩, ⟨by repeat (first | (with_reducible first | exact HB.out | apply below_alloc | apply pw_below_drewN | apply below_drew1) | exact HB.out)⟩⟩
          · rw [if_neg c8] at H
            have c8b0 : (x12_1 == 0) = false := beq_eq_false_iff_ne.mpr c8
            have c8b1 : (x12_1 != 0) = true := bne_iff_ne.mpr c8
            obtain ⟨ji9, hji9⟩ : ∃ j_ : Int, (mx x12_1 (wrap64 (-x12_1))) = j_ := ⟨_, rfl⟩
            replace H : (if 0 ≤ (ji9) then (if (Go.bits .and .i64 (shr .i64 a1 (ji9)) 1) = 1 then (waves_snakesOn.l0 k1 a0 a1 a2 a3 a4 x11_1 (wrap64 (x12_1 + 1))) else (if ((decide (x12_1 < a0)) != a2) = true then (waves_snakesOn.l0 k1 a0 a1 a2 a3 a4 x11_1 (wrap64 (x12_1 + 1))) else ((waves_snakesOn.f k1 x12_1 (Go.bits .or .i64 a1 (shl .i64 1 (ji9))) (!a2) (wrap64 (a3 + 1)) a4).bind fun t101 => (waves_snakesOn.l0 k1 a0 a1 a2 a3 a4 (wrap64 (x11_1 + t101)) (wrap64 (x12_1 + 1)))))) else (none)) = some r := by first | (rw [hji9] at H; exact H) | (simp only [hji9] at H ⊢; exact H)
            have hji9_ : (if x12_1 < (wrap64 (-x12_1)) then (wrap64 (-x12_1)) else x12_1) = ji9 := hji9
            by_cases c10 : 0 ≤ (ji9)
            · rw [if_pos c10] at H
              have c10b0 := eq_true c10
              have c10b1 : decide (0 ≤ (ji9)) = true := decide_eq_true c10
              clear c10
              obtain ⟨ji11, hji11⟩ : ∃ j_ : Int, (shr .i64 a1 (ji9)) = j_ := ⟨_, rfl⟩
              replace H : (if (Go.bits .and .i64 (ji11) 1) = 1 then (waves_snakesOn.l0 k1 a0 a1 a2 a3 a4 x11_1 (wrap64 (x12_1 + 1))) else (if ((decide (x12_1 < a0)) != a2) = true then (waves_snakesOn.l0 k1 a0 a1 a2 a3 a4 x11_1 (wrap64 (x12_1 + 1))) else ((waves_snakesOn.f k1 x12_1 (Go.bits .or .i64 a1 (shl .i64 1 (ji9))) (!a2) (wrap64 (a3 + 1)) a4).bind fun t101 => (waves_snakesOn.l0 k1 a0 a1 a2 a3 a4 (wrap64 (x11_1 + t101)) (wrap64 (x12_1 + 1)))))) = some r := by first | (rw [hji11] at H; exact H) | (simp only [hji11] at H ⊢; exact H)
              have hji11_ : (a1 / 2 ^ min (ji9).toNat 64) = ji11 := hji11
              have hji11z : (ji9) ≤ 64 → (a1 / 2 ^ (ji9).toNat) = ji11 := shr_small hji11
              by_cases c12 : (Go.bits .and .i64 (ji11) 1) = 1
              · rw [if_pos c12] at H
                have c12b0 : ((Go.bits .and .i64 (ji11) 1) == 1) = true := beq_iff_eq.mpr c12
                have c12b1 : ((Go.bits .and .i64 (ji11) 1) != 1) = false := bne_eq_false_iff_eq.mpr c12
                clear c12
                have H' := Aside0.mk H
                clear H
                go_wp2
                go_roundg k1
                case measure => have := HK1.out; omega
                case rel => exact ⟨(x11_1), (wrap64 (x12_1 + 1)), (by first | rfl | (simp; done) | (simp [*]; done)), (by first | rfl | (simp; done) | (simp [*]; done)), H', ⟨by have := HK1.out; omega⟩, ⟨by repeat (first | (with_reducible first | exact HB.out | apply below_alloc | apply pw_below_drewN | apply below_drew1) | exact HB.out)⟩⟩
              · rw [if_neg c12] at H
                have c12b0 : ((Go.bits .and .i64 (ji11) 1) == 1) = false := beq_eq_false_iff_ne.mpr c12
                have c12b1 : ((Go.bits .and .i64 (ji11) 1) != 1) = true := bne_iff_ne.mpr c12
                by_cases c13 : ((decide (x12_1 < a0)) != a2) = true
                · rw [if_pos c13] at H
                  have c13b0 : ((decide (x12_1 < a0)) != a2) = true := c13
                  (try (have c13b1 : decide ((decide (x12_1 < a0)) = a2) = false := by simpa using c13))
                  (try (have c13b2 : ((decide (x12_1 < a0)) == a2) = false := by simpa using c13))
                  (try (have c13b3 : ¬ ((decide (x12_1 < a0)) = a2) := by simpa using c13))
                  clear c13
                  have H' := Aside0.mk H
                  clear H
                  go_wp2
                  go_roundg k1
                  case measure => have := HK1.out; omega
                  case rel => exact ⟨(x11_1), (wrap64 (x12_1 + 1)), (by first | rfl | (simp; done) | (simp [*]; done)), (by first | rfl | (simp; done) | (simp [*]; done)), H', ⟨by have := HK1.out; omega⟩, ⟨by repeat (first | (with_reducible first | exact HB.out | apply below_alloc | apply pw_below_drewN | apply below_drew1) | exact HB.out)⟩⟩
                · rw [if_neg c13] at H
                  have c13b0 : ((decide (x12_1 < a0)) != a2) = false := by simpa using c13
                  (try (have c13b1 : decide ((decide (x12_1 < a0)) = a2) = true := by simpa using c13))
                  (try (have c13b2 : ((decide (x12_1 < a0)) == a2) = true := by simpa using c13))
                  clear c13
                  have c15b0 := eq_true (of_decide_eq_true (by first | (with_reducible assumption) | assumption) : 0 ≤ (ji9))
                  obtain ⟨ji16, hji16⟩ : ∃ j_ : Int, (shl .i64 1 (ji9)) = j_ := ⟨_, rfl⟩
                  replace H : ((waves_snakesOn.f k1 x12_1 (Go.bits .or .i64 a1 (ji16)) (!a2) (wrap64 (a3 + 1)) a4).bind fun t101 => (waves_snakesOn.l0 k1 a0 a1 a2 a3 a4 (wrap64 (x11_1 + t101)) (wrap64 (x12_1 + 1)))) = some r := by first | (rw [hji16] at H; exact H) | (simp only [hji16] at H ⊢; exact H)
                  have hji16_ : (IntKind.i64.wrap (1 * 2 ^ min (ji9).toNat 64)) = ji16 := hji16
                  have hji16z : (ji9) ≤ 64 → (IntKind.i64.wrap (1 * 2 ^ (ji9).toNat)) = ji16 := shl_small hji16
                  have hji16u : (IntKind.i64.wrap (2 ^ min (ji9).toNat 64)) = ji16 := by have h_ := hji16_; rw [Int.one_mul] at h_; exact h_
                  have hji16v : (ji9) ≤ 64 → (IntKind.i64.wrap (2 ^ (ji9).toNat)) = ji16 := fun hle_ => by have h_ := hji16z hle_; rw [Int.one_mul] at h_; exact h_
                  have hji16y : (wrap64 (1 * 2 ^ min (ji9).toNat 64)) = ji16 := (i64_w _).symm.trans hji16_
                  have hji16x : (ji9) ≤ 64 → (wrap64 (1 * 2 ^ (ji9).toNat)) = ji16 := fun h_ => (i64_w _).symm.trans (hji16z h_)
                  replace H := Option.bind_eq_some_iff.mp H
                  obtain ⟨t101, A170, H⟩ := H
                  replace H : (waves_snakesOn.l0 k1 a0 a1 a2 a3 a4 (wrap64 (x11_1 + t101)) (wrap64 (x12_1 + 1))) = some r := H
                  have A17 := Aside0.mk A170
                  clear A170
                  have H' := Aside0.mk H
                  clear H
                  try go_wp2
                  have n0_ := Aside0.mk (below_drew1 HB.out)
                  clear HB
                  have HB := n0_
                  clear n0_
                  refine start_ (n := 17) (S := fun w' => w'.cell? ⟨g5, 0, none⟩ = some (.func (.func 58) #[] #[.pointer (some ⟨g4, 0, none⟩), .pointer (some ⟨g5, 0, none⟩)])) (ds := []) #[false, false, false, false, false, false, false, false, false, false, false, false, false, false, false, false, false] (by kernel_rfl) rfl rfl (by go_simp) (fun hHeld => ?_); refine with_tabW waves_snakesOn.tab8 waves_snakesOn.bits8 (fun HT_ HW_ => ?_)
                  clear cN1 cF1
                  generalize wr.drew = w18 at HB hHeld ⊢
                  refine pure_ (i := 0) (N := some 42) (v := ?_) (a' := ?_) #[true, false, false, false, false, false, false, false, false, false, false, false, false, false, false, false, false] rfl rfl (any_of HT_.out (by kernel_rfl)) (fun _ _ _ h => h) (Or.inl ⟨by rfl, ?_⟩) ?_ ?_
                  rotate_left
                  · intro w'
                    go_simp
                    with_reducible rfl
                  rotate_left
                  · simp only [Act.put, List.setIfInBounds_toArray, List.set_cons_zero, List.set_cons_succ, i64_w, i32_w]
                    rfl
                  refine take_ (i := 1) (N := some 43) (v := ?_) (a' := ?_) #[true, true, false, false, false, false, false, false, false, false, false, false, false, false, false, false, false] rfl rfl (take_ofW HT_.out HW_.out (by kernel_rfl)) (fun _ _ _ h => h) (Or.inl ⟨by rfl, ?_⟩) hHeld ?_ ?_
                  rotate_left
                  · rintro w' s0
                    go_simp
                    with_reducible rfl
                  rotate_left
                  · simp only [Act.put, List.setIfInBounds_toArray, List.set_cons_zero, List.set_cons_succ, i64_w, i32_w]
                    rfl
                  refine pure_ (i := 2) (N := some 44) (v := ?_) (a' := ?_) #[true, true, true, false, false, false, false, false, false, false, false, false, false, false, false, false, false] rfl rfl (any_of HT_.out (by kernel_rfl)) (fun _ _ _ h => h) (Or.inl ⟨by rfl, ?_⟩) ?_ ?_
                  rotate_left
                  · intro w'
                    go_simp
                    with_reducible rfl
                  rotate_left
                  · simp only [Act.put, List.setIfInBounds_toArray, List.set_cons_zero, List.set_cons_succ, i64_w, i32_w]
                    rfl
                  refine pure_ (i := 3) (N := some 45) (v := ?_) (a' := ?_) #[true, true, true, true, false, false, false, false, false, false, false, false, false, false, false, false, false] rfl rfl (any_of HT_.out (by kernel_rfl)) (fun _ _ _ h => h) (Or.inl ⟨by rfl, ?_⟩) ?_ ?_
                  rotate_left
                  · intro w'
                    go_simp
                    with_reducible rfl
                  rotate_left
                  · simp only [Act.put, List.setIfInBounds_toArray, List.set_cons_zero, List.set_cons_succ, i64_w, i32_w]
                    rfl
                  refine pure_ (i := 4) (N := some 46) (v := ?_) (a' := ?_) #[true, true, true, true, true, false, false, false, false, false, false, false, false, false, false, false, false] rfl rfl (any_of HT_.out (by kernel_rfl)) (fun _ _ _ h => h) (Or.inl ⟨by rfl, ?_⟩) ?_ ?_
                  rotate_left
                  · intro w'
                    go_simp
                    with_reducible rfl
                  rotate_left
                  · simp only [Act.put, List.setIfInBounds_toArray, List.set_cons_zero, List.set_cons_succ, i64_w, i32_w]
                    rfl
                  refine pure_ (i := 5) (N := some 47) (v := ?_) (a' := ?_) #[true, true, true, true, true, true, false, false, false, false, false, false, false, false, false, false, false] rfl rfl (any_of HT_.out (by kernel_rfl)) (fun _ _ _ h => h) (Or.inl ⟨by rfl, ?_⟩) ?_ ?_
                  rotate_left
                  · intro w'
                    go_simp
                    with_reducible rfl
                  rotate_left
                  · simp only [Act.put, List.setIfInBounds_toArray, List.set_cons_zero, List.set_cons_succ, i64_w, i32_w]
                    rfl
                  refine pure_ (i := 6) (N := some 48) (v := ?_) (a' := ?_) #[true, true, true, true, true, true, true, false, false, false, false, false, false, false, false, false, false] rfl rfl (any_of HT_.out (by kernel_rfl)) (fun _ _ _ h => h) (Or.inl ⟨by rfl, ?_⟩) ?_ ?_
                  rotate_left
                  · intro w'
                    go_simp
                    with_reducible rfl
                  rotate_left
                  · simp only [Act.put, List.setIfInBounds_toArray, List.set_cons_zero, List.set_cons_succ, i64_w, i32_w]
                    rfl
                  refine pure_ (i := 7) (N := some 49) (v := ?_) (a' := ?_) #[true, true, true, true, true, true, true, true, false, false, false, false, false, false, false, false, false] rfl rfl (any_of HT_.out (by kernel_rfl)) (fun _ _ _ h => h) (Or.inl ⟨by rfl, ?_⟩) ?_ ?_
                  rotate_left
                  · intro w'
                    go_simp
                    with_reducible rfl
                  rotate_left
                  · simp only [Act.put, List.setIfInBounds_toArray, List.set_cons_zero, List.set_cons_succ, i64_w, i32_w]
                    rfl
                  refine pure_ (i := 8) (N := some 50) (v := ?_) (a' := ?_) #[true, true, true, true, true, true, true, true, true, false, false, false, false, false, false, false, false] rfl rfl (any_of HT_.out (by kernel_rfl)) (fun _ _ _ h => h) (Or.inl ⟨by rfl, ?_⟩) ?_ ?_
                  rotate_left
                  · intro w'
                    go_simp
                    with_reducible rfl
                  rotate_left
                  · simp only [Act.put, List.setIfInBounds_toArray, List.set_cons_zero, List.set_cons_succ, i64_w, i32_w]
                    rfl
                  refine pure_ (i := 9) (N := some 51) (v := ?_) (a' := ?_) #[true, true, true, true, true, true, true, true, true, true, false, false, false, false, false, false, false] rfl rfl (any_of HT_.out (by kernel_rfl)) (fun _ _ _ h => h) (Or.inl ⟨by rfl, ?_⟩) ?_ ?_
                  rotate_left
                  · intro w'
                    go_simp
                    with_reducible rfl
                  rotate_left
                  · simp only [Act.put, List.setIfInBounds_toArray, List.set_cons_zero, List.set_cons_succ, i64_w, i32_w]
                    rfl
                  refine pure_ (i := 10) (N := some 52) (v := ?_) (a' := ?_) #[true, true, true, true, true, true, true, true, true, true, true, false, false, false, false, false, false] rfl rfl (any_of HT_.out (by kernel_rfl)) (fun _ _ _ h => h) (Or.inl ⟨by rfl, ?_⟩) ?_ ?_
                  rotate_left
                  · intro w'
                    go_simp
                    with_reducible rfl
                  rotate_left
                  · simp only [Act.put, List.setIfInBounds_toArray, List.set_cons_zero, List.set_cons_succ, i64_w, i32_w]
                    rfl
                  refine pure_ (i := 11) (N := some 53) (v := ?_) (a' := ?_) #[true, true, true, true, true, true, true, true, true, true, true, true, false, false, false, false, false] rfl rfl (any_of HT_.out (by kernel_rfl)) (fun _ _ _ h => h) (Or.inl ⟨by rfl, ?_⟩) ?_ ?_
                  rotate_left
                  · intro w'
                    go_simp
                    with_reducible rfl
                  rotate_left
                  · simp only [Act.put, List.setIfInBounds_toArray, List.set_cons_zero, List.set_cons_succ, i64_w, i32_w]
                    rfl
                  refine pure_ (i := 12) (N := some 54) (v := ?_) (a' := ?_) #[true, true, true, true, true, true, true, true, true, true, true, true, true, false, false, false, false] rfl rfl (any_of HT_.out (by kernel_rfl)) (fun _ _ _ h => h) (Or.inl ⟨by rfl, ?_⟩) ?_ ?_
                  rotate_left
                  · intro w'
                    go_simp
                    with_reducible rfl
                  rotate_left
                  · simp only [Act.put, List.setIfInBounds_toArray, List.set_cons_zero, List.set_cons_succ, i64_w, i32_w]
                    rfl
                  refine pure_ (i := 13) (N := some 55) (v := ?_) (a' := ?_) #[true, true, true, true, true, true, true, true, true, true, true, true, true, true, false, false, false] rfl rfl (any_of HT_.out (by kernel_rfl)) (fun _ _ _ h => h) (Or.inl ⟨by rfl, ?_⟩) ?_ ?_
                  rotate_left
                  · intro w'
                    go_simp
                    with_reducible rfl
                  rotate_left
                  · simp only [Act.put, List.setIfInBounds_toArray, List.set_cons_zero, List.set_cons_succ, i64_w, i32_w]
                    rfl
                  refine one_ (i := 14) (N := some 56) #[true, true, true, true, true, true, true, true, true, true, true, true, true, true, true, false, false] rfl rfl (one_of HT_.out (by kernel_rfl)) (by decide) (fun K hK => ?_)
                  refine goesV_ Try.func58 (by kernel_rfl) rfl (lb := #[.pointer (some ⟨g4, 0, none⟩), .pointer (some ⟨g5, 0, none⟩)]) rfl #[.int .i64 x12_1, .int .i64 (Go.bits .or .i64 a1 (ji16)), .bool (!a2), .int .i64 (wrap64 (a3 + 1))] #[.int .i64 x12_1, .int .i64 (Go.bits .or .i64 a1 (ji16)), .bool (!a2), .int .i64 (wrap64 (a3 + 1)), .pointer (some ⟨g4, 0, none⟩), .pointer (some ⟨g5, 0, none⟩)] rfl (by rfl) rfl rfl (by (try simp only [List.map_toArray, List.map_cons, List.map_nil]); first | done | (simp only [hji16]; rfl) | rfl | (simp only [List.length_drop, List.length_take]; rfl)) ?_
                  with_reducible refine (ih k1 (by have := HK1.out; omega) x12_1 (Go.bits .or .i64 a1 (ji16)) (!a2) (wrap64 (a3 + 1)) a4 t101 _ g4 g5 (blkB HB.out HN.out) (blkB HB.out HF.out) A17.out).mono ?_
                  rintro e w19 ⟨rfl, hb⟩
                  refine ⟨_, rfl, ?_⟩
                  have n0_ := Aside0.mk (below_step (by repeat (first | (with_reducible first | exact HB.out | apply below_alloc | apply pw_below_drewN | apply below_drew1) | exact HB.out)) hb)
                  clear HB
                  have HB := n0_
                  clear n0_
                  (try clear hb)
                  (try clear hb2)
                  (try clear hk)
                  (try clear hi)
                  refine hK.out _ _ (cell_of_one (blkB HB.out HF.out)) (fun hHeld => ?_)
                  clear hK K
                  refine norm_ (a' := ?_) ?_ ?_
                  rotate_left
                  · show Act.put _ (some 56) _ = _
                    simp only [Act.put, List.setIfInBounds_toArray, List.set_cons_zero, List.set_cons_succ, i64_w, i32_w]
                    rfl
                  refine pure_ (i := 15) (N := some 57) (v := ?_) (a' := ?_) #[true, true, true, true, true, true, true, true, true, true, true, true, true, true, true, true, false] rfl rfl (any_of HT_.out (by kernel_rfl)) (fun _ _ _ h => h) (Or.inl ⟨by rfl, ?_⟩) ?_ ?_
                  rotate_left
                  · intro w'
                    go_simp
                    with_reducible rfl
                  rotate_left
                  · simp only [Act.put, List.setIfInBounds_toArray, List.set_cons_zero, List.set_cons_succ, i64_w, i32_w]
                    rfl
                  refine pure_ (i := 16) (N := some 11) (v := ?_) (a' := ?_) #[true, true, true, true, true, true, true, true, true, true, true, true, true, true, true, true, true] rfl rfl (any_of HT_.out (by kernel_rfl)) (fun _ _ _ h => h) (Or.inl ⟨by rfl, ?_⟩) ?_ ?_
                  rotate_left
                  · intro w'
                    go_simp
                    with_reducible rfl
                  rotate_left
                  · simp only [Act.put, List.setIfInBounds_toArray, List.set_cons_zero, List.set_cons_succ, i64_w, i32_w]
                    rfl
                  refine done_ (done_of HT_.out (by kernel_rfl)) ?_
                  try go_wp2
                  go_roundg k1
                  case measure => have := HK1.out; omega
                  case rel => exact ⟨(wrap64 (x11_1 + t101)), (wrap64 (x12_1 + 1)), (by first | rfl | (simp; done) | (simp [*]; done)), (by first | rfl | (simp; done) | (simp [*]; done)), H', ⟨by have := HK1.out; omega⟩, ⟨by repeat (first | (with_reducible first | exact HB.out | apply below_alloc | apply pw_below_drewN | apply below_drew1) | exact HB.out)⟩⟩
            · rw [if_neg c10] at H
              exact absurd H (by simp)
        · rw [if_neg c7] at H
          have c7b0 : decide (x12_1 ≤ a4) = false := decide_eq_false c7
          clear c7
          obtain rfl := Option.some.inj H
          go_wp2
          go_ret
          exact ⟨by first | rfl | (simp [errW_none, errW_some] <;> rfl) | (simp [*, errW_none, errW_some] <;> rfl), by repeat (first | (with_reducible first | exact HB.out | apply below_alloc | apply pw_below_drewN | apply below_drew1) | exact HB.out)⟩


/-! ### waves_Snakes: function 32 -/
def waves_Snakes.f (k : Nat) (a0 : Int) : Option (Int × Int) := if a0 < 0 then (some (0, 2)) else (if a0 > 6 then (some (0, 2)) else ((waves_snakesOn.f k 0 0 false 0 a0).bind fun t => (some (t, 0))))
theorem waves_Snakes.mono : ∀ a0 k, LeO (waves_Snakes.f k a0) (waves_Snakes.f (k + 1) a0) := by
  intro a0 k
  unfold waves_Snakes.f
  refine LeO.ite (LeO.refl _) (LeO.ite (LeO.refl _) (LeO.bind (waves_snakesOn.mono _ _ _ _ _ _) (fun _ => LeO.refl _)))
set_option maxHeartbeats 8000000 in
set_option maxRecDepth 100000 in
theorem waves_Snakes.calls (k : Nat) (a0 : Int) (r1 : Int) (r2 : Int) (w : World) (h : waves_Snakes.f k a0 = some (r1, r2)) :
    Calls Try.prog 32 #[.int .i64 a0] w fun e w' => e = .returned (.tuple #[.int .i64 r1, .int .i64 r2]) ∧ Below w.heap.size w w' := by
  unfold waves_Snakes.f at h
  by_cases h0 : a0 < 0
  · rw [if_pos h0] at h
    simp only [Option.some.injEq, Prod.mk.injEq] at h
    obtain ⟨rfl, rfl⟩ := h
    have c0 : decide (a0 < 0) = true := decide_eq_true h0
    go_enter Try.func32, Try.ntmps32
    go_wp2
    go_ret2
    exact ⟨rfl, below_alloc (Below.refl _ _) _⟩
  · rw [if_neg h0] at h
    by_cases h1 : a0 > 6
    · rw [if_pos h1] at h
      simp only [Option.some.injEq, Prod.mk.injEq] at h
      obtain ⟨rfl, rfl⟩ := h
      go_enter Try.func32, Try.ntmps32
      go_wp2
      go_ret2
      exact ⟨rfl, below_alloc (Below.refl _ _) _⟩
    · rw [if_neg h1] at h
      obtain ⟨t, H0, h⟩ := Option.bind_eq_some_iff.mp h
      have HA := Aside0.mk H0
      clear H0
      simp only [Option.some.injEq, Prod.mk.injEq] at h
      obtain ⟨rfl, rfl⟩ := h
      go_enter Try.func32, Try.ntmps32
      go_wp2_with fail
      refine (waves_snakesOn.calls k 0 0 false 0 a0 t _ w.heap.size (w.heap.size + 1) (heap_old1 (heap_new1 _ _)) (heap_new2 _ _ _) HA.out).mono ?_
      rintro e w1 ⟨rfl, hb⟩
      go_wp2
      go_ret2
      exact ⟨rfl, below_alloc2 hb⟩

end Go.Proofs.Ytmigibamdeodpaa.Print
