/- visits.shop.pairs, with its map. -/
import Derived.Test.YtadfcplobidmeaaDoorProg
import Derived.Laws.EntriesVeiled
import Derived.Outline
import Derived.Below
import Derived.Deep.Draws
import Derived.Deep.AppendLies
import Derived.Maps.AppendAt
import Derived.OwnWalk
import Derived.Laws.BytesArg
import Derived.Laws.MakeOwn
import Derived.Laws.OwnMore
import Derived.Deep.OwnRows
import Derived.Tactics
import Derived.Lib.ConvBytes
import Derived.Laws.Slices
import Derived.WalkKit
import Derived.KernelRfl
import Derived.RowKit3
import Derived.Deep.LoopGhost
import Derived.Deep.QuietTactic
import Derived.BigQuiet
import Derived.WideLaws
import Derived.Deep.DeepCutAuto
import Derived.Deep.CutBlock
import Derived.Deep.RegionHeld3
import Derived.Laws.Rows
import Derived.Lib.AppendStr
import Derived.ArgAppend
import Derived.Laws.IdiomCopy
import Derived.OrdersHeld
import Derived.Laws.BitsLemmas
import Derived.RowKit
import Derived.Test.YtadfcplobidmeaaDoorWMore
import Derived.Test.YtadfcplobidmeaaDoorHandMap
namespace Go.Proofs.YtadfcplobidmeaaDoor.Print
open Go.RowKit Go.Proofs.YtadfcplobidmeaaDoorW.PrintWords Go.Proofs.YtadfcplobidmeaaDoorW.PrintLast Go.Proofs.YtadfcplobidmeaaDoorW.PrintMore
attribute [local go_sem] max2_int min2_int max_two min_two max_three min_three max_four min_four
set_option linter.unusedVariables false
set_option linter.unusedSimpArgs false
/-! ### visits_shop_pairs: function 50 -/
mutual
def visits_shop_pairs.l0 : Nat → List Int → Int → Int → Int → Int → Int → Option (Int)
  | 0, _, _, _, _, _, _ => none
  | k + 1, x0, x1, x9, x10, x32, x33 => if x33 < x32 then (if 0 ≤ x9 then (if x9 < (x0.length : Int) then (if 0 ≤ x33 then (if (Go.bits .and .i64 (shr .i64 (Go.bits .and .i64 (rd x0 x9) x1) x33) 1) = 1 then ((visits_shop_pairs.f k x0 (Go.bits .andNot .i64 x1 (Go.bits .or .i64 (shl .i64 1 x9) (shl .i64 1 x33)))).bind fun t104 => (visits_shop_pairs.l0 k x0 x1 x9 (mx x10 (wrap64 (1 + t104))) x32 (wrap64 (x33 + 1)))) else (visits_shop_pairs.l0 k x0 x1 x9 x10 x32 (wrap64 (x33 + 1)))) else (none)) else (none)) else (none)) else (some x10)
def visits_shop_pairs.f : Nat → List Int → Int → Option (Int)
  | 0, _, _ => none
  | k + 1, l0, a1 => if a1 = 0 then (some 0) else ((visits_first.f a1).bind fun t101 => (if 0 ≤ t101 then ((visits_shop_pairs.f k l0 (Go.bits .andNot .i64 a1 (shl .i64 1 t101))).bind fun t102 => (visits_shop_pairs.l0 k l0 a1 t101 t102 (l0.length : Int) 0)) else (none)))
end
theorem visits_shop_pairs.mono_l : ∀ k, (∀ y0 y1, LeO (visits_shop_pairs.f k y0 y1) (visits_shop_pairs.f (k + 1) y0 y1)) ∧ (∀ y0 y1 y2 y3 y4 y5, LeO (visits_shop_pairs.l0 k y0 y1 y2 y3 y4 y5) (visits_shop_pairs.l0 (k + 1) y0 y1 y2 y3 y4 y5))
  | 0 => ⟨fun _ _ r h => by simp [visits_shop_pairs.f] at h, fun _ _ _ _ _ _ r h => by simp [visits_shop_pairs.l0] at h⟩
  | k + 1 => by
    obtain ⟨ih0, ih1⟩ := visits_shop_pairs.mono_l k
    refine ⟨?_, ?_⟩
    · intro y0 y1
      unfold visits_shop_pairs.f
      repeat' first
      | (with_reducible exact ih0 _ _)
      | (with_reducible exact ih1 _ _ _ _ _ _)
      | (with_reducible exact LeO.refl _)
      | (with_reducible exact LeO.none _)
      | (with_reducible refine LeO.ite ?_ ?_)
      | (with_reducible refine LeO.bind ?_ (fun _ => ?_))
      | exact ih0 _ _
      | exact ih1 _ _ _ _ _ _
      | exact LeO.none _
      | refine LeO.ite ?_ ?_
      | refine LeO.bind ?_ (fun _ => ?_)
    · intro y0 y1 y2 y3 y4 y5
      unfold visits_shop_pairs.l0
      repeat' first
      | (with_reducible exact ih0 _ _)
      | (with_reducible exact ih1 _ _ _ _ _ _)
      | (with_reducible exact LeO.refl _)
      | (with_reducible exact LeO.none _)
      | (with_reducible refine LeO.ite ?_ ?_)
      | (with_reducible refine LeO.bind ?_ (fun _ => ?_))
      | exact ih0 _ _
      | exact ih1 _ _ _ _ _ _
      | exact LeO.none _
      | refine LeO.ite ?_ ?_
      | refine LeO.bind ?_ (fun _ => ?_)
theorem visits_shop_pairs.mono : ∀ a0 a1 k, LeO (visits_shop_pairs.f k a0 a1) (visits_shop_pairs.f (k + 1) a0 a1) := by
  intro a0 a1 k
  obtain ⟨ih0, ih1⟩ := visits_shop_pairs.mono_l k
  exact ih0 a0 a1
def visits_shop_pairs.T12 : Bool × List (List Nat × List Nat) := (true, [([], []), ([], []), ([], []), ([], []), ([3], [3]), ([], []), ([5], [5]), ([4, 6], [4, 6]), ([2, 7], [2, 7]), ([], []), ([1, 8, 9], [1, 8, 9]), ([10], [10]), ([0, 11], [0, 11]), ([12, 10, 0, 1, 2, 3, 4, 5, 6, 7, 8, 9, 10, 11, 12], [0, 12])])
def visits_shop_pairs.B12 : List Nat := [0, 0, 0, 0, 8, 0, 32, 120, 252, 0, 1022, 2046, 4095, 8191]
theorem visits_shop_pairs.tab12 : rtab .any (opsOf Tryd.f50 12) = visits_shop_pairs.T12 := by kernel_rfl
theorem visits_shop_pairs.bits12 : waitsOk visits_shop_pairs.T12.2 visits_shop_pairs.B12 = true := by kernel_rfl
/-- What the map says of a set of hats: as many pairs. -/
def pairsGood (l0 : List Int) (i n : Int) : Prop := ∃ k, visits_shop_pairs.f k l0 i = some n
theorem pairs_le (l0 : List Int) (i : Int) {n : Int} {k : Nat} (h : visits_shop_pairs.f k l0 i = some n) : ∀ d, visits_shop_pairs.f (k + d) l0 i = some n
  | 0 => h
  | d + 1 => visits_shop_pairs.mono _ _ _ _ (pairs_le l0 i h d)
theorem pairs_det {l0 : List Int} {i n m : Int} {k : Nat} (hg : pairsGood l0 i n) (h : visits_shop_pairs.f k l0 i = some m) : n = m := by
  obtain ⟨k', h'⟩ := hg
  have h1 := pairs_le l0 i h' k
  have h2 := pairs_le l0 i h k'
  rw [Nat.add_comm] at h2
  exact Option.some.inj (h1.symm.trans h2)
set_option maxHeartbeats 8000000 in
set_option maxRecDepth 100000 in
theorem visits_shop_pairs.calls (k : Nat) : ∀ (A0 : Option Addr) (c0 : Nat) (l0 : List Int) (a1 : Int) (r : Int) (w : World) (b : Nat) (hM : MemoI w b (pairsGood l0)) (hT : Tab w) (hr0 : Kd.C (Kd.int .i64) w A0 l0.length l0) (hc0 : l0.length ≤ c0) (h : visits_shop_pairs.f k l0 a1 = some r),
    Calls Tryd.prog 50 #[.slice A0 l0.length c0, .int .i64 a1, .map (some b)] w fun e w' => e = .returned (.int .i64 r) ∧ MSt w w' b (pairsGood l0) := by
  induction k using Nat.strongRecOn with
  | _ k ih =>
  intro A0 c0 l0 a1 r w b hM hT hr0 hc0 h
  have HF := Aside0.mk h
  have HM0 := Aside0.mk hM
  have HT0 := Aside0.mk hT
  clear hT
  cases k with
  | zero => exact absurd h (by simp [visits_shop_pairs.f])
  | succ k =>
  simp only [visits_shop_pairs.f] at h
  have HR0 := Aside0.mk hr0
  have HC0 := Aside0.mk hc0
  clear hr0 hc0
  have HB := Aside0.mk (MSt.refl hM)
  clear hM
  have H : (if a1 = 0 then (some 0) else ((visits_first.f a1).bind fun t101 => (if 0 ≤ t101 then ((visits_shop_pairs.f k l0 (Go.bits .andNot .i64 a1 (shl .i64 1 t101))).bind fun t102 => (visits_shop_pairs.l0 k l0 a1 t101 t102 (l0.length : Int) 0)) else (none)))) = some r := h
  clear h
  by_cases c3 : a1 = 0
  · rw [if_pos c3] at H
    have c3b0 : (a1 == 0) = true := beq_iff_eq.mpr c3
    have c3b1 : (a1 != 0) = false := bne_eq_false_iff_eq.mpr c3
    clear c3
    obtain rfl := Option.some.inj H
    go_enter Tryd.func50, Tryd.ntmps50
    go_wp2
    go_ret
    exact ⟨by first | rfl | (simp [errW_none, errW_some] <;> rfl) | (simp [*, errW_none, errW_some] <;> rfl), by repeat (first | exact HB.out | (refine mst_alloc ?_ _) | (refine mst_drewN ?_ _) | (refine mst_drew ?_))⟩
  · rw [if_neg c3] at H
    have c3b0 : (a1 == 0) = false := beq_eq_false_iff_ne.mpr c3
    have c3b1 : (a1 != 0) = true := bne_iff_ne.mpr c3
    obtain ⟨mv, mok, hl, hg⟩ := lookI HM0.out a1
    by_cases hmok : mok = true
    · subst hmok
      have hmr : mv = r := pairs_det (hg rfl) HF.out
      subst hmr
      clear hg H
      go_enter Tryd.func50, Tryd.ntmps50
      go_wp2
      go_ret
      exact ⟨rfl, HB.out⟩
    obtain rfl : mok = false := by simpa using hmok
    clear hmok hg
    replace H := Option.bind_eq_some_iff.mp H
    obtain ⟨t101, A40, H⟩ := H
    replace H : (if 0 ≤ t101 then ((visits_shop_pairs.f k l0 (Go.bits .andNot .i64 a1 (shl .i64 1 t101))).bind fun t102 => (visits_shop_pairs.l0 k l0 a1 t101 t102 (l0.length : Int) 0)) else (none)) = some r := H
    have A4 := Aside0.mk A40
    clear A40
    by_cases c5 : 0 ≤ t101
    · rw [if_pos c5] at H
      have c5b0 := eq_true c5
      have c5b1 : decide (0 ≤ t101) = true := decide_eq_true c5
      clear c5
      obtain ⟨ji6, hji6⟩ : ∃ j_ : Int, (shl .i64 1 t101) = j_ := ⟨_, rfl⟩
      replace H : ((visits_shop_pairs.f k l0 (Go.bits .andNot .i64 a1 (ji6))).bind fun t102 => (visits_shop_pairs.l0 k l0 a1 t101 t102 (l0.length : Int) 0)) = some r := by first | (rw [hji6] at H; exact H) | (simp only [hji6] at H ⊢; exact H)
      (try rw [hji6] at A4)
      have hji6_ : (IntKind.i64.wrap (1 * 2 ^ min t101.toNat 64)) = ji6 := hji6
      have hji6z : t101 ≤ 64 → (IntKind.i64.wrap (1 * 2 ^ t101.toNat)) = ji6 := shl_small hji6
      have hji6u : (IntKind.i64.wrap (2 ^ min t101.toNat 64)) = ji6 := by have h_ := hji6_; rw [Int.one_mul] at h_; exact h_
      have hji6v : t101 ≤ 64 → (IntKind.i64.wrap (2 ^ t101.toNat)) = ji6 := fun hle_ => by have h_ := hji6z hle_; rw [Int.one_mul] at h_; exact h_
      have hji6y : (wrap64 (1 * 2 ^ min t101.toNat 64)) = ji6 := (i64_w _).symm.trans hji6_
      have hji6x : t101 ≤ 64 → (wrap64 (1 * 2 ^ t101.toNat)) = ji6 := fun h_ => (i64_w _).symm.trans (hji6z h_)
      replace H := Option.bind_eq_some_iff.mp H
      obtain ⟨t102, A70, H⟩ := H
      replace H : (visits_shop_pairs.l0 k l0 a1 t101 t102 (l0.length : Int) 0) = some r := H
      have A7 := Aside0.mk A70
      clear A70
      have H' := Aside0.mk H
      clear H
      go_enter Tryd.func50, Tryd.ntmps50
      go_wp2_with (first | ((with_reducible refine gate_callee (f := 63) rfl ?_); refine goesL_ (some 23) rfl rfl Tryd.func63 (by kernel_rfl) rfl #[.int .i64 a1] rfl (by (try simp only [List.map_toArray, List.map_cons, List.map_nil]); first | done | rfl | (simp only [List.length_drop, List.length_take]; rfl)) ?_; (with_reducible refine (visits_first.calls a1 t101 _ A4.out (mst_tab HM0.out (by repeat (first | exact HB.out | (refine mst_alloc ?_ _) | (refine mst_drewN ?_ _) | (refine mst_drew ?_))) HT0.out)).mono ?_); rintro e w8 ⟨rfl, hb⟩; refine ⟨_, rfl, ?_⟩; have n0_ := Aside0.mk (MSt.below (by repeat (first | exact HB.out | (refine mst_alloc ?_ _) | (refine mst_drewN ?_ _) | (refine mst_drew ?_))) hb); clear HB; have HB := n0_; clear n0_; (try clear hb); (try clear hb2); (try clear hk); (try clear hi)) | ((with_reducible refine gate_callee (f := 50) rfl ?_); refine goesL_ (some 30) rfl rfl Tryd.func50 (by kernel_rfl) rfl #[.slice A0 l0.length c0, .int .i64 (Go.bits .andNot .i64 a1 (ji6)), .map (some b)] rfl (by (try simp only [List.map_toArray, List.map_cons, List.map_nil]); first | done | (simp only [hji6]; rfl) | rfl | (simp only [List.length_drop, List.length_take]; rfl)) ?_; (with_reducible refine (ih k (by omega) _ _ l0 (Go.bits .andNot .i64 a1 (ji6)) t102 _ b (MSt.memo (w := w) (by repeat (first | exact HB.out | (refine mst_alloc ?_ _) | (refine mst_drewN ?_ _) | (refine mst_drew ?_)))) (mst_tab HM0.out (by repeat (first | exact HB.out | (refine mst_alloc ?_ _) | (refine mst_drewN ?_ _) | (refine mst_drew ?_))) HT0.out) ?side1 ?side2 A7.out).mono ?_); (case side1 => repeat (first | exact (mst_C HM0.out HB.out HR0.out) | (with_reducible refine Kd.C_alloc ?_ _) | (with_reducible refine Kd.C_drewN ?_ _) | (with_reducible refine Kd.C_drew ?_))); (case side2 => exact HC0.out); rintro e w9 ⟨rfl, hb⟩; refine ⟨_, rfl, ?_⟩; have n0_ := Aside0.mk (MSt.step (by repeat (first | exact HB.out | (refine mst_alloc ?_ _) | (refine mst_drewN ?_ _) | (refine mst_drew ?_))) hb); clear HB; have HB := n0_; clear n0_; (try clear hb); (try clear hb2); (try clear hk); (try clear hi)))
      clear hl
      go_loopg [10, 33] k (fun kq v10 v33 w' => ∃ (x10_1 : Int) (x33_1 : Int), v10 = .int .i64 x10_1 ∧ v33 = .int .i64 x33_1 ∧ Aside0 (visits_shop_pairs.l0 kq l0 a1 t101 x10_1 (l0.length : Int) x33_1 = some r) ∧ Aside0 (kq ≤ k) ∧ Aside0 (MSt w w' b (pairsGood l0)))
      case atStart => exact ⟨(t102), (0), (by first | rfl | (simp; done) | (simp [*]; done)), (by first | rfl | (simp; done) | (simp [*]; done)), H', ⟨Nat.le_refl _⟩, ⟨by repeat (first | exact HB.out | (refine mst_alloc ?_ _) | (refine mst_drewN ?_ _) | (refine mst_drew ?_))⟩⟩
      case round =>
        clear H'
        try clear p2
        try clear c3
        try clear c3b0
        try clear c3b1
        try clear c5
        try clear c5b0
        try clear c5b1
        try clear c6
        try clear p6
        obtain ⟨x10_1, x33_1, rfl, rfl, HA, HK1, HB⟩ := hrel
        cases gk with
        | zero => exact absurd HA.out (by simp [visits_shop_pairs.l0])
        | succ k1 =>
          have H := HA.out
          clear HA
          simp only [visits_shop_pairs.l0] at H
          by_cases c10 : x33_1 < (l0.length : Int)
          · rw [if_pos c10] at H
            have c10b0 : decide (x33_1 < (l0.length : Int)) = true := decide_eq_true c10
            clear c10
            by_cases c11 : 0 ≤ t101
            · rw [if_pos c11] at H
              have c11b0 : decide (0 ≤ t101) = true := decide_eq_true c11
              clear c11
              by_cases c12 : t101 < (l0.length : Int)
              · rw [if_pos c12] at H
                have c12b0 : decide (t101 < (l0.length : Int)) = true := decide_eq_true c12
                clear c12
                by_cases c13 : 0 ≤ x33_1
                · rw [if_pos c13] at H
                  have c13b0 := eq_true c13
                  have c13b1 : decide (0 ≤ x33_1) = true := decide_eq_true c13
                  clear c13
                  obtain ⟨ji14, hji14⟩ : ∃ j_ : Int, (shr .i64 (Go.bits .and .i64 (rd l0 t101) a1) x33_1) = j_ := ⟨_, rfl⟩
                  replace H : (if (Go.bits .and .i64 (ji14) 1) = 1 then ((visits_shop_pairs.f k1 l0 (Go.bits .andNot .i64 a1 (Go.bits .or .i64 (shl .i64 1 t101) (shl .i64 1 x33_1)))).bind fun t104 => (visits_shop_pairs.l0 k1 l0 a1 t101 (mx x10_1 (wrap64 (1 + t104))) (l0.length : Int) (wrap64 (x33_1 + 1)))) else (visits_shop_pairs.l0 k1 l0 a1 t101 x10_1 (l0.length : Int) (wrap64 (x33_1 + 1)))) = some r := by first | (rw [hji14] at H; exact H) | (simp only [hji14] at H ⊢; exact H)
                  have hji14_ : ((Go.bits .and .i64 (rd l0 t101) a1) / 2 ^ min x33_1.toNat 64) = ji14 := hji14
                  have hji14z : x33_1 ≤ 64 → ((Go.bits .and .i64 (rd l0 t101) a1) / 2 ^ x33_1.toNat) = ji14 := shr_small hji14
                  by_cases c15 : (Go.bits .and .i64 (ji14) 1) = 1
                  · rw [if_pos c15] at H
                    have c15b0 : ((Go.bits .and .i64 (ji14) 1) == 1) = true := beq_iff_eq.mpr c15
                    have c15b1 : ((Go.bits .and .i64 (ji14) 1) != 1) = false := bne_eq_false_iff_eq.mpr c15
                    clear c15
                    have c16b0 := eq_true (of_decide_eq_true (by first | (with_reducible assumption) | assumption) : 0 ≤ t101)
                    obtain ⟨ji17, hji17⟩ : ∃ j_ : Int, (shl .i64 1 t101) = j_ := ⟨_, rfl⟩
                    replace H : ((visits_shop_pairs.f k1 l0 (Go.bits .andNot .i64 a1 (Go.bits .or .i64 (ji17) (shl .i64 1 x33_1)))).bind fun t104 => (visits_shop_pairs.l0 k1 l0 a1 t101 (mx x10_1 (wrap64 (1 + t104))) (l0.length : Int) (wrap64 (x33_1 + 1)))) = some r := by first | (rw [hji17] at H; exact H) | (simp only [hji17] at H ⊢; exact H)
                    have hji17_ : (IntKind.i64.wrap (1 * 2 ^ min t101.toNat 64)) = ji17 := hji17
                    have hji17z : t101 ≤ 64 → (IntKind.i64.wrap (1 * 2 ^ t101.toNat)) = ji17 := shl_small hji17
                    have hji17u : (IntKind.i64.wrap (2 ^ min t101.toNat 64)) = ji17 := by have h_ := hji17_; rw [Int.one_mul] at h_; exact h_
                    have hji17v : t101 ≤ 64 → (IntKind.i64.wrap (2 ^ t101.toNat)) = ji17 := fun hle_ => by have h_ := hji17z hle_; rw [Int.one_mul] at h_; exact h_
                    have hji17y : (wrap64 (1 * 2 ^ min t101.toNat 64)) = ji17 := (i64_w _).symm.trans hji17_
                    have hji17x : t101 ≤ 64 → (wrap64 (1 * 2 ^ t101.toNat)) = ji17 := fun h_ => (i64_w _).symm.trans (hji17z h_)
                    obtain rfl : ji17 = ji6 := hji17.symm.trans hji6
                    have c18b0 := eq_true (of_decide_eq_true (by first | (with_reducible assumption) | assumption) : 0 ≤ x33_1)
                    obtain ⟨ji19, hji19⟩ : ∃ j_ : Int, (shl .i64 1 x33_1) = j_ := ⟨_, rfl⟩
                    replace H : ((visits_shop_pairs.f k1 l0 (Go.bits .andNot .i64 a1 (Go.bits .or .i64 (ji17) (ji19)))).bind fun t104 => (visits_shop_pairs.l0 k1 l0 a1 t101 (mx x10_1 (wrap64 (1 + t104))) (l0.length : Int) (wrap64 (x33_1 + 1)))) = some r := by first | (rw [hji19] at H; exact H) | (simp only [hji19] at H ⊢; exact H)
                    have hji19_ : (IntKind.i64.wrap (1 * 2 ^ min x33_1.toNat 64)) = ji19 := hji19
                    have hji19z : x33_1 ≤ 64 → (IntKind.i64.wrap (1 * 2 ^ x33_1.toNat)) = ji19 := shl_small hji19
                    have hji19u : (IntKind.i64.wrap (2 ^ min x33_1.toNat 64)) = ji19 := by have h_ := hji19_; rw [Int.one_mul] at h_; exact h_
                    have hji19v : x33_1 ≤ 64 → (IntKind.i64.wrap (2 ^ x33_1.toNat)) = ji19 := fun hle_ => by have h_ := hji19z hle_; rw [Int.one_mul] at h_; exact h_
                    have hji19y : (wrap64 (1 * 2 ^ min x33_1.toNat 64)) = ji19 := (i64_w _).symm.trans hji19_
                    have hji19x : x33_1 ≤ 64 → (wrap64 (1 * 2 ^ x33_1.toNat)) = ji19 := fun h_ => (i64_w _).symm.trans (hji19z h_)
                    replace H := Option.bind_eq_some_iff.mp H
                    obtain ⟨t104, A200, H⟩ := H
                    replace H : (visits_shop_pairs.l0 k1 l0 a1 t101 (mx x10_1 (wrap64 (1 + t104))) (l0.length : Int) (wrap64 (x33_1 + 1))) = some r := H
                    have A20 := Aside0.mk A200
                    clear A200
                    obtain ⟨ji21, hji21⟩ : ∃ j_ : Int, (mx x10_1 (wrap64 (1 + t104))) = j_ := ⟨_, rfl⟩
                    replace H : (visits_shop_pairs.l0 k1 l0 a1 t101 ji21 (l0.length : Int) (wrap64 (x33_1 + 1))) = some r := by first | (rw [hji21] at H; exact H) | (simp only [hji21] at H ⊢; exact H)
                    (try rw [hji21] at A20)
                    have hji21_ : (if x10_1 < (wrap64 (1 + t104)) then (wrap64 (1 + t104)) else x10_1) = ji21 := hji21
                    have H' := Aside0.mk H
                    clear H
                    have p103 : 0 ≤ (t101 : Int) := of_decide_eq_true (by first | (with_reducible assumption) | assumption)
                    have q103 : t101 < (l0.length : Int) := of_decide_eq_true (by first | (with_reducible assumption) | assumption)
                    obtain ⟨ad103, e103, hx103_0⟩ := Kd.at_int HR0.out t101 p103 q103
                    cases e103
                    replace hx103_0 := mst_cell HM0.out HB.out hx103_0
                    replace p103 := eq_true p103
                    replace q103 := eq_true q103
                    try go_wp2
                    have n0_ := Aside0.mk (mst_drew HB.out)
                    clear HB
                    have HB := n0_
                    clear n0_
                    refine start_ (n := 14) (S := fun w' => True) (ds := []) #[false, false, false, false, false, false, false, false, false, false, false, false, false, false] (by kernel_rfl) rfl rfl trivial (fun hHeld => ?_); refine with_tabW visits_shop_pairs.tab12 visits_shop_pairs.bits12 (fun HT_ HW_ => ?_)
                    generalize wr.drew = w22 at HB hHeld ⊢
                    refine pure_ (i := 0) (N := some 46) (v := ?_) (a' := ?_) #[true, false, false, false, false, false, false, false, false, false, false, false, false, false] rfl rfl (any_of HT_.out (by kernel_rfl)) (fun _ _ _ h => h) (Or.inl ⟨by rfl, ?_⟩) ?_ ?_
                    rotate_left
                    · intro w'
                      go_simp
                      with_reducible rfl
                    rotate_left
                    · simp only [Act.put, List.setIfInBounds_toArray, List.set_cons_zero, List.set_cons_succ, i64_w, i32_w]
                      rfl
                    refine pure_ (i := 1) (N := some 47) (v := ?_) (a' := ?_) #[true, true, false, false, false, false, false, false, false, false, false, false, false, false] rfl rfl (any_of HT_.out (by kernel_rfl)) (fun _ _ _ h => h) (Or.inl ⟨by rfl, ?_⟩) ?_ ?_
                    rotate_left
                    · intro w'
                      go_simp
                      with_reducible rfl
                    rotate_left
                    · simp only [Act.put, List.setIfInBounds_toArray, List.set_cons_zero, List.set_cons_succ, i64_w, i32_w]
                      rfl
                    refine pure_ (i := 2) (N := some 48) (v := ?_) (a' := ?_) #[true, true, true, false, false, false, false, false, false, false, false, false, false, false] rfl rfl (any_of HT_.out (by kernel_rfl)) (fun _ _ _ h => h) (Or.inl ⟨by rfl, ?_⟩) ?_ ?_
                    rotate_left
                    · intro w'
                      go_simp
                      with_reducible rfl
                    rotate_left
                    · simp only [Act.put, List.setIfInBounds_toArray, List.set_cons_zero, List.set_cons_succ, i64_w, i32_w]
                      rfl
                    refine pure_ (i := 3) (N := some 49) (v := ?_) (a' := ?_) #[true, true, true, true, false, false, false, false, false, false, false, false, false, false] rfl rfl (any_of HT_.out (by kernel_rfl)) (fun _ _ _ h => h) (Or.inl ⟨by rfl, ?_⟩) ?_ ?_
                    rotate_left
                    · intro w'
                      go_simp
                      with_reducible rfl
                    rotate_left
                    · simp only [Act.put, List.setIfInBounds_toArray, List.set_cons_zero, List.set_cons_succ, i64_w, i32_w]
                      rfl
                    refine pure_ (i := 4) (N := some 50) (v := ?_) (a' := ?_) #[true, true, true, true, true, false, false, false, false, false, false, false, false, false] rfl rfl (any_of HT_.out (by kernel_rfl)) (fun _ _ _ h => h) (Or.inl ⟨by rfl, ?_⟩) ?_ ?_
                    rotate_left
                    · intro w'
                      go_simp
                      with_reducible rfl
                    rotate_left
                    · simp only [Act.put, List.setIfInBounds_toArray, List.set_cons_zero, List.set_cons_succ, i64_w, i32_w]
                      rfl
                    refine pure_ (i := 5) (N := some 51) (v := ?_) (a' := ?_) #[true, true, true, true, true, true, false, false, false, false, false, false, false, false] rfl rfl (any_of HT_.out (by kernel_rfl)) (fun _ _ _ h => h) (Or.inl ⟨by rfl, ?_⟩) ?_ ?_
                    rotate_left
                    · intro w'
                      go_simp
                      with_reducible rfl
                    rotate_left
                    · simp only [Act.put, List.setIfInBounds_toArray, List.set_cons_zero, List.set_cons_succ, i64_w, i32_w]
                      rfl
                    refine pure_ (i := 6) (N := some 52) (v := ?_) (a' := ?_) #[true, true, true, true, true, true, true, false, false, false, false, false, false, false] rfl rfl (any_of HT_.out (by kernel_rfl)) (fun _ _ _ h => h) (Or.inl ⟨by rfl, ?_⟩) ?_ ?_
                    rotate_left
                    · intro w'
                      go_simp
                      with_reducible rfl
                    rotate_left
                    · simp only [Act.put, List.setIfInBounds_toArray, List.set_cons_zero, List.set_cons_succ, i64_w, i32_w]
                      rfl
                    refine pure_ (i := 7) (N := some 53) (v := ?_) (a' := ?_) #[true, true, true, true, true, true, true, true, false, false, false, false, false, false] rfl rfl (any_of HT_.out (by kernel_rfl)) (fun _ _ _ h => h) (Or.inl ⟨by rfl, ?_⟩) ?_ ?_
                    rotate_left
                    · intro w'
                      go_simp
                      with_reducible rfl
                    rotate_left
                    · simp only [Act.put, List.setIfInBounds_toArray, List.set_cons_zero, List.set_cons_succ, i64_w, i32_w]
                      rfl
                    refine pure_ (i := 8) (N := some 54) (v := ?_) (a' := ?_) #[true, true, true, true, true, true, true, true, true, false, false, false, false, false] rfl rfl (any_of HT_.out (by kernel_rfl)) (fun _ _ _ h => h) (Or.inl ⟨by rfl, ?_⟩) ?_ ?_
                    rotate_left
                    · intro w'
                      go_simp
                      with_reducible rfl
                    rotate_left
                    · simp only [Act.put, List.setIfInBounds_toArray, List.set_cons_zero, List.set_cons_succ, i64_w, i32_w]
                      rfl
                    refine pure_ (i := 9) (N := some 55) (v := ?_) (a' := ?_) #[true, true, true, true, true, true, true, true, true, true, false, false, false, false] rfl rfl (any_of HT_.out (by kernel_rfl)) (fun _ _ _ h => h) (Or.inl ⟨by rfl, ?_⟩) ?_ ?_
                    rotate_left
                    · intro w'
                      go_simp
                      with_reducible rfl
                    rotate_left
                    · simp only [Act.put, List.setIfInBounds_toArray, List.set_cons_zero, List.set_cons_succ, i64_w, i32_w]
                      rfl
                    refine one_ (i := 10) (N := some 56) #[true, true, true, true, true, true, true, true, true, true, true, false, false, false] rfl rfl (one_of HT_.out (by kernel_rfl)) (by decide) (fun K hK => ?_)
                    refine goes_ Tryd.func50 (by kernel_rfl) rfl #[.slice (some ad103) l0.length c0, .int .i64 (Go.bits .andNot .i64 a1 (Go.bits .or .i64 (ji17) (ji19))), .map (some b)] (by rfl) rfl rfl (by (try simp only [List.map_toArray, List.map_cons, List.map_nil]); first | done | (simp only [hji17, hji19]; rfl) | rfl | (simp only [List.length_drop, List.length_take]; rfl)) ?_
                    with_reducible refine (ih k1 (by have := HK1.out; omega) _ _ l0 (Go.bits .andNot .i64 a1 (Go.bits .or .i64 (ji17) (ji19))) t104 _ b (MSt.memo (w := w) (by repeat (first | exact HB.out | (refine mst_alloc ?_ _) | (refine mst_drewN ?_ _) | (refine mst_drew ?_)))) (mst_tab HM0.out (by repeat (first | exact HB.out | (refine mst_alloc ?_ _) | (refine mst_drewN ?_ _) | (refine mst_drew ?_))) HT0.out) ?side1 ?side2 A20.out).mono ?_
                    (case side1 => repeat (first | exact (mst_C HM0.out HB.out HR0.out) | (with_reducible refine Kd.C_alloc ?_ _) | (with_reducible refine Kd.C_drewN ?_ _) | (with_reducible refine Kd.C_drew ?_)))
                    (case side2 => exact HC0.out)
                    rintro e w23 ⟨rfl, hb⟩
                    refine ⟨_, rfl, ?_⟩
                    have n0_ := Aside0.mk (MSt.step (by repeat (first | exact HB.out | (refine mst_alloc ?_ _) | (refine mst_drewN ?_ _) | (refine mst_drew ?_))) hb)
                    clear HB
                    have HB := n0_
                    clear n0_
                    (try clear hb)
                    (try clear hb2)
                    (try clear hk)
                    (try clear hi)
                    refine hK.out _ _ trivial (fun hHeld => ?_)
                    clear hK K
                    refine norm_ (a' := ?_) ?_ ?_
                    rotate_left
                    · show Act.put _ (some 56) _ = _
                      simp only [Act.put, List.setIfInBounds_toArray, List.set_cons_zero, List.set_cons_succ, i64_w, i32_w]
                      rfl
                    refine pure_ (i := 11) (N := some 57) (v := ?_) (a' := ?_) #[true, true, true, true, true, true, true, true, true, true, true, true, false, false] rfl rfl (any_of HT_.out (by kernel_rfl)) (fun _ _ _ h => h) (Or.inl ⟨by rfl, ?_⟩) ?_ ?_
                    rotate_left
                    · intro w'
                      go_simp
                      with_reducible rfl
                    rotate_left
                    · simp only [Act.put, List.setIfInBounds_toArray, List.set_cons_zero, List.set_cons_succ, i64_w, i32_w]
                      rfl
                    refine pure_ (i := 12) (N := some 58) (v := ?_) (a' := ?_) #[true, true, true, true, true, true, true, true, true, true, true, true, true, false] rfl rfl (any_of HT_.out (by kernel_rfl)) (fun _ _ _ h => h) (Or.inl ⟨by rfl, ?_⟩) ?_ ?_
                    rotate_left
                    · intro w'
                      go_simp
                      with_reducible rfl
                    rotate_left
                    · simp only [Act.put, List.setIfInBounds_toArray, List.set_cons_zero, List.set_cons_succ, i64_w, i32_w]
                      rfl
                    refine pure_ (i := 13) (N := some 10) (v := ?_) (a' := ?_) #[true, true, true, true, true, true, true, true, true, true, true, true, true, true] rfl rfl (any_of HT_.out (by kernel_rfl)) (fun _ _ _ h => h) (Or.inl ⟨by rfl, ?_⟩) ?_ ?_
                    rotate_left
                    · intro w'
                      go_simp
                      with_reducible rfl
                    rotate_left
                    · simp only [Act.put, List.setIfInBounds_toArray, List.set_cons_zero, List.set_cons_succ, i64_w, i32_w]
                      rfl
                    refine done_ (done_of HT_.out (by kernel_rfl)) ?_
                    try go_wp2
                    go_roundg k1
                    case measure => have := HK1.out; omega
                    case rel => exact ⟨(ji21), (wrap64 (x33_1 + 1)), (by first | rfl | (simp; done) | (simp only [← hji21] <;> (first | rfl | simp)) | (simp [*]; done)), (by first | rfl | (simp; done) | (simp [*]; done)), H', ⟨by have := HK1.out; omega⟩, ⟨by repeat (first | exact HB.out | (refine mst_alloc ?_ _) | (refine mst_drewN ?_ _) | (refine mst_drew ?_))⟩⟩
                  · rw [if_neg c15] at H
                    have c15b0 : ((Go.bits .and .i64 (ji14) 1) == 1) = false := beq_eq_false_iff_ne.mpr c15
                    have c15b1 : ((Go.bits .and .i64 (ji14) 1) != 1) = true := bne_iff_ne.mpr c15
                    have H' := Aside0.mk H
                    clear H
                    have p103 : 0 ≤ (t101 : Int) := of_decide_eq_true (by first | (with_reducible assumption) | assumption)
                    have q103 : t101 < (l0.length : Int) := of_decide_eq_true (by first | (with_reducible assumption) | assumption)
                    obtain ⟨ad103, e103, hx103_0⟩ := Kd.at_int HR0.out t101 p103 q103
                    cases e103
                    replace hx103_0 := mst_cell HM0.out HB.out hx103_0
                    replace p103 := eq_true p103
                    replace q103 := eq_true q103
                    go_wp2
                    go_roundg k1
                    case measure => have := HK1.out; omega
                    case rel => exact ⟨(x10_1), (wrap64 (x33_1 + 1)), (by first | rfl | (simp; done) | (simp [*]; done)), (by first | rfl | (simp; done) | (simp [*]; done)), H', ⟨by have := HK1.out; omega⟩, ⟨by repeat (first | exact HB.out | (refine mst_alloc ?_ _) | (refine mst_drewN ?_ _) | (refine mst_drew ?_))⟩⟩
                · rw [if_neg c13] at H
                  exact absurd H (by simp)
              · rw [if_neg c12] at H
                exact absurd H (by simp)
            · rw [if_neg c11] at H
              exact absurd H (by simp)
          · rw [if_neg c10] at H
            have c10b0 : decide (x33_1 < (l0.length : Int)) = false := decide_eq_false c10
            clear c10
            obtain rfl := Option.some.inj H
            obtain ⟨wu_, hu_, hmu_, hup_⟩ := updI HB.out.memo a1 _ ⟨_, HF.out⟩
            go_wp2
            go_ret
            exact ⟨by first | rfl | (simp [errW_none, errW_some] <;> rfl) | (simp only [← hji6]; first | rfl | (simp [errW_none, errW_some] <;> rfl)) | (simp [*, errW_none, errW_some] <;> rfl), ⟨HB.out.upd.trans hup_, hmu_⟩⟩
    · rw [if_neg c5] at H
      exact absurd H (by simp)

end Go.Proofs.YtadfcplobidmeaaDoor.Print
