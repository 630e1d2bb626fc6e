/- visits.shop.wins and move, with their map. -/
import Derived.Test.YtadfcplobidmeaaDoorProg
import Derived.Laws.EntriesVeiled
import Derived.Outline
import Derived.Below
import Derived.Deep.Draws
import Derived.Deep.AppendLies
import Derived.Maps.AppendAt
import Derived.OwnWalk
import Derived.Laws.BytesArg
import Derived.Laws.MakeOwn
import Derived.Laws.OwnMore
import Derived.Deep.OwnRows
import Derived.Tactics
import Derived.Lib.ConvBytes
import Derived.Laws.Slices
import Derived.WalkKit
import Derived.KernelRfl
import Derived.RowKit3
import Derived.Deep.LoopGhost
import Derived.Deep.QuietTactic
import Derived.BigQuiet
import Derived.WideLaws
import Derived.Deep.DeepCutAuto
import Derived.Deep.CutBlock
import Derived.Deep.RegionHeld3
import Derived.Laws.Rows
import Derived.Lib.AppendStr
import Derived.ArgAppend
import Derived.Laws.IdiomCopy
import Derived.OrdersHeld
import Derived.Laws.BitsLemmas
import Derived.RowKit
import Derived.Test.YtadfcplobidmeaaDoorWMore
import Derived.Test.YtadfcplobidmeaaDoorHandMap2
namespace Go.Proofs.YtadfcplobidmeaaDoor.Print
open Go.RowKit Go.Proofs.YtadfcplobidmeaaDoorW.PrintWords Go.Proofs.YtadfcplobidmeaaDoorW.PrintLast Go.Proofs.YtadfcplobidmeaaDoorW.PrintMore
attribute [local go_sem] max2_int min2_int max_two min_two max_three min_three max_four min_four
set_option linter.unusedVariables false
set_option linter.unusedSimpArgs false
/-! ### visits_shop_move: function 53 -/
def visits_shop_move.l0 : Nat → List Int → Int → Int → Int → Int → Option (Int)
  | 0, _, _, _, _, _ => none
  | k + 1, x0, x1, x2, x11, x12 => if x12 < x11 then (if 0 ≤ x2 then (if x2 < (x0.length : Int) then (if 0 ≤ x12 then (if (Go.bits .and .i64 (shr .i64 (Go.bits .andNot .i64 (rd x0 x2) x1) x12) 1) = 1 then (((visits_shop_move.l0 k x0 (Go.bits .or .i64 x1 (shl .i64 1 x12)) x12 (x0.length : Int) 0).bind fun t_ => (some (decide (t_ ≥ 0)))).bind fun t106 => (if t106 = true then (visits_shop_move.l0 k x0 x1 x2 x11 (wrap64 (x12 + 1))) else (some x12))) else (visits_shop_move.l0 k x0 x1 x2 x11 (wrap64 (x12 + 1)))) else (none)) else (none)) else (none)) else (some (-1))
def visits_shop_move.f (k : Nat) (l0 : List Int) (a1 : Int) (a2 : Int) : Option (Int) := visits_shop_move.l0 k l0 a1 a2 (l0.length : Int) 0
theorem visits_shop_move.mono_l : ∀ k, (∀ y0 y1 y2 y3 y4, LeO (visits_shop_move.l0 k y0 y1 y2 y3 y4) (visits_shop_move.l0 (k + 1) y0 y1 y2 y3 y4))
  | 0 => fun _ _ _ _ _ r h => by simp [visits_shop_move.l0] at h
  | k + 1 => by
    have ih0 := visits_shop_move.mono_l k
    · intro y0 y1 y2 y3 y4
      unfold visits_shop_move.l0
      repeat' first
      | (with_reducible exact ih0 _ _ _ _ _)
      | (with_reducible exact LeO.refl _)
      | (with_reducible exact LeO.none _)
      | (with_reducible refine LeO.ite ?_ ?_)
      | (with_reducible refine LeO.bind ?_ (fun _ => ?_))
      | exact ih0 _ _ _ _ _
      | exact LeO.none _
      | refine LeO.ite ?_ ?_
      | refine LeO.bind ?_ (fun _ => ?_)
theorem visits_shop_move.mono : ∀ a0 a1 a2 k, LeO (visits_shop_move.f k a0 a1 a2) (visits_shop_move.f (k + 1) a0 a1 a2) := by
  intro a0 a1 a2 k
  have ih0 := visits_shop_move.mono_l k
  unfold visits_shop_move.f
  repeat' first
      | (with_reducible exact ih0 _ _ _ _ _)
      | (with_reducible exact LeO.refl _)
      | (with_reducible exact LeO.none _)
      | (with_reducible refine LeO.ite ?_ ?_)
      | (with_reducible refine LeO.bind ?_ (fun _ => ?_))
      | exact ih0 _ _ _ _ _
      | exact LeO.none _
      | refine LeO.ite ?_ ?_
      | refine LeO.bind ?_ (fun _ => ?_)
/-! ### visits_shop_wins: function 47 -/
def visits_shop_wins.f (k : Nat) (l0 : List Int) (a1 : Int) (a2 : Int) : Option (Bool) := (visits_shop_move.f k l0 a1 a2).bind fun t101 => (some (decide (t101 ≥ 0)))
theorem visits_shop_wins.mono : ∀ a0 a1 a2 k, LeO (visits_shop_wins.f k a0 a1 a2) (visits_shop_wins.f (k + 1) a0 a1 a2) := by
  intro a0 a1 a2 k
  unfold visits_shop_wins.f
  repeat' first
      | (with_reducible exact visits_shop_move.mono _ _ _ _)
      | (with_reducible exact LeO.refl _)
      | (with_reducible exact LeO.none _)
      | (with_reducible refine LeO.ite ?_ ?_)
      | (with_reducible refine LeO.bind ?_ (fun _ => ?_))
      | exact visits_shop_move.mono _ _ _ _
      | exact LeO.none _
      | refine LeO.ite ?_ ?_
      | refine LeO.bind ?_ (fun _ => ?_)
/-- What the map says of a place of the game. -/
def winsGood (l0 : List Int) (i j : Int) (x : Bool) : Prop := ∃ k, visits_shop_wins.f k l0 i j = some x
theorem wins_le (l0 : List Int) (i j : Int) {x : Bool} {k : Nat} (h : visits_shop_wins.f k l0 i j = some x) : ∀ d, visits_shop_wins.f (k + d) l0 i j = some x
  | 0 => h
  | d + 1 => visits_shop_wins.mono _ _ _ _ _ (wins_le l0 i j h d)
theorem wins_det {l0 : List Int} {i j : Int} {x y : Bool} {k : Nat} (hg : winsGood l0 i j x) (h : visits_shop_wins.f k l0 i j = some y) : x = y := by
  obtain ⟨k', h'⟩ := hg
  have h1 := wins_le l0 i j h' k
  have h2 := wins_le l0 i j h k'
  rw [Nat.add_comm] at h2
  exact Option.some.inj (h1.symm.trans h2)
theorem eff_ {P : Program} {ops : Array Oper} {Q : Exit → Act → World → Prop} {oi : Oper} {a : Act} {w w1 : World} {K : Act → World → Prop} (hw : Region.wanted oi (yielded ops a.tmps) = true) (hN : oi.dst = none)
    (hrun : (execOp a.eval oi).run P w = .ok .skip w1) (h : K a w1) : if Region.wanted oi (yielded ops a.tmps) = true then Oper.wp P oi a w K Q else K (a.put none undef) w := by
  rw [if_pos hw]
  unfold Oper.wp
  rw [hrun]
  show K (a.put oi.dst undef) w1
  rw [hN]
  exact h
set_option maxHeartbeats 8000000 in
set_option maxRecDepth 100000 in
theorem move_at (k : Nat) (hw : ∀ m, m < k → ∀ (A0 : Option Addr) (c0 : Nat) (l0 : List Int) (a1 : Int) (a2 : Int) (r : Bool) (w : World) (b : Nat) (hM : MemoB w b (winsGood l0)) (hr0 : Kd.C (Kd.int .i64) w A0 l0.length l0) (hc0 : l0.length ≤ c0) (h : visits_shop_wins.f m l0 a1 a2 = some r),
    Calls Tryd.prog 47 #[.slice A0 l0.length c0, .int .i64 a1, .int .i64 a2, .map (some b)] w fun e w' => e = .returned (.bool r) ∧ MSu w w' b (winsGood l0)) : ∀ (A0 : Option Addr) (c0 : Nat) (l0 : List Int) (a1 : Int) (a2 : Int) (r : Int) (w : World) (b : Nat) (hM : MemoB w b (winsGood l0)) (hr0 : Kd.C (Kd.int .i64) w A0 l0.length l0) (hc0 : l0.length ≤ c0) (h : visits_shop_move.f k l0 a1 a2 = some r),
    Calls Tryd.prog 53 #[.slice A0 l0.length c0, .int .i64 a1, .int .i64 a2, .map (some b)] w fun e w' => e = .returned (.int .i64 r) ∧ MSu w w' b (winsGood l0) := by
  intro A0 c0 l0 a1 a2 r w b hM hr0 hc0 h
  have HR0 := Aside0.mk hr0
  have HC0 := Aside0.mk hc0
  clear hr0 hc0
  have HM0 := Aside0.mk hM
  have HB := Aside0.mk (MSu.refl hM)
  clear hM
  have H : (visits_shop_move.l0 k l0 a1 a2 (l0.length : Int) 0) = some r := h
  clear h
  have H' := Aside0.mk H
  clear H
  go_enter Tryd.func53, Tryd.ntmps53
  go_wp2
  go_loopg [12] k (fun kq v12 w' => ∃ (x12_1 : Int), v12 = .int .i64 x12_1 ∧ Aside0 (visits_shop_move.l0 kq l0 a1 a2 (l0.length : Int) x12_1 = some r) ∧ Aside0 (kq ≤ k) ∧ Aside0 (MSu w w' b (winsGood l0)))
  case atStart => exact ⟨(0), (by first | rfl | (simp; done) | (simp [*]; done)), H', ⟨Nat.le_refl _⟩, ⟨by repeat (first | exact HB.out | (refine msu_alloc ?_ _) | (refine msu_drewN ?_ _) | (refine msu_drew ?_))⟩⟩
  case round =>
    clear H'
    try clear p2
    obtain ⟨x12_1, rfl, HA, HK1, HB⟩ := hrel
    cases gk with
    | zero => exact absurd HA.out (by simp [visits_shop_move.l0])
    | succ k1 =>
      have H := HA.out
      clear HA
      simp only [visits_shop_move.l0] at H
      by_cases c4 : x12_1 < (l0.length : Int)
      · rw [if_pos c4] at H
        have c4b0 : decide (x12_1 < (l0.length : Int)) = true := decide_eq_true c4
        clear c4
        by_cases c5 : 0 ≤ a2
        · rw [if_pos c5] at H
          have c5b0 : decide (0 ≤ a2) = true := decide_eq_true c5
          clear c5
          by_cases c6 : a2 < (l0.length : Int)
          · rw [if_pos c6] at H
            have c6b0 : decide (a2 < (l0.length : Int)) = true := decide_eq_true c6
            clear c6
            by_cases c7 : 0 ≤ x12_1
            · rw [if_pos c7] at H
              have c7b0 := eq_true c7
              have c7b1 : decide (0 ≤ x12_1) = true := decide_eq_true c7
              clear c7
              obtain ⟨ji8, hji8⟩ : ∃ j_ : Int, (shr .i64 (Go.bits .andNot .i64 (rd l0 a2) a1) x12_1) = j_ := ⟨_, rfl⟩
              replace H : (if (Go.bits .and .i64 (ji8) 1) = 1 then ((visits_shop_wins.f k1 l0 (Go.bits .or .i64 a1 (shl .i64 1 x12_1)) x12_1).bind fun t106 => (if t106 = true then (visits_shop_move.l0 k1 l0 a1 a2 (l0.length : Int) (wrap64 (x12_1 + 1))) else (some x12_1))) else (visits_shop_move.l0 k1 l0 a1 a2 (l0.length : Int) (wrap64 (x12_1 + 1)))) = some r := by first | (rw [hji8] at H; exact H) | (simp only [hji8] at H ⊢; exact H)
              have hji8_ : ((Go.bits .andNot .i64 (rd l0 a2) a1) / 2 ^ min x12_1.toNat 64) = ji8 := hji8
              have hji8z : x12_1 ≤ 64 → ((Go.bits .andNot .i64 (rd l0 a2) a1) / 2 ^ x12_1.toNat) = ji8 := shr_small hji8
              by_cases c9 : (Go.bits .and .i64 (ji8) 1) = 1
              · rw [if_pos c9] at H
                have c9b0 : ((Go.bits .and .i64 (ji8) 1) == 1) = true := beq_iff_eq.mpr c9
                have c9b1 : ((Go.bits .and .i64 (ji8) 1) != 1) = false := bne_eq_false_iff_eq.mpr c9
                clear c9
                have c10b0 := eq_true (of_decide_eq_true (by first | (with_reducible assumption) | assumption) : 0 ≤ x12_1)
                obtain ⟨ji11, hji11⟩ : ∃ j_ : Int, (shl .i64 1 x12_1) = j_ := ⟨_, rfl⟩
                replace H : ((visits_shop_wins.f k1 l0 (Go.bits .or .i64 a1 (ji11)) x12_1).bind fun t106 => (if t106 = true then (visits_shop_move.l0 k1 l0 a1 a2 (l0.length : Int) (wrap64 (x12_1 + 1))) else (some x12_1))) = some r := by first | (rw [hji11] at H; exact H) | (simp only [hji11] at H ⊢; exact H)
                have hji11_ : (IntKind.i64.wrap (1 * 2 ^ min x12_1.toNat 64)) = ji11 := hji11
                have hji11z : x12_1 ≤ 64 → (IntKind.i64.wrap (1 * 2 ^ x12_1.toNat)) = ji11 := shl_small hji11
                have hji11u : (IntKind.i64.wrap (2 ^ min x12_1.toNat 64)) = ji11 := by have h_ := hji11_; rw [Int.one_mul] at h_; exact h_
                have hji11v : x12_1 ≤ 64 → (IntKind.i64.wrap (2 ^ x12_1.toNat)) = ji11 := fun hle_ => by have h_ := hji11z hle_; rw [Int.one_mul] at h_; exact h_
                have hji11y : (wrap64 (1 * 2 ^ min x12_1.toNat 64)) = ji11 := (i64_w _).symm.trans hji11_
                have hji11x : x12_1 ≤ 64 → (wrap64 (1 * 2 ^ x12_1.toNat)) = ji11 := fun h_ => (i64_w _).symm.trans (hji11z h_)
                replace H := Option.bind_eq_some_iff.mp H
                obtain ⟨t106, A120, H⟩ := H
                replace H : (if t106 = true then (visits_shop_move.l0 k1 l0 a1 a2 (l0.length : Int) (wrap64 (x12_1 + 1))) else (some x12_1)) = some r := H
                have A12 := Aside0.mk A120
                clear A120
                by_cases c13 : t106 = true
                · subst c13
                  have H1 : (visits_shop_move.l0 k1 l0 a1 a2 (l0.length : Int) (wrap64 (x12_1 + 1))) = some r := by rw [if_pos rfl] at H; exact H
                  clear H
                  have H := H1
                  clear H1
                  have H' := Aside0.mk H
                  clear H
                  have p105 : 0 ≤ (a2 : Int) := of_decide_eq_true (by first | (with_reducible assumption) | assumption)
                  have q105 : a2 < (l0.length : Int) := of_decide_eq_true (by first | (with_reducible assumption) | assumption)
                  obtain ⟨ad105, e105, hx105_0⟩ := Kd.at_int HR0.out a2 p105 q105
                  cases e105
                  replace hx105_0 := msu_cell HM0.out HB.out hx105_0
                  replace p105 := eq_true p105
                  replace q105 := eq_true q105
                  go_wp2_with (first | (go_at_call 47; (with_reducible refine (hw k1 (by have := HK1.out; omega) _ _ l0 (Go.bits .or .i64 a1 (ji11)) x12_1 true _ b (MSu.memo (w := w) (by repeat (first | exact HB.out | (refine msu_alloc ?_ _) | (refine msu_drewN ?_ _) | (refine msu_drew ?_)))) ?side1 ?side2 A12.out).mono ?_); (case side1 => repeat (first | exact (msu_C HM0.out HB.out HR0.out) | (with_reducible refine Kd.C_alloc ?_ _) | (with_reducible refine Kd.C_drewN ?_ _) | (with_reducible refine Kd.C_drew ?_))); (case side2 => exact HC0.out); rintro e w14 ⟨rfl, hb⟩; have n0_ := Aside0.mk (MSu.step (by repeat (first | exact HB.out | (refine msu_alloc ?_ _) | (refine msu_drewN ?_ _) | (refine msu_drew ?_))) hb); clear HB; have HB := n0_; clear n0_; (try clear hb); (try clear hb2); (try clear hk); (try clear hi)))
                  go_roundg k1
                  case measure => have := HK1.out; omega
                  case rel => exact ⟨(wrap64 (x12_1 + 1)), (by first | rfl | (simp; done) | (simp [*]; done)), H', ⟨by have := HK1.out; omega⟩, ⟨by repeat (first | exact HB.out | (refine msu_alloc ?_ _) | (refine msu_drewN ?_ _) | (refine msu_drew ?_))⟩⟩
                · replace c13 := Bool.eq_false_iff.mpr c13
                  subst c13
                  have H1 : (some x12_1) = some r := by rw [if_neg (show ¬ (false = true) by decide)] at H; exact H
                  clear H
                  have H := H1
                  clear H1
                  obtain rfl := Option.some.inj H
                  have p105 : 0 ≤ (a2 : Int) := of_decide_eq_true (by first | (with_reducible assumption) | assumption)
                  have q105 : a2 < (l0.length : Int) := of_decide_eq_true (by first | (with_reducible assumption) | assumption)
                  obtain ⟨ad105, e105, hx105_0⟩ := Kd.at_int HR0.out a2 p105 q105
                  cases e105
                  replace hx105_0 := msu_cell HM0.out HB.out hx105_0
                  replace p105 := eq_true p105
                  replace q105 := eq_true q105
                  go_wp2_with (first | (go_at_call 47; (with_reducible refine (hw k1 (by have := HK1.out; omega) _ _ l0 (Go.bits .or .i64 a1 (ji11)) x12_1 false _ b (MSu.memo (w := w) (by repeat (first | exact HB.out | (refine msu_alloc ?_ _) | (refine msu_drewN ?_ _) | (refine msu_drew ?_)))) ?side1 ?side2 A12.out).mono ?_); (case side1 => repeat (first | exact (msu_C HM0.out HB.out HR0.out) | (with_reducible refine Kd.C_alloc ?_ _) | (with_reducible refine Kd.C_drewN ?_ _) | (with_reducible refine Kd.C_drew ?_))); (case side2 => exact HC0.out); rintro e w15 ⟨rfl, hb⟩; have n0_ := Aside0.mk (MSu.step (by repeat (first | exact HB.out | (refine msu_alloc ?_ _) | (refine msu_drewN ?_ _) | (refine msu_drew ?_))) hb); clear HB; have HB := n0_; clear n0_; (try clear hb); (try clear hb2); (try clear hk); (try clear hi)))
                  go_ret
                  exact ⟨by first | rfl | (simp [errW_none, errW_some] <;> rfl) | (simp only [← hji8, ← hji11]; first | rfl | (simp [errW_none, errW_some] <;> rfl)) | (simp [*, errW_none, errW_some] <;> rfl), by repeat (first | exact HB.out | (refine msu_alloc ?_ _) | (refine msu_drewN ?_ _) | (refine msu_drew ?_))⟩
              · rw [if_neg c9] at H
                have c9b0 : ((Go.bits .and .i64 (ji8) 1) == 1) = false := beq_eq_false_iff_ne.mpr c9
                have c9b1 : ((Go.bits .and .i64 (ji8) 1) != 1) = true := bne_iff_ne.mpr c9
                have H' := Aside0.mk H
                clear H
                have p105 : 0 ≤ (a2 : Int) := of_decide_eq_true (by first | (with_reducible assumption) | assumption)
                have q105 : a2 < (l0.length : Int) := of_decide_eq_true (by first | (with_reducible assumption) | assumption)
                obtain ⟨ad105, e105, hx105_0⟩ := Kd.at_int HR0.out a2 p105 q105
                cases e105
                replace hx105_0 := msu_cell HM0.out HB.out hx105_0
                replace p105 := eq_true p105
                replace q105 := eq_true q105
                go_wp2
                go_roundg k1
                case measure => have := HK1.out; omega
                case rel => exact ⟨(wrap64 (x12_1 + 1)), (by first | rfl | (simp; done) | (simp [*]; done)), H', ⟨by have := HK1.out; omega⟩, ⟨by repeat (first | exact HB.out | (refine msu_alloc ?_ _) | (refine msu_drewN ?_ _) | (refine msu_drew ?_))⟩⟩
            · rw [if_neg c7] at H
              exact absurd H (by simp)
          · rw [if_neg c6] at H
            exact absurd H (by simp)
        · rw [if_neg c5] at H
          exact absurd H (by simp)
      · rw [if_neg c4] at H
        have c4b0 : decide (x12_1 < (l0.length : Int)) = false := decide_eq_false c4
        clear c4
        obtain rfl := Option.some.inj H
        go_wp2
        go_ret
        exact ⟨by first | rfl | (simp [errW_none, errW_some] <;> rfl) | (simp [*, errW_none, errW_some] <;> rfl), by repeat (first | exact HB.out | (refine msu_alloc ?_ _) | (refine msu_drewN ?_ _) | (refine msu_drew ?_))⟩

theorem load2 {w : World} {g : Nat} {x y : Value} {t : TypeId} (h : w.heap[g]? = some (Obj.cells #[x, y] t)) : w.cell? ⟨g, 0, none⟩ = some x ∧ w.cell? ⟨g, 1, none⟩ = some y := by
  unfold World.cell?
  rw [h]
  exact ⟨rfl, rfl⟩
def visits_shop_wins.T5 : Bool × List (List Nat × List Nat) := (true, [([], []), ([], []), ([], []), ([], []), ([], []), ([], []), ([2, 3, 4, 5], [2, 3, 4, 5]), ([6], [6]), ([0, 1, 7, 6, 0, 1, 2, 3, 4, 5, 6, 7], [0, 1, 7])])
def visits_shop_wins.B5 : List Nat := [0, 0, 0, 0, 0, 0, 60, 124, 255]
theorem visits_shop_wins.tab5 : rtab .any (opsOf Tryd.f47 5) = visits_shop_wins.T5 := by kernel_rfl
theorem visits_shop_wins.bits5 : waitsOk visits_shop_wins.T5.2 visits_shop_wins.B5 = true := by kernel_rfl
set_option maxHeartbeats 8000000 in
set_option maxRecDepth 100000 in
theorem wins_at (k : Nat) (hm : ∀ (A0 : Option Addr) (c0 : Nat) (l0 : List Int) (a1 : Int) (a2 : Int) (r : Int) (w : World) (b : Nat) (hM : MemoB w b (winsGood l0)) (hr0 : Kd.C (Kd.int .i64) w A0 l0.length l0) (hc0 : l0.length ≤ c0) (h : visits_shop_move.f k l0 a1 a2 = some r),
    Calls Tryd.prog 53 #[.slice A0 l0.length c0, .int .i64 a1, .int .i64 a2, .map (some b)] w fun e w' => e = .returned (.int .i64 r) ∧ MSu w w' b (winsGood l0)) : ∀ (A0 : Option Addr) (c0 : Nat) (l0 : List Int) (a1 : Int) (a2 : Int) (r : Bool) (w : World) (b : Nat) (hM : MemoB w b (winsGood l0)) (hr0 : Kd.C (Kd.int .i64) w A0 l0.length l0) (hc0 : l0.length ≤ c0) (h : visits_shop_wins.f k l0 a1 a2 = some r),
    Calls Tryd.prog 47 #[.slice A0 l0.length c0, .int .i64 a1, .int .i64 a2, .map (some b)] w fun e w' => e = .returned (.bool r) ∧ MSu w w' b (winsGood l0) := by
  intro A0 c0 l0 a1 a2 r w b hM hr0 hc0 h
  have HF := Aside0.mk h
  have HR0 := Aside0.mk hr0
  have HC0 := Aside0.mk hc0
  clear hr0 hc0
  have HM0 := Aside0.mk hM
  have HB := Aside0.mk (MSu.refl hM)
  clear hM
  have H : ((visits_shop_move.f k l0 a1 a2).bind fun t101 => (some (decide (t101 ≥ 0)))) = some r := h
  clear h
  replace H := Option.bind_eq_some_iff.mp H
  obtain ⟨t101, A40, H⟩ := H
  replace H : (some (decide (t101 ≥ 0))) = some r := H
  have A4 := Aside0.mk A40
  clear A40
  have HR := Aside0.mk (Option.some.inj H)
  clear H
  obtain ⟨mv, mok, hl, hg⟩ := lookB (w := w.alloc (Obj.cells #[Value.int IntKind.i64 a1, Value.int IntKind.i64 a2] 74)) (HM0.out.below (below_alloc (Below.refl _ _) _)) a1 a2
  by_cases hmok : mok = true
  · subst hmok
    have hmr : mv = r := wins_det (hg rfl) HF.out
    subst hmr
    clear hg
    go_enter Tryd.func47, Tryd.ntmps47
    go_wp2
    go_ret
    exact ⟨rfl, msu_alloc HB.out _⟩
  obtain rfl : mok = false := by simpa using hmok
  clear hmok hg
  go_enter Tryd.func47, Tryd.ntmps47
  try go_wp2
  have hcell0 : (w.alloc (Obj.cells #[Value.int IntKind.i64 a1, Value.int IntKind.i64 a2] 74)).drew.heap[w.heap.size]? = some (Obj.cells #[Value.int IntKind.i64 a1, Value.int IntKind.i64 a2] 74) := heap_alloc_new w _
  clear hl
  have n0_ := Aside0.mk (msu_drew (msu_alloc HB.out (Obj.cells #[Value.int IntKind.i64 a1, Value.int IntKind.i64 a2] 74)))
  clear HB
  have HB := n0_
  clear n0_
  refine start_ (n := 9) (S := fun w' => w'.heap[w.heap.size]? = some (Obj.cells #[Value.int IntKind.i64 a1, Value.int IntKind.i64 a2] 74)) (ds := []) #[false, false, false, false, false, false, false, false, false] (by kernel_rfl) rfl rfl (by exact hcell0) (fun hHeld => ?_); refine with_tabW visits_shop_wins.tab5 visits_shop_wins.bits5 (fun HT_ HW_ => ?_)
  clear hcell0; generalize (w.alloc (Obj.cells #[Value.int IntKind.i64 a1, Value.int IntKind.i64 a2] 74)).drew = w5 at HB hHeld ⊢
  refine pure_ (i := 0) (N := some 23) (v := ?_) (a' := ?_) #[true, false, false, false, false, false, false, false, false] rfl rfl (any_of HT_.out (by kernel_rfl)) (fun _ _ _ h => h) (Or.inl ⟨by rfl, ?_⟩) ?_ ?_
  rotate_left
  · intro w'
    go_simp
    with_reducible rfl
  rotate_left
  · simp only [Act.put, List.setIfInBounds_toArray, List.set_cons_zero, List.set_cons_succ, i64_w, i32_w]
    rfl
  refine take_ (i := 1) (N := some 24) (v := ?_) (a' := ?_) #[true, true, false, false, false, false, false, false, false] rfl rfl (take_ofW HT_.out HW_.out (by kernel_rfl)) (fun _ _ _ h => h) (Or.inl ⟨by rfl, ?_⟩) hHeld ?_ ?_
  rotate_left
  · rintro w' s0
    have s1 := load2 s0
    go_simp
    with_reducible rfl
  rotate_left
  · simp only [Act.put, List.setIfInBounds_toArray, List.set_cons_zero, List.set_cons_succ, i64_w, i32_w]
    rfl
  refine pure_ (i := 2) (N := some 25) (v := ?_) (a' := ?_) #[true, true, true, false, false, false, false, false, false] rfl rfl (any_of HT_.out (by kernel_rfl)) (fun _ _ _ h => h) (Or.inl ⟨by rfl, ?_⟩) ?_ ?_
  rotate_left
  · intro w'
    go_simp
    with_reducible rfl
  rotate_left
  · simp only [Act.put, List.setIfInBounds_toArray, List.set_cons_zero, List.set_cons_succ, i64_w, i32_w]
    rfl
  refine pure_ (i := 3) (N := some 26) (v := ?_) (a' := ?_) #[true, true, true, true, false, false, false, false, false] rfl rfl (any_of HT_.out (by kernel_rfl)) (fun _ _ _ h => h) (Or.inl ⟨by rfl, ?_⟩) ?_ ?_
  rotate_left
  · intro w'
    go_simp
    with_reducible rfl
  rotate_left
  · simp only [Act.put, List.setIfInBounds_toArray, List.set_cons_zero, List.set_cons_succ, i64_w, i32_w]
    rfl
  refine pure_ (i := 4) (N := some 27) (v := ?_) (a' := ?_) #[true, true, true, true, true, false, false, false, false] rfl rfl (any_of HT_.out (by kernel_rfl)) (fun _ _ _ h => h) (Or.inl ⟨by rfl, ?_⟩) ?_ ?_
  rotate_left
  · intro w'
    go_simp
    with_reducible rfl
  rotate_left
  · simp only [Act.put, List.setIfInBounds_toArray, List.set_cons_zero, List.set_cons_succ, i64_w, i32_w]
    rfl
  refine pure_ (i := 5) (N := some 28) (v := ?_) (a' := ?_) #[true, true, true, true, true, true, false, false, false] rfl rfl (any_of HT_.out (by kernel_rfl)) (fun _ _ _ h => h) (Or.inl ⟨by rfl, ?_⟩) ?_ ?_
  rotate_left
  · intro w'
    go_simp
    with_reducible rfl
  rotate_left
  · simp only [Act.put, List.setIfInBounds_toArray, List.set_cons_zero, List.set_cons_succ, i64_w, i32_w]
    rfl
  refine one_ (i := 6) (N := some 29) #[true, true, true, true, true, true, true, false, false] rfl rfl (one_of HT_.out (by kernel_rfl)) (by decide) (fun K hK => ?_)
  refine goes_ Tryd.func53 (by kernel_rfl) rfl #[.slice A0 l0.length c0, .int .i64 a1, .int .i64 a2, .map (some b)] (by rfl) rfl rfl (by (try simp only [List.map_toArray, List.map_cons, List.map_nil]); first | done | rfl | (simp only [List.length_drop, List.length_take]; rfl)) ?_
  with_reducible refine (hm _ _ l0 a1 a2 t101 _ b (MSu.memo (w := w) (by repeat (first | exact HB.out | (refine msu_alloc ?_ _) | (refine msu_drewN ?_ _) | (refine msu_drew ?_)))) ?side1 ?side2 A4.out).mono ?_
  (case side1 => repeat (first | exact (msu_C HM0.out HB.out HR0.out) | (with_reducible refine Kd.C_alloc ?_ _) | (with_reducible refine Kd.C_drewN ?_ _) | (with_reducible refine Kd.C_drew ?_)))
  (case side2 => exact HC0.out)
  rintro e w6 ⟨rfl, hb⟩
  have hcl6 := (hb.upd.block w.heap.size (by have := lt_of_block hHeld; exact this) (by have := HM0.out.lt; omega)).trans hHeld
  refine ⟨_, rfl, ?_⟩
  have n0_ := Aside0.mk (MSu.step (by repeat (first | exact HB.out | (refine msu_alloc ?_ _) | (refine msu_drewN ?_ _) | (refine msu_drew ?_))) hb)
  clear HB
  have HB := n0_
  clear n0_
  (try clear hb)
  (try clear hb2)
  (try clear hk)
  (try clear hi)
  refine hK.out _ _ hcl6 (fun hHeld => ?_)
  clear hcl6
  clear hK K
  refine norm_ (a' := ?_) ?_ ?_
  rotate_left
  · show Act.put _ (some 29) _ = _
    simp only [Act.put, List.setIfInBounds_toArray, List.set_cons_zero, List.set_cons_succ, i64_w, i32_w]
    rfl
  refine pure_ (i := 7) (N := some 30) (v := ?_) (a' := ?_) #[true, true, true, true, true, true, true, true, false] rfl rfl (any_of HT_.out (by kernel_rfl)) (fun _ _ _ h => h) (Or.inl ⟨by rfl, ?_⟩) ?_ ?_
  rotate_left
  · intro w'
    go_simp
    with_reducible rfl
  rotate_left
  · simp only [Act.put, List.setIfInBounds_toArray, List.set_cons_zero, List.set_cons_succ, i64_w, i32_w]
    rfl
  refine one_ (i := 8) (N := none) #[true, true, true, true, true, true, true, true, true] rfl rfl (one_of HT_.out (by kernel_rfl)) (by decide) (fun K hK => ?_)
  obtain ⟨w7, hu7, hm7, hp7, hl7⟩ := updB HB.out.memo a1 a2 (decide (t101 ≥ 0)) ⟨k, by rw [HR.out]; exact HF.out⟩ (fun y hy => by rw [HR.out]; exact wins_det hy HF.out)
  refine eff_ (w1 := w7) (by rfl) rfl (by go_simp; first | done | rfl) ?_
  have hcl7 := (hp7.block w.heap.size (lt_of_block hHeld) (by have := HM0.out.lt; omega)).trans hHeld
  refine hK.out _ _ hcl7 (fun hHeld => ?_)
  clear hK K hcl7
  have s7 := load2 hHeld
  rw [HR.out] at hl7
  refine done_ (done_of HT_.out (by kernel_rfl)) ?_
  try go_wp2
  go_ret
  exact ⟨rfl, ⟨HB.out.upd.trans hp7, hm7⟩⟩

theorem wins_move (k : Nat) : (∀ (A0 : Option Addr) (c0 : Nat) (l0 : List Int) (a1 : Int) (a2 : Int) (r : Bool) (w : World) (b : Nat) (hM : MemoB w b (winsGood l0)) (hr0 : Kd.C (Kd.int .i64) w A0 l0.length l0) (hc0 : l0.length ≤ c0) (h : visits_shop_wins.f k l0 a1 a2 = some r),
    Calls Tryd.prog 47 #[.slice A0 l0.length c0, .int .i64 a1, .int .i64 a2, .map (some b)] w fun e w' => e = .returned (.bool r) ∧ MSu w w' b (winsGood l0)) ∧ (∀ (A0 : Option Addr) (c0 : Nat) (l0 : List Int) (a1 : Int) (a2 : Int) (r : Int) (w : World) (b : Nat) (hM : MemoB w b (winsGood l0)) (hr0 : Kd.C (Kd.int .i64) w A0 l0.length l0) (hc0 : l0.length ≤ c0) (h : visits_shop_move.f k l0 a1 a2 = some r),
    Calls Tryd.prog 53 #[.slice A0 l0.length c0, .int .i64 a1, .int .i64 a2, .map (some b)] w fun e w' => e = .returned (.int .i64 r) ∧ MSu w w' b (winsGood l0)) := by
  induction k using Nat.strongRecOn with
  | _ k ih =>
    have h := move_at k (fun m hm => (ih m hm).1)
    exact ⟨wins_at k h, h⟩

end Go.Proofs.YtadfcplobidmeaaDoor.Print
