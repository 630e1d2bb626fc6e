/- The library's TrailingZeros, and first, by hand. -/
import Derived.Test.YtadfcplobidmeaaDoorProg
import Derived.Laws.EntriesVeiled
import Derived.Outline
import Derived.Below
import Derived.Deep.Draws
import Derived.Deep.AppendLies
import Derived.Maps.AppendAt
import Derived.OwnWalk
import Derived.Laws.BytesArg
import Derived.Laws.MakeOwn
import Derived.Laws.OwnMore
import Derived.Deep.OwnRows
import Derived.Tactics
import Derived.Lib.ConvBytes
import Derived.Laws.Slices
import Derived.WalkKit
import Derived.KernelRfl
import Derived.RowKit3
import Derived.Deep.LoopGhost
import Derived.Deep.QuietTactic
import Derived.BigQuiet
import Derived.WideLaws
import Derived.Deep.DeepCutAuto
import Derived.Deep.CutBlock
import Derived.Deep.RegionHeld3
import Derived.Laws.Rows
import Derived.Lib.AppendStr
import Derived.ArgAppend
import Derived.Laws.IdiomCopy
import Derived.OrdersHeld
import Derived.Laws.BitsLemmas
import Derived.RowKit
import Derived.Test.YtadfcplobidmeaaDoorWMore
namespace Go.Proofs.YtadfcplobidmeaaDoor.Print
open Go.RowKit Go.Proofs.YtadfcplobidmeaaDoorW.PrintWords Go.Proofs.YtadfcplobidmeaaDoorW.PrintLast Go.Proofs.YtadfcplobidmeaaDoorW.PrintMore
attribute [local go_sem] max2_int min2_int max_two min_two max_three min_three max_four min_four
set_option linter.unusedVariables false
set_option linter.unusedSimpArgs false
/-- The table of the library by which a lowest bit is told lies where it lies. -/
def tab64 : List Int := [0, 1, 56, 2, 57, 49, 28, 3, 61, 58, 42, 50, 38, 29, 17, 4, 62, 47, 59, 36, 45, 43, 51, 22, 53, 39, 33, 30, 24, 18, 12, 5, 63, 55, 48, 27, 60, 41, 37, 16, 46, 35, 44, 21, 52, 32, 23, 11, 54, 26, 40, 15, 34, 20, 31, 10, 25, 14, 19, 9, 13, 8, 7, 6]
def Tab (w : World) : Prop := ∀ i, i < 64 → w.cell? ⟨1, i, none⟩ = some (.int .u8 (tab64.getD i 0))
theorem tab_of {w w' : World} (h : Tab w) (hh : w'.heap[1]? = w.heap[1]?) : Tab w' := fun i hi => by
  have h1 := h i hi
  unfold World.cell? at h1 ⊢
  simp only at h1 ⊢
  rw [hh]
  exact h1
theorem tab_lt {w : World} (h : Tab w) : 1 < w.heap.size := by
  have h1 := h 0 (by decide)
  rcases Nat.lt_or_ge 1 w.heap.size with h2 | h2
  · exact h2
  · unfold World.cell? at h1
    simp [Array.getElem?_eq_none h2] at h1
theorem tabB {w w' : World} (h : Tab w) (hb : Below w.heap.size w w') : Tab w' := tab_of h (hb.block 1 (tab_lt h))
theorem tab_alloc {w : World} (h : Tab w) (o : Obj) : Tab (w.alloc o) := tabB h (below_alloc (Below.refl _ _) o)
theorem tab_drew {w : World} (h : Tab w) : Tab w.drew := tabB h (below_drew (Below.refl _ _))
theorem tab_drewN {w : World} (h : Tab w) (m : Nat) : Tab (w.drewN m) := tabB h (pw_below_drewN (Below.refl _ _) m)
def tzi (x : Int) : Int := IntKind.u64.wrap (Go.bits BinOp.and IntKind.u64 x (IntKind.u64.wrap (-x)) * 285870213051353865) / 288230376151711744
def tz (x : Int) : Int := if x = 0 then 64 else tab64.getD (tzi x).toNat 0
theorem u64_bound (z : Int) : 0 ≤ IntKind.u64.wrap z ∧ IntKind.u64.wrap z < 18446744073709551616 := by
  simp [IntKind.wrap, IntKind.signed, IntKind.bits]
  omega
theorem tzi_bound (x : Int) : 0 ≤ tzi x ∧ tzi x < 64 := by
  have := u64_bound (Go.bits BinOp.and IntKind.u64 x (IntKind.u64.wrap (-x)) * 285870213051353865)
  unfold tzi
  omega
theorem tab64_bound : ∀ i, i < 64 → 0 ≤ tab64.getD i 0 ∧ tab64.getD i 0 ≤ 63 := by decide
theorem tz64_calls (x : Int) (w : World) (hT : Tab w) :
    Calls Tryd.prog 72 #[.int .u64 x] w fun e w' => e = .returned (.int .i64 (tz x)) ∧ Below w.heap.size w w' := by
  by_cases hx : x = 0
  · subst hx
    go_enter Tryd.func72, Tryd.ntmps72
    go_wp2
    go_ret
    exact ⟨rfl, Below.refl _ _⟩
  · have c0 : (x == 0) = false := beq_eq_false_iff_ne.mpr hx
    have e : tz x = tab64.getD (tzi x).toNat 0 := if_neg hx
    have hb := tzi_bound x
    have hc := hT (tzi x).toNat (by omega)
    have hv := tab64_bound (tzi x).toNat (by omega)
    rw [e]
    generalize tab64.getD (tzi x).toNat 0 = v at hc hv ⊢
    have hw : IntKind.i64.wrap v = v := by
      rw [i64_w]
      unfold wrap64
      omega
    have hw2 : wrap64 v = v := by
      unfold wrap64
      omega
    unfold tzi at hc hb
    have p1 := eq_true hb.1
    have p2 := eq_true hb.2
    clear hb hv e hT
    go_enter Tryd.func72, Tryd.ntmps72
    go_wp2
    go_ret
    exact ⟨by first | rfl | (rw [hw2]) | (rw [hw]), Below.refl _ _⟩
/-! ### math/bits.TrailingZeros: function 66; visits.first: function 63 -/
theorem tz_calls (x : Int) (w : World) (hT : Tab w) :
    Calls Tryd.prog 66 #[.int .u64 x] w fun e w' => e = .returned (.int .i64 (tz x)) ∧ Below w.heap.size w w' := by
  go_enter Tryd.func66, Tryd.ntmps66
  go_wp2_with fail
  refine (tz64_calls x _ (by repeat (first | exact hT | (refine tab_alloc ?_ _) | (refine tab_drewN ?_ _) | (refine tab_drew ?_)))).mono ?_
  rintro e w1 ⟨rfl, hb⟩
  go_wp2
  go_ret
  exact ⟨rfl, by first | exact hb | exact below_then (below_drew (Below.refl _ _)) (Nat.le_refl _) hb⟩
theorem first_calls (x : Int) (w : World) (hT : Tab w) :
    Calls Tryd.prog 63 #[.int .i64 x] w fun e w' => e = .returned (.int .i64 (tz (IntKind.u64.wrap x))) ∧ Below w.heap.size w w' := by
  go_enter Tryd.func63, Tryd.ntmps63
  go_wp2_with fail
  refine (tz_calls _ _ (by repeat (first | exact hT | (refine tab_alloc ?_ _) | (refine tab_drewN ?_ _) | (refine tab_drew ?_)))).mono ?_
  rintro e w1 ⟨rfl, hb⟩
  go_wp2
  go_ret
  exact ⟨rfl, by first | exact hb | exact below_then (below_drew (Below.refl _ _)) (Nat.le_refl _) hb⟩
theorem tz_low : ∀ n : Nat, n < 1024 → 0 < n → tz (IntKind.u64.wrap n) = ((List.range 10).find? (fun i => n.testBit i)).getD 64 := by decide +kernel
def visits_first.f (a0 : Int) : Option (Int) := some (tz (IntKind.u64.wrap a0))
theorem visits_first.calls (a0 : Int) (r : Int) (w : World) (h : visits_first.f a0 = some r) (hT : Tab w) :
    Calls Tryd.prog 63 #[.int .i64 a0] w fun e w' => e = .returned (.int .i64 r) ∧ Below w.heap.size w w' := by
  obtain rfl := Option.some.inj h
  exact first_calls a0 w hT

end Go.Proofs.YtadfcplobidmeaaDoor.Print
